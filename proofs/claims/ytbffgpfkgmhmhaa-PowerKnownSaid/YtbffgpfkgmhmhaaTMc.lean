/- A power in a world; slices.Clone, New, is, Down, Disk, Writes (functions 40, 15, 41, 16, 17, 23). -/
import Derived.Test.YtbffgpfkgmhmhaaTMb
import Derived.Lib.SliceRun
import Derived.Lib.Builder
set_option linter.unusedVariables false
set_option linter.unusedSimpArgs false
namespace Go.Proofs.Ytbffgpfkgmhmhaa.Dw
open Go.RowKit Go.Maps Go.Proofs.YtbffgpfkgmhmhaaW.PrintWords Go.Proofs.YtbffgpfkgmhmhaaW.PrintLast Go.Proofs.YtbffgpfkgmhmhaaW.PrintMore Go.Proofs.Dk
set_option maxRecDepth 100000
/-- Where a power lies, and what it is made of. -/
structure PW where
  base : Nat
  d : Nat
  mb : Nat
  q : Nat
  pb : Nat
  fuse : Int
  A : Option Addr
  cap : Nat
  keep : List Int
/-- What turns in a power: its writes, whether it is off, the once's two words. -/
structure PC where
  wr : Int
  off : Int
  done : Int
  mu : Int
def pcells (k : PW) (c : PC) : Array Value := #[.pointer (some ⟨k.d, 0, none⟩), .int .i64 k.fuse, .slice k.A k.keep.length k.cap, .int .i64 c.wr, .int .i64 c.off, .int .u32 c.done, .int .i32 c.mu, .int .u32 0]
structure IsP (w : World) (k : PW) (L : Lf) (c : PC) : Prop where
  disk : IsD w k.base k.d k.mb k.q L
  top : w.heap[k.pb]? = some (.cells (pcells k c) 62)
  low : k.base ≤ k.pb
  kl : k.keep.length ≤ 9223372036854775807
  kept : ∀ (j : Nat) (h : j < k.keep.length), ∃ ad, k.A = some ad ∧ w.cell? (ad.add j) = some (.int .i64 k.keep[j]) ∧ (∀ r ∈ L, ad.block ≠ r.2.1) ∧ ad.block ≠ k.pb
theorem cell_of_block {w w' : World} {a : Addr} (h : w'.heap[a.block]? = w.heap[a.block]?) : w'.cell? a = w.cell? a := by
  unfold World.cell?
  rw [h]
theorem cell_not_map {w : World} {a : Addr} {v : Value} {es : Array MapEntry} {n : Nat} (h : w.cell? a = some v) (hm : w.heap[a.block]? = some (.map es n)) : False := by
  unfold World.cell? at h
  rw [hm] at h
  cases h
/-- Of what lay there, none but the map, the disk's files and the power were written; a new file lies in a new block. -/
structure TurnP (w w' : World) (k : PW) (L L' : Lf) : Prop where
  apt : ∀ i, i < w.heap.size → i ≠ k.mb → i ≠ k.pb → (∀ p ∈ L, i ≠ p.2.1) → w'.heap[i]? = w.heap[i]?
  size : w.heap.size ≤ w'.heap.size
  news : ∀ r ∈ L', (∃ p ∈ L, r.2.1 = p.2.1) ∨ w.heap.size ≤ r.2.1
theorem Turn.p {w w' : World} {k : PW} {L L' : Lf} (h : Turn w w' k.mb L L') : TurnP w w' k L L' := ⟨fun i hi hm _ hn => h.apt i hi hm hn, h.size, h.news⟩
theorem TurnP.trans {w w1 w2 : World} {k : PW} {L L1 L2 : Lf} (h : TurnP w w1 k L L1) (h2 : TurnP w1 w2 k L1 L2) : TurnP w w2 k L L2 where
  apt := fun i hi hm hb hn => (h2.apt i (Nat.lt_of_lt_of_le hi h.size) hm hb (fun p hp e => by
    rcases h.news p hp with ⟨r, hr, e2⟩ | h3
    · exact hn r hr (e.trans e2)
    · omega)).trans (h.apt i hi hm hb hn)
  size := Nat.le_trans h.size h2.size
  news := fun r hr => by
    rcases h2.news r hr with ⟨p, hp, e⟩ | h3
    · rw [e]; exact h.news p hp
    · exact Or.inr (Nat.le_trans h.size h3)
theorem TurnP.of_below {w w' : World} (h : Below w.heap.size w w') (k : PW) (L : Lf) : TurnP w w' k L L := (Turn.of_below h k.mb L).p
theorem TurnP.set {w w1 : World} {k : PW} {L L1 : Lf} (h : TurnP w w1 k L L1) (j : Nat) (v : Value) : TurnP w (w1.setCell ⟨k.pb, j, none⟩ v) k L L1 :=
  ⟨fun i hi hm hb hn => (Below.heap_setCell _ _ _ _ hb).trans (h.apt i hi hm hb hn), by simp only [World.setCell, Array.size_modify]; exact h.size, h.news⟩
theorem IsP.ne_mb {w : World} {k : PW} {L : Lf} {c : PC} (h : IsP w k L c) : k.pb ≠ k.mb := fun e => by
  obtain ⟨es, clock, hb, _⟩ := h.disk.map
  have h1 := h.top
  rw [e, hb] at h1
  cases h1
theorem IsP.ne_file {w : World} {k : PW} {L : Lf} {c : PC} (h : IsP w k L c) : ∀ r ∈ L, k.pb ≠ r.2.1 := fun r hr e => by
  have h1 := h.top
  rw [e, h.disk.file r hr] at h1
  cases h1
theorem IsP.ne_d {w : World} {k : PW} {L : Lf} {c : PC} (h : IsP w k L c) : k.pb ≠ k.d := fun e => by
  have h1 := h.top
  rw [e, h.disk.top] at h1
  cases h1
theorem IsP.turned {w w' : World} {k : PW} {L L' : Lf} {c : PC} (h : IsP w k L c) (hD : IsD w' k.base k.d k.mb k.q L') (hT : Turn w w' k.mb L L') : IsP w' k L' c where
  disk := hD
  top := (hT.apt _ (heap_lt h.top) h.ne_mb h.ne_file).trans h.top
  low := h.low
  kl := h.kl
  kept := fun j hj => by
    obtain ⟨ad, hA, hc, hf, hp⟩ := h.kept j hj
    have hbl : (ad.add j).block = ad.block := add_block ad j
    have hlt := cell_lt hc
    rw [hbl] at hlt
    refine ⟨ad, hA, (cell_of_block ?_).trans hc, fun r hr => ?_, hp⟩
    · rw [hbl]
      refine hT.apt _ hlt (fun e => ?_) hf
      obtain ⟨es, clock, hb, _⟩ := h.disk.map
      exact cell_not_map hc (by rw [hbl, e]; exact hb)
    · rcases hT.news r hr with ⟨p, hp2, e⟩ | h3
      · rw [e]; exact hf p hp2
      · omega
theorem IsP.below {w w' : World} {k : PW} {L : Lf} {c : PC} (h : IsP w k L c) (hB : Below w.heap.size w w') : IsP w' k L c := h.turned (h.disk.below hB) (.of_below hB k.mb L)
theorem IsP.alloc {w : World} {k : PW} {L : Lf} {c : PC} (h : IsP w k L c) (o : Obj) : IsP (w.alloc o) k L c := h.below ((Below.refl _ w).alloc (Nat.le_refl _) o)
theorem IsP.drewN {w : World} {k : PW} {L : Lf} {c : PC} (h : IsP w k L c) (n : Nat) : IsP (w.drewN n) k L c := h.below (pw_below_drewN (Below.refl _ w) n)
theorem IsP.drew {w : World} {k : PW} {L : Lf} {c : PC} (h : IsP w k L c) : IsP w.drew k L c := h.below (Below.refl _ w).drew
theorem IsP.set {w : World} {k : PW} {L : Lf} {c : PC} (h : IsP w k L c) (j : Nat) (v : Value) {c' : PC} (hc : (pcells k c).setIfInBounds j v = pcells k c') : IsP (w.setCell ⟨k.pb, j, none⟩ v) k L c' where
  disk := h.disk.same fun i o hi hk => (Below.heap_setCell _ _ _ _ (by
    dsimp only
    rcases hk with rfl | rfl | ⟨p, hp, rfl⟩
    · exact fun e => h.ne_d e.symm
    · exact fun e => h.ne_mb e.symm
    · exact fun e => h.ne_file p hp e.symm)).trans hi
  top := by
    rw [Go.Joins.block_setCell h.top]
    exact congrArg (fun cs => some (Obj.cells cs 62)) hc
  low := h.low
  kl := h.kl
  kept := fun i hi => by
    obtain ⟨ad, hA, hc, hf, hp⟩ := h.kept i hi
    refine ⟨ad, hA, (cell_of_block ?_).trans hc, hf, hp⟩
    exact Below.heap_setCell _ _ _ _ (by rw [add_block]; exact hp)
theorem IsP.c {w : World} {k : PW} {L : Lf} {c : PC} (h : IsP w k L c) (j : Nat) {v : Value} (hv : (pcells k c)[j]? = some v) : w.cell? ⟨k.pb, j, none⟩ = some v := by simp [World.cell?, h.top, hv]
theorem IsP.fz {w : World} {k : PW} {L : Lf} {c : PC} (h : IsP w k L c) (j : Nat) : w.frozen? ⟨k.pb, j, none⟩ = false := blk_frozen h.top j
theorem IsP.size {w : World} {k : PW} {L : Lf} {c : PC} (h : IsP w k L c) : k.base ≤ w.heap.size := h.disk.size
/-! ### is, Down, Writes, Disk -/
theorem isp_calls (w : World) {k : PW} {L : Lf} {c : PC} (h : IsP w k L c) : Calls Try.prog 41 #[.pointer (some ⟨k.pb, 0, none⟩)] w fun e w' => e = .returned (.bool true) ∧ w' = w := by
  have h0 := h.c 0 (v := .pointer (some ⟨k.d, 0, none⟩)) rfl
  go_enter Try.func41, Try.ntmps41
  go_wp2
  go_ret
  exact ⟨rfl, rfl⟩
theorem isp_nil (w : World) : Calls Try.prog 41 #[.pointer none] w fun e w' => e = .returned (.bool false) ∧ w' = w := by
  go_enter Try.func41, Try.ntmps41
  go_wp2
  go_ret
  exact ⟨rfl, rfl⟩
theorem isp_zero (w : World) (p : Nat) (h0 : w.cell? ⟨p, 0, none⟩ = some (.pointer none)) : Calls Try.prog 41 #[.pointer (some ⟨p, 0, none⟩)] w fun e w' => e = .returned (.bool false) ∧ w' = w := by
  go_enter Try.func41, Try.ntmps41
  go_wp2
  go_ret
  exact ⟨rfl, rfl⟩
theorem down_calls (w : World) {k : PW} {L : Lf} {c : PC} (h : IsP w k L c) : Calls Try.prog 16 #[.pointer (some ⟨k.pb, 0, none⟩)] w fun e w' => e = .returned (.bool (c.off != 0)) ∧ w' = w := by
  have h4 := h.c 4 (v := .int .i64 c.off) rfl
  have H := Lib.hid h
  clear h
  go_enter Try.func16, Try.ntmps16
  go_wp2_with (first | (go_at_call 41; refine (isp_calls _ H.out).mono ?_; rintro e w' ⟨rfl, hw'⟩; obtain rfl := hw'.symm) | (go_at_call 42; refine (aload_calls _ ⟨k.pb, 4, none⟩ _ h4).mono ?_; rintro e w' ⟨rfl, hw'⟩; obtain rfl := hw'.symm))
  go_ret
  exact ⟨rfl, rfl⟩
/-- No power: nil, or a struct of zeros. -/
def NoP (w : World) (p : Option Addr) : Prop := ∀ a, p = some a → ∃ b, a = ⟨b, 0, none⟩ ∧ w.cell? ⟨b, 0, none⟩ = some (.pointer none)
theorem isp_no (w : World) {p : Option Addr} (h : NoP w p) : Calls Try.prog 41 #[.pointer p] w fun e w' => e = .returned (.bool false) ∧ w' = w := by
  cases p with
  | none => exact isp_nil w
  | some a =>
    obtain ⟨b, rfl, h0⟩ := h a rfl
    exact isp_zero w b h0
theorem down_no (w : World) {p : Option Addr} (h : NoP w p) : Calls Try.prog 16 #[.pointer p] w fun e w' => e = .returned (.bool true) ∧ w' = w := by
  go_enter Try.func16, Try.ntmps16
  go_wp2_with (first | (go_at_call 41; refine (isp_no _ h).mono ?_; rintro e w' ⟨rfl, hw'⟩; obtain rfl := hw'.symm))
  go_ret
  exact ⟨rfl, rfl⟩
theorem writes_calls (w : World) {k : PW} {L : Lf} {c : PC} (h : IsP w k L c) : Calls Try.prog 23 #[.pointer (some ⟨k.pb, 0, none⟩)] w fun e w' => e = .returned (.int .i64 c.wr) ∧ w' = w := by
  have h3 := h.c 3 (v := .int .i64 c.wr) rfl
  have H := Lib.hid h
  clear h
  go_enter Try.func23, Try.ntmps23
  go_wp2_with (first | (go_at_call 41; refine (isp_calls _ H.out).mono ?_; rintro e w' ⟨rfl, hw'⟩; obtain rfl := hw'.symm) | (go_at_call 42; refine (aload_calls _ ⟨k.pb, 3, none⟩ _ h3).mono ?_; rintro e w' ⟨rfl, hw'⟩; obtain rfl := hw'.symm))
  go_ret
  exact ⟨rfl, rfl⟩
theorem writes_no (w : World) {p : Option Addr} (h : NoP w p) : Calls Try.prog 23 #[.pointer p] w fun e w' => e = .returned (.int .i64 0) ∧ w' = w := by
  go_enter Try.func23, Try.ntmps23
  go_wp2_with (first | (go_at_call 41; refine (isp_no _ h).mono ?_; rintro e w' ⟨rfl, hw'⟩; obtain rfl := hw'.symm))
  go_ret
  exact ⟨rfl, rfl⟩
theorem disk_calls (w : World) {k : PW} {L : Lf} {c : PC} (h : IsP w k L c) : Calls Try.prog 17 #[.pointer (some ⟨k.pb, 0, none⟩)] w fun e w' => e = .returned (.pointer (some ⟨k.d, 0, none⟩)) ∧ w' = w := by
  have h0 := h.c 0 (v := .pointer (some ⟨k.d, 0, none⟩)) rfl
  have H := Lib.hid h
  clear h
  go_enter Try.func17, Try.ntmps17
  go_wp2_with (first | (go_at_call 41; refine (isp_calls _ H.out).mono ?_; rintro e w' ⟨rfl, hw'⟩; obtain rfl := hw'.symm))
  go_ret
  exact ⟨rfl, rfl⟩
theorem disk_no (w : World) {p : Option Addr} (h : NoP w p) : Calls Try.prog 17 #[.pointer p] w fun e w' => e = .returned (.pointer none) ∧ w' = w := by
  go_enter Try.func17, Try.ntmps17
  go_wp2_with (first | (go_at_call 41; refine (isp_no _ h).mono ?_; rintro e w' ⟨rfl, hw'⟩; obtain rfl := hw'.symm))
  go_ret
  exact ⟨rfl, rfl⟩
/-! ### slices.Clone, New -/
theorem info3 : (Try.prog.info? 3).map (fun i => (i.zero, i.size, i.bytes)) = some (some (.int .i64 0), 1, 8) := by kernel_rfl
theorem clone_nil (w : World) (n c : Nat) : Calls Try.prog 40 #[.slice none n c] w fun e w' => e = .returned (.slice none 0 0) ∧ w' = w := by
  have q22 : ∀ (w : World) (a : Option Addr) (n c n' c' : Nat), (binOp .eql 34 (.slice a n c) (.slice none n' c')).run Try.prog w = .ok (.bool a.isNone) w := fun w a n c n' c' => Lib.run_eql_slice_nil w _ _ a n c n' c' Try.underlying34
  go_enter Try.func40, Try.ntmps40
  go_wp2
  go_ret
  exact ⟨rfl, rfl⟩
set_option maxHeartbeats 2000000 in
theorem clone_some (w : World) (ad : Addr) (n c : Nat) (news : List Value) (hl : news.length = n) (hn : n ≤ 1000000) (hc : ∀ j u, news[j]? = some u → w.cell? (ad.add j) = some u) (h1 : ∀ u ∈ news, u.oneCell' = true) :
    Calls Try.prog 40 #[.slice (some ad) n c] w fun e w' => ∃ v', e = .returned v' ∧ w'.ownsRow w.heap.size 3 1 v' n news ∧ Below w.heap.size w w' := by
  have q22 : ∀ (w : World) (a : Option Addr) (n c n' c' : Nat), (binOp .eql 34 (.slice a n c) (.slice none n' c')).run Try.prog w = .ok (.bool a.isNone) w := fun w a n c n' c' => Lib.run_eql_slice_nil w _ _ a n c n' c' Try.underlying34
  obtain ⟨i0, hi, hz0, hz1, hz2⟩ : ∃ i0, Try.prog.info? 3 = some i0 ∧ i0.zero = some (.int .i64 0) ∧ i0.size = 1 ∧ i0.bytes = 8 := info_parts info3
  have A := Lib.hid hc
  clear hc
  go_enter Try.func40, Try.ntmps40
  go_wp2_with (at_builtin; refine wpList_append_own _ rfl _ _ 34 rfl w.heap.size 3 i0 (.int .i64 0) 1 8 Try.underlying34 hi hz0 hz1 hz2 rfl (by decide) _ _ _ rfl (World.ownsRow_made w #[] 0 (Nat.le_refl _) (Nat.zero_le _) (by simp)) ad n c news rfl ?qc1 ?qc2 ?qc3 ?qc4 ?qc5 ?qc6 ?_)
  case qc1 => rw [hl]; omega
  case qc2 =>
    intro j u hj
    exact Lib.cell?_alloc_some _ (A.out j u hj)
  case qc3 => exact h1
  case qc4 => rw [Nat.zero_add]; unfold maxLen; omega
  case qc5 => rw [Nat.zero_add]; omega
  case qc6 => simp
  intro v' w1 hown hgrow hnil
  go_wp2
  go_ret
  refine ⟨v', rfl, by simpa using hown, ?_⟩
  exact ((Below.refl _ w).alloc (Nat.le_refl _) _).grown hgrow (by simp) (by intro k hk; simp [Value.ownBlock] at hk; omega)
end Go.Proofs.Ytbffgpfkgmhmhaa.Dw
/- A power: New, Blow, write, Create, Append, Sync (functions 15, 22, 48, 43, 18, 44, 19, 45, 20, 46). -/
set_option linter.unusedVariables false
set_option linter.unusedSimpArgs false
namespace Go.Proofs.Ytbffgpfkgmhmhaa.Dw
open Go.RowKit Go.Maps Go.Proofs.YtbffgpfkgmhmhaaW.PrintWords Go.Proofs.YtbffgpfkgmhmhaaW.PrintLast Go.Proofs.YtbffgpfkgmhmhaaW.PrintMore Go.Proofs.Dk
set_option maxRecDepth 100000
/-- A cell that is not the disk's. -/
theorem Turn.cell {w w' : World} {base d mb q : Nat} {L L' : Lf} (h : Turn w w' mb L L') (hD : IsD w base d mb q L) {a : Addr} {v : Value} (hc : w.cell? a = some v) (hn : ∀ r ∈ L, a.block ≠ r.2.1) : w'.cell? a = w.cell? a :=
  cell_of_block (h.apt _ (cell_lt hc) (fun e => by
    obtain ⟨es, clock, hb, _⟩ := hD.map
    exact cell_not_map hc (by rw [e]; exact hb)) hn)
/-! ### New -/
theorem pnew_nil (w : World) (fuse : Int) (A : Option Addr) (n cap : Nat) : Calls Try.prog 15 #[.pointer none, .int .i64 fuse, .slice A n cap] w fun e w' => e = .returned (.pointer none) ∧ w' = w := by
  go_enter Try.func15, Try.ntmps15
  go_wp2
  go_ret
  exact ⟨rfl, rfl⟩
theorem kept_row {w : World} {B g : Nat} {cap : Nat} {keep : List Int} (h : w.ownsRow B 3 1 (.slice (some ⟨g, 0, none⟩) keep.length cap) keep.length (keep.map (Value.int .i64))) (j : Nat) (hj : j < keep.length) :
    w.cell? ((⟨g, 0, none⟩ : Addr).add j) = some (.int .i64 keep[j]) :=
  h.cells rfl j _ (by simp [hj])
theorem row_slice {w : World} {B : Nat} {v : Value} {n : Nat} {xs : List Value} (h : w.ownsRow B 3 1 v n xs) : ∃ A cap, v = .slice A n cap := by
  rcases h.2 with ⟨rfl, rfl⟩ | ⟨g, cap, cur, rfl, _⟩
  · exact ⟨_, _, rfl⟩
  · exact ⟨_, _, rfl⟩
set_option maxHeartbeats 1000000 in
theorem pnew_calls (w : World) {base d mb q : Nat} {L : Lf} (hD : IsD w base d mb q L) (fuse : Int) (A : Option Addr) (cap : Nat) (keep : List Int) (hkl : keep.length ≤ 1000000) (hA : A = none → keep = [])
    (hk : Nums w A keep) : Calls Try.prog 15 #[.pointer (some ⟨d, 0, none⟩), .int .i64 fuse, .slice A keep.length cap] w fun e w' =>
      ∃ pb A' cap', e = .returned (.pointer (some ⟨pb, 0, none⟩)) ∧ IsP w' ⟨base, d, mb, q, pb, fuse, A', cap', keep⟩ L ⟨0, 0, 0, 0⟩ ∧ Below w.heap.size w w' ∧ w.heap.size ≤ pb := by
  have HD := Lib.hid hD
  have HC0 : Calls Try.prog 40 #[.slice A keep.length cap] w fun e w' => ∃ v', e = .returned v' ∧ w'.ownsRow w.heap.size 3 1 v' keep.length (keep.map (Value.int .i64)) ∧ Below w.heap.size w w' := by
    cases A with
    | none =>
      obtain rfl := hA rfl
      refine (clone_nil w _ _).mono ?_
      rintro e w' ⟨rfl, rfl⟩
      exact ⟨_, rfl, ⟨by simp, Or.inl ⟨rfl, rfl⟩⟩, Below.refl _ _⟩
    | some ad =>
      refine clone_some w ad keep.length cap (keep.map (Value.int .i64)) (by simp) hkl (fun j u hj => ?_) (fun u hu => ?_)
      · have hj2 : j < keep.length := by
          have := (List.getElem?_eq_some_iff.1 hj).1
          simpa using this
        obtain ⟨ad', ha, hc⟩ := hk j hj2
        cases ha
        rw [hc]
        rw [List.getElem?_map, List.getElem?_eq_getElem hj2] at hj
        exact hj
      · obtain ⟨x, _, rfl⟩ := List.mem_map.1 hu
        rfl
  have HC := Lib.hid HC0
  clear hD hk hA HC0
  go_enter Try.func15, Try.ntmps15
  go_wp2_with (go_at_call 40; refine HC.out.mono ?_; rintro e w1 ⟨v', rfl, hown, hB⟩; obtain ⟨A', cap', rfl⟩ := row_slice hown; have HO := Lib.hid hown; have HB := Lib.hid hB; clear hown hB)
  go_ret
  have hD1 := HD.out.below HB.out
  have hlow : base ≤ w1.heap.size := hD1.size
  have hsz := HB.out.size
  refine ⟨w1.heap.size, A', cap', rfl, ?_, HB.out.trans ((Below.refl _ w1).alloc hsz _), hsz⟩
  refine ⟨hD1.alloc _, heap_alloc_new w1 _, hlow, by dsimp only; omega, fun j hj => ?_⟩
  dsimp only at hj
  rcases HO.out.2 with ⟨he, h0⟩ | ⟨g, cap2, cur, he, hg, hcur, _⟩
  · omega
  · obtain ⟨rfl, rfl⟩ : A' = some ⟨g, 0, none⟩ ∧ cap' = cap2 := by injection he with h1 h2 h3; exact ⟨h1, h3⟩
    have hc := kept_row HO.out j hj
    refine ⟨⟨g, 0, none⟩, rfl, cell_below hc ((Below.refl _ w1).alloc (Nat.le_refl _) _), fun r hr e => ?_, fun e => ?_⟩
    · have h1 := heap_lt (HD.out.file r hr)
      dsimp only at e
      omega
    · have h1 := heap_lt hcur
      dsimp only at e
      omega
/-! ### Blow -/
theorem blow1_calls (w : World) {k : PW} {L : Lf} {c : PC} (h : IsP w k L c) (x0 : Addr) (hx : w.cell? x0 = some (.pointer (some ⟨k.pb, 0, none⟩))) (hxt : ∀ r ∈ L, x0.block ≠ r.2.1) (hxp : x0.block ≠ k.pb) :
    Calls Try.prog 48 #[.pointer (some x0)] w fun e w' => (∃ v, e = .returned v) ∧ ∃ L', fs L' = crash k.keep (fs L) ∧ IsP w' k L' { c with off := 1 } ∧ Below k.base w w' ∧ TurnP w w' k L L' := by
  have H := Lib.hid h
  go_enter Try.func48, Try.ntmps48
  go_wp2_with fail
  refine start_ (n := 9) (S := (fun w' => w'.cell? x0 = some (.pointer (some ⟨k.pb, 0, none⟩)) ∧ ∃ L1 c1, IsP w' k L1 c1)) (ds := []) #[false, false, false, false, false, false, false, false, false] (by kernel_rfl) rfl rfl ⟨hx, _, _, h.drew⟩ (fun hHeld => ?_)
  refine take_ (i := 0) (N := some 1) (v := ?_) (a' := ?_) #[true, false, false, false, false, false, false, false, false] rfl rfl (by kernel_rfl) (fun _ _ _ h => h) (Or.inl ⟨by rfl, ?_⟩) hHeld ?_ ?_
  rotate_left
  · rintro w' ⟨hx1, L1, c1, hP1⟩
    have g0 := hP1.c 0 (v := .pointer (some ⟨k.d, 0, none⟩)) rfl
    have g2 := hP1.c 2 (v := .slice k.A k.keep.length k.cap) rfl
    go_simp
    with_reducible rfl
  rotate_left
  · simp only [Act.put, List.setIfInBounds_toArray, List.set_cons_zero, List.set_cons_succ, i64_w, i32_w]
    rfl
  refine pure_ (i := 1) (N := some 2) (v := ?_) (a' := ?_) #[true, true, false, false, false, false, false, false, false] rfl rfl (by kernel_rfl) (fun _ _ _ h => h) (Or.inl ⟨by rfl, ?_⟩) ?_ ?_
  rotate_left
  · intro w'
    go_simp
    with_reducible rfl
  rotate_left
  · simp only [Act.put, List.setIfInBounds_toArray, List.set_cons_zero, List.set_cons_succ, i64_w, i32_w]
    rfl
  refine pure_ (i := 2) (N := some 3) (v := ?_) (a' := ?_) #[true, true, true, false, false, false, false, false, false] rfl rfl (by kernel_rfl) (fun _ _ _ h => h) (Or.inl ⟨by rfl, ?_⟩) ?_ ?_
  rotate_left
  · intro w'
    go_simp
    with_reducible rfl
  rotate_left
  · simp only [Act.put, List.setIfInBounds_toArray, List.set_cons_zero, List.set_cons_succ, i64_w, i32_w]
    rfl
  refine take_ (i := 3) (N := some 4) (v := ?_) (a' := ?_) #[true, true, true, true, false, false, false, false, false] rfl rfl (by kernel_rfl) (fun _ _ _ h => h) (Or.inl ⟨by rfl, ?_⟩) hHeld ?_ ?_
  rotate_left
  · rintro w' ⟨hx1, L1, c1, hP1⟩
    have g0 := hP1.c 0 (v := .pointer (some ⟨k.d, 0, none⟩)) rfl
    have g2 := hP1.c 2 (v := .slice k.A k.keep.length k.cap) rfl
    go_simp
    with_reducible rfl
  rotate_left
  · simp only [Act.put, List.setIfInBounds_toArray, List.set_cons_zero, List.set_cons_succ, i64_w, i32_w]
    rfl
  refine take_ (i := 4) (N := some 5) (v := ?_) (a' := ?_) #[true, true, true, true, true, false, false, false, false] rfl rfl (by kernel_rfl) (fun _ _ _ h => h) (Or.inl ⟨by rfl, ?_⟩) hHeld ?_ ?_
  rotate_left
  · rintro w' ⟨hx1, L1, c1, hP1⟩
    have g0 := hP1.c 0 (v := .pointer (some ⟨k.d, 0, none⟩)) rfl
    have g2 := hP1.c 2 (v := .slice k.A k.keep.length k.cap) rfl
    go_simp
    with_reducible rfl
  rotate_left
  · simp only [Act.put, List.setIfInBounds_toArray, List.set_cons_zero, List.set_cons_succ, i64_w, i32_w]
    rfl
  refine pure_ (i := 5) (N := some 6) (v := ?_) (a' := ?_) #[true, true, true, true, true, true, false, false, false] rfl rfl (by kernel_rfl) (fun _ _ _ h => h) (Or.inl ⟨by rfl, ?_⟩) ?_ ?_
  rotate_left
  · intro w'
    go_simp
    with_reducible rfl
  rotate_left
  · simp only [Act.put, List.setIfInBounds_toArray, List.set_cons_zero, List.set_cons_succ, i64_w, i32_w]
    rfl
  refine pure_ (i := 6) (N := some 7) (v := ?_) (a' := ?_) #[true, true, true, true, true, true, true, false, false] rfl rfl (by kernel_rfl) (fun _ _ _ h => h) (Or.inl ⟨by rfl, ?_⟩) ?_ ?_
  rotate_left
  · intro w'
    go_simp
    with_reducible rfl
  rotate_left
  · simp only [Act.put, List.setIfInBounds_toArray, List.set_cons_zero, List.set_cons_succ, i64_w, i32_w]
    rfl
  refine take_ (i := 7) (N := some 8) (v := ?_) (a' := ?_) #[true, true, true, true, true, true, true, true, false] rfl rfl (by kernel_rfl) (fun _ _ _ h => h) (Or.inl ⟨by rfl, ?_⟩) hHeld ?_ ?_
  rotate_left
  · rintro w' ⟨hx1, L1, c1, hP1⟩
    have g0 := hP1.c 0 (v := .pointer (some ⟨k.d, 0, none⟩)) rfl
    have g2 := hP1.c 2 (v := .slice k.A k.keep.length k.cap) rfl
    go_simp
    with_reducible rfl
  rotate_left
  · simp only [Act.put, List.setIfInBounds_toArray, List.set_cons_zero, List.set_cons_succ, i64_w, i32_w]
    rfl
  refine one_ (i := 8) (N := some 9) #[true, true, true, true, true, true, true, true, true] rfl rfl (by kernel_rfl) (by decide) (fun K hK => ?_)
  refine goes_ Try.func35 (by kernel_rfl) rfl #[.pointer (some ⟨k.d, 0, none⟩), .slice k.A k.keep.length k.cap] (by rfl) rfl rfl (by simp only [List.map_toArray, List.map_cons, List.map_nil]; rfl) ?_
  refine (crash_full _ H.out.drew.disk k.A k.cap k.keep H.out.kl (fun j hj => by obtain ⟨ad, hA, hc, hf, hp⟩ := H.out.drew.kept j hj; exact ⟨ad, hA, hc, hf⟩)).mono ?_
  rintro e w5 ⟨⟨v, rfl⟩, hB5, L', hL', hD5, hT5⟩
  have HP5 := Lib.hid (H.out.drew.turned hD5 hT5)
  have HX5 := Lib.hid ((hT5.cell (H.out.drew.disk) hx hxt).trans hx)
  have HB5 := Lib.hid (((Below.refl k.base w).drew).trans hB5)
  have HT5 := Lib.hid ((TurnP.of_below (Below.refl _ w).drew k L).trans hT5.p)
  clear hB5 hD5 hT5 hx
  refine ⟨_, rfl, ?_⟩
  refine hK.out _ _ ⟨HX5.out, _, _, HP5.out⟩ (fun hHeld => ?_)
  clear hK K
  refine norm_ (a' := ?_) ?_ ?_
  rotate_left
  · show Act.put _ (some 9) _ = _
    simp only [Act.put, List.setIfInBounds_toArray, List.set_cons_zero, List.set_cons_succ, i64_w, i32_w]
    rfl
  refine done_ (by kernel_rfl) ?_
  clear h
  have x5 := HX5.out
  have c4 := HP5.out.c 4 (v := .int .i64 c.off) rfl
  have z4 := HP5.out.fz 4
  go_wp2_with (go_at_call 49; refine (astore_calls _ ⟨k.pb, 4, none⟩ 1 c4 z4).mono ?_; rintro e w6 ⟨rfl, hw'⟩; obtain rfl := hw'.symm)
  go_end0
  exact ⟨⟨_, rfl⟩, L', hL', HP5.out.set 4 (.int .i64 1) rfl, HB5.out.setCell (p := ⟨k.pb, 4, none⟩) HP5.out.low _, HT5.out.set 4 _⟩
theorem blow_no (w : World) {p : Option Addr} (h : NoP w p) : Calls Try.prog 22 #[.pointer p] w fun e w' => (∃ v, e = .returned v) ∧ Below w.heap.size w w' := by
  have h1 : NoP (w.alloc (.cells #[.pointer p] 41)) p := fun a ha => by
    obtain ⟨b, rfl, hc⟩ := h a ha
    exact ⟨b, rfl, cell_below hc ((Below.refl _ w).alloc (Nat.le_refl _) _)⟩
  go_enter Try.func22, Try.ntmps22
  go_wp2_with (first | (go_at_call 41; refine (isp_no _ h1).mono ?_; rintro e w' ⟨rfl, hw'⟩; obtain rfl := hw'.symm))
  first | go_end0 | (simp only [Exit.inBlock, Exit.then]; refine bodyPost_ret (results_none rfl _ _ _) rfl ?_) | refine bodyPost_ret (results_none rfl _ _ _) rfl ?_
  exact ⟨⟨_, rfl⟩, (Below.refl _ w).alloc (Nat.le_refl _) _⟩
/-- Not off: it goes off. -/
theorem blow_on (w : World) {k : PW} {L : Lf} {c : PC} (h : IsP w k L c) (hd : c.done = 0) (hm : c.mu = 0) : Calls Try.prog 22 #[.pointer (some ⟨k.pb, 0, none⟩)] w fun e w' =>
    (∃ v, e = .returned v) ∧ ∃ L', fs L' = crash k.keep (fs L) ∧ IsP w' k L' ⟨c.wr, 1, 1, 0⟩ ∧ Below k.base w w' ∧ TurnP w w' k L L' := by
  have hP1 := h.alloc (.cells #[.pointer (some ⟨k.pb, 0, none⟩)] 41)
  have hx1 : (w.alloc (.cells #[.pointer (some ⟨k.pb, 0, none⟩)] 41)).cell? ⟨w.heap.size, 0, none⟩ = some (.pointer (some ⟨k.pb, 0, none⟩)) := by simp
  have HI := Lib.hid (isp_calls _ hP1)
  have HB1 := Lib.hid ((Below.refl w.heap.size w).alloc (Nat.le_refl _) (.cells #[.pointer (some ⟨k.pb, 0, none⟩)] 41))
  have hpl := heap_lt h.top
  have hfl : ∀ r ∈ L, w.heap.size ≠ r.2.1 := fun r hr e => by have := heap_lt (h.disk.file r hr); omega
  have hsz := h.size
  generalize hW : w.alloc (.cells #[.pointer (some ⟨k.pb, 0, none⟩)] 41) = W at *
  have c5 : W.cell? ⟨k.pb, 5, none⟩ = some (.int .u32 0) := by have := hP1.c 5 (v := .int .u32 c.done) rfl; rwa [hd] at this
  have c6 : W.cell? ⟨k.pb, 5 + 1, none⟩ = some (.int .i32 0) := by have := hP1.c 6 (v := .int .i32 c.mu) rfl; rwa [hm] at this
  have hP2 := hP1.set 6 (.int .i32 1) (c' := { c with mu := 1 }) rfl
  have hx2 : (W.setCell ⟨k.pb, 5 + 1, none⟩ (.int .i32 1)).cell? ⟨w.heap.size, 0, none⟩ = some (.pointer (some ⟨k.pb, 0, none⟩)) := (cell_of_block (Below.heap_setCell _ _ _ _ (by dsimp only; omega))).trans hx1
  have HF := Lib.hid (do_first k.pb 5 ⟨w.heap.size, 0, none⟩ W _ c5 c6 (hP1.fz 6) (blow1_calls _ hP2 ⟨w.heap.size, 0, none⟩ hx2 hfl (by dsimp only; omega)) (fun w1 hw1 => by
    obtain ⟨L', hL', hP3, _, _⟩ := hw1
    have a5 := hP3.c 5 (v := .int .u32 c.done) rfl
    rw [hd] at a5
    exact ⟨a5, hP3.c 6 rfl, hP3.fz 5, hP3.fz 6⟩))
  have H1 := Lib.hid hP1
  clear c5 c6 hP2 hx2 hP1 h
  go_enter Try.func22, Try.ntmps22
  go_wp2_with (first | (go_at_call 41; refine HI.out.mono ?_; rintro e w' ⟨rfl, hw'⟩; obtain rfl := hw'.symm) | (go_at_call 47; refine HF.out.mono ?_; rintro e w' ⟨rfl, w1, ⟨L', hL', hP3, hB3, hT3⟩, rfl⟩; have HP3 := Lib.hid hP3; have HB3 := Lib.hid hB3; have HT3 := Lib.hid hT3; clear hP3 hB3 hT3))
  go_end0
  have hP4 := (HP3.out.drew.set 5 (.int .u32 1) (c' := ⟨c.wr, 1, 1, 1⟩) rfl).set 6 (.int .i32 0) (c' := ⟨c.wr, 1, 1, 0⟩) rfl
  have hB2 : Below k.base w (W.setCell ⟨k.pb, 6, none⟩ (.int .i32 1)) := (HB1.out.mono hsz).setCell (p := ⟨k.pb, 6, none⟩) H1.out.low _
  have hT2 : TurnP w (W.setCell ⟨k.pb, 6, none⟩ (.int .i32 1)) k L L := (TurnP.of_below HB1.out k L).set 6 _
  refine ⟨⟨_, rfl⟩, L', hL', hP4, ((((hB2.trans HB3.out).drew).setCell (p := ⟨k.pb, 5, none⟩) H1.out.low _).setCell (p := ⟨k.pb, 6, none⟩) H1.out.low _), ?_⟩
  exact (((hT2.trans HT3.out).trans (TurnP.of_below (Below.refl _ w1).drew k L')).set 5 _).set 6 _
/-- Off: nothing happens. -/
theorem blow_off (w : World) {k : PW} {L : Lf} {c : PC} (h : IsP w k L c) (hd : c.done = 1) : Calls Try.prog 22 #[.pointer (some ⟨k.pb, 0, none⟩)] w fun e w' =>
    (∃ v, e = .returned v) ∧ Below w.heap.size w w' := by
  have hP1 := h.alloc (.cells #[.pointer (some ⟨k.pb, 0, none⟩)] 41)
  have HI := Lib.hid (isp_calls _ hP1)
  have c5 : (w.alloc (.cells #[.pointer (some ⟨k.pb, 0, none⟩)] 41)).cell? ⟨k.pb, 5, none⟩ = some (.int .u32 1) := by have := hP1.c 5 (v := .int .u32 c.done) rfl; rwa [hd] at this
  clear hP1 h
  go_enter Try.func22, Try.ntmps22
  go_wp2_with (first | (go_at_call 41; refine HI.out.mono ?_; rintro e w' ⟨rfl, hw'⟩; obtain rfl := hw'.symm) | (go_at_call 47; refine (do_done ⟨k.pb, 5, none⟩ _ _ c5).mono ?_; rintro e w' ⟨rfl, hw'⟩; obtain rfl := hw'.symm))
  go_end0
  exact ⟨⟨_, rfl⟩, (Below.refl _ w).alloc (Nat.le_refl _) _⟩
/-! ### the closures of Create, Append, Sync -/
theorem create1_calls (w : World) {k : PW} {L : Lf} {c : PC} (h : IsP w k L c) (x0 x1 : Addr) (n : Tx) (hx : w.cell? x0 = some (.pointer (some ⟨k.pb, 0, none⟩))) (hx1 : w.cell? x1 = some (.string (bs n))) :
    Calls Try.prog 44 #[.pointer (some x0), .pointer (some x1)] w (DidT w k.base k.d k.mb k.q L (create (fs L) n)) := by
  have H := Lib.hid h
  clear h
  go_enter Try.func44, Try.ntmps44
  go_wp2_with fail
  refine start_ (n := 7) (S := (fun w' => w'.cell? x0 = some (.pointer (some ⟨k.pb, 0, none⟩)) ∧ w'.cell? x1 = some (.string (bs n)) ∧ IsP w' k L c)) (ds := [5]) #[false, false, false, false, false, false, false] (by kernel_rfl) rfl rfl ⟨hx, hx1, H.out.drew⟩ (fun hHeld => ?_)
  refine take_ (i := 0) (N := some 3) (v := ?_) (a' := ?_) #[true, false, false, false, false, false, false] rfl rfl (by kernel_rfl) (fun _ _ _ h => h) (Or.inl ⟨by rfl, ?_⟩) hHeld ?_ ?_
  rotate_left
  · rintro w' ⟨hx0, hy1, hP1⟩
    have g0 := hP1.c 0 (v := .pointer (some ⟨k.d, 0, none⟩)) rfl
    go_simp
    with_reducible rfl
  rotate_left
  · simp only [Act.put, List.setIfInBounds_toArray, List.set_cons_zero, List.set_cons_succ, i64_w, i32_w]
    rfl
  refine pure_ (i := 1) (N := some 4) (v := ?_) (a' := ?_) #[true, true, false, false, false, false, false] rfl rfl (by kernel_rfl) (fun _ _ _ h => h) (Or.inl ⟨by rfl, ?_⟩) ?_ ?_
  rotate_left
  · intro w'
    go_simp
    with_reducible rfl
  rotate_left
  · simp only [Act.put, List.setIfInBounds_toArray, List.set_cons_zero, List.set_cons_succ, i64_w, i32_w]
    rfl
  refine pure_ (i := 2) (N := some 5) (v := ?_) (a' := ?_) #[true, true, true, false, false, false, false] rfl rfl (by kernel_rfl) (fun _ _ _ h => h) (Or.inl ⟨by rfl, ?_⟩) ?_ ?_
  rotate_left
  · intro w'
    go_simp
    with_reducible rfl
  rotate_left
  · simp only [Act.put, List.setIfInBounds_toArray, List.set_cons_zero, List.set_cons_succ, i64_w, i32_w]
    rfl
  refine take_ (i := 3) (N := some 6) (v := ?_) (a' := ?_) #[true, true, true, true, false, false, false] rfl rfl (by kernel_rfl) (fun _ _ _ h => h) (Or.inl ⟨by rfl, ?_⟩) hHeld ?_ ?_
  rotate_left
  · rintro w' ⟨hx0, hy1, hP1⟩
    have g0 := hP1.c 0 (v := .pointer (some ⟨k.d, 0, none⟩)) rfl
    go_simp
    with_reducible rfl
  rotate_left
  · simp only [Act.put, List.setIfInBounds_toArray, List.set_cons_zero, List.set_cons_succ, i64_w, i32_w]
    rfl
  refine take_ (i := 4) (N := some 7) (v := ?_) (a' := ?_) #[true, true, true, true, true, false, false] rfl rfl (by kernel_rfl) (fun _ _ _ h => h) (Or.inl ⟨by rfl, ?_⟩) hHeld ?_ ?_
  rotate_left
  · rintro w' ⟨hx0, hy1, hP1⟩
    have g0 := hP1.c 0 (v := .pointer (some ⟨k.d, 0, none⟩)) rfl
    go_simp
    with_reducible rfl
  rotate_left
  · simp only [Act.put, List.setIfInBounds_toArray, List.set_cons_zero, List.set_cons_succ, i64_w, i32_w]
    rfl
  refine last_ (i := 5) (N := some 8) #[true, true, true, true, true, true, false] rfl rfl (by kernel_rfl) (by decide) (fun K hK => ?_)
  refine goes_ Try.func30 (by kernel_rfl) rfl #[.pointer (some ⟨k.d, 0, none⟩), .string (bs n)] (by rfl) rfl rfl (by simp only [List.map_toArray, List.map_cons, List.map_nil]; rfl) ?_
  refine (create_full _ H.out.drew.disk n).mono ?_
  rintro e w5 ⟨rfl, hB5, L', hL', hD5, hT5⟩
  refine ⟨_, rfl, ?_⟩
  refine hK.out _ _ ?_
  clear hK K
  refine norm_ (a' := ?_) ?_ ?_
  rotate_left
  · show Act.put _ (some 8) _ = _
    simp only [Act.put, List.setIfInBounds_toArray, List.set_cons_zero, List.set_cons_succ, i64_w, i32_w]
    rfl
  refine pure_ (i := 6) (N := some 2) (v := ?_) (a' := ?_) #[true, true, true, true, true, true, true] rfl rfl (by kernel_rfl) (fun _ _ _ h => h) (Or.inl ⟨by rfl, ?_⟩) ?_ ?_
  rotate_left
  · intro w'
    go_simp
    with_reducible rfl
  rotate_left
  · simp only [Act.put, List.setIfInBounds_toArray, List.set_cons_zero, List.set_cons_succ, i64_w, i32_w]
    rfl
  refine done_ (by kernel_rfl) ?_
  go_wp2_with fail
  go_ret
  exact ⟨rfl, ((Below.refl _ w).drew).trans hB5, L', hL', hD5, ((Turn.of_below (Below.refl _ w).drew k.mb L).trans hT5)⟩
theorem sync1_calls (w : World) {k : PW} {L : Lf} {c : PC} (h : IsP w k L c) (x0 x1 : Addr) (n : Tx) (hx : w.cell? x0 = some (.pointer (some ⟨k.pb, 0, none⟩))) (hx1 : w.cell? x1 = some (.string (bs n))) :
    Calls Try.prog 46 #[.pointer (some x0), .pointer (some x1)] w (DidT w k.base k.d k.mb k.q L (sync (fs L) n)) := by
  have H := Lib.hid h
  clear h
  go_enter Try.func46, Try.ntmps46
  go_wp2_with fail
  refine start_ (n := 7) (S := (fun w' => w'.cell? x0 = some (.pointer (some ⟨k.pb, 0, none⟩)) ∧ w'.cell? x1 = some (.string (bs n)) ∧ IsP w' k L c)) (ds := [5]) #[false, false, false, false, false, false, false] (by kernel_rfl) rfl rfl ⟨hx, hx1, H.out.drew⟩ (fun hHeld => ?_)
  refine take_ (i := 0) (N := some 3) (v := ?_) (a' := ?_) #[true, false, false, false, false, false, false] rfl rfl (by kernel_rfl) (fun _ _ _ h => h) (Or.inl ⟨by rfl, ?_⟩) hHeld ?_ ?_
  rotate_left
  · rintro w' ⟨hx0, hy1, hP1⟩
    have g0 := hP1.c 0 (v := .pointer (some ⟨k.d, 0, none⟩)) rfl
    go_simp
    with_reducible rfl
  rotate_left
  · simp only [Act.put, List.setIfInBounds_toArray, List.set_cons_zero, List.set_cons_succ, i64_w, i32_w]
    rfl
  refine pure_ (i := 1) (N := some 4) (v := ?_) (a' := ?_) #[true, true, false, false, false, false, false] rfl rfl (by kernel_rfl) (fun _ _ _ h => h) (Or.inl ⟨by rfl, ?_⟩) ?_ ?_
  rotate_left
  · intro w'
    go_simp
    with_reducible rfl
  rotate_left
  · simp only [Act.put, List.setIfInBounds_toArray, List.set_cons_zero, List.set_cons_succ, i64_w, i32_w]
    rfl
  refine pure_ (i := 2) (N := some 5) (v := ?_) (a' := ?_) #[true, true, true, false, false, false, false] rfl rfl (by kernel_rfl) (fun _ _ _ h => h) (Or.inl ⟨by rfl, ?_⟩) ?_ ?_
  rotate_left
  · intro w'
    go_simp
    with_reducible rfl
  rotate_left
  · simp only [Act.put, List.setIfInBounds_toArray, List.set_cons_zero, List.set_cons_succ, i64_w, i32_w]
    rfl
  refine take_ (i := 3) (N := some 6) (v := ?_) (a' := ?_) #[true, true, true, true, false, false, false] rfl rfl (by kernel_rfl) (fun _ _ _ h => h) (Or.inl ⟨by rfl, ?_⟩) hHeld ?_ ?_
  rotate_left
  · rintro w' ⟨hx0, hy1, hP1⟩
    have g0 := hP1.c 0 (v := .pointer (some ⟨k.d, 0, none⟩)) rfl
    go_simp
    with_reducible rfl
  rotate_left
  · simp only [Act.put, List.setIfInBounds_toArray, List.set_cons_zero, List.set_cons_succ, i64_w, i32_w]
    rfl
  refine take_ (i := 4) (N := some 7) (v := ?_) (a' := ?_) #[true, true, true, true, true, false, false] rfl rfl (by kernel_rfl) (fun _ _ _ h => h) (Or.inl ⟨by rfl, ?_⟩) hHeld ?_ ?_
  rotate_left
  · rintro w' ⟨hx0, hy1, hP1⟩
    have g0 := hP1.c 0 (v := .pointer (some ⟨k.d, 0, none⟩)) rfl
    go_simp
    with_reducible rfl
  rotate_left
  · simp only [Act.put, List.setIfInBounds_toArray, List.set_cons_zero, List.set_cons_succ, i64_w, i32_w]
    rfl
  refine last_ (i := 5) (N := some 8) #[true, true, true, true, true, true, false] rfl rfl (by kernel_rfl) (by decide) (fun K hK => ?_)
  refine goes_ Try.func39 (by kernel_rfl) rfl #[.pointer (some ⟨k.d, 0, none⟩), .string (bs n)] (by rfl) rfl rfl (by simp only [List.map_toArray, List.map_cons, List.map_nil]; rfl) ?_
  refine (sync_full _ H.out.drew.disk n).mono ?_
  rintro e w5 ⟨rfl, hB5, L', hL', hD5, hT5⟩
  refine ⟨_, rfl, ?_⟩
  refine hK.out _ _ ?_
  clear hK K
  refine norm_ (a' := ?_) ?_ ?_
  rotate_left
  · show Act.put _ (some 8) _ = _
    simp only [Act.put, List.setIfInBounds_toArray, List.set_cons_zero, List.set_cons_succ, i64_w, i32_w]
    rfl
  refine pure_ (i := 6) (N := some 2) (v := ?_) (a' := ?_) #[true, true, true, true, true, true, true] rfl rfl (by kernel_rfl) (fun _ _ _ h => h) (Or.inl ⟨by rfl, ?_⟩) ?_ ?_
  rotate_left
  · intro w'
    go_simp
    with_reducible rfl
  rotate_left
  · simp only [Act.put, List.setIfInBounds_toArray, List.set_cons_zero, List.set_cons_succ, i64_w, i32_w]
    rfl
  refine done_ (by kernel_rfl) ?_
  go_wp2_with fail
  go_ret
  exact ⟨rfl, ((Below.refl _ w).drew).trans hB5, L', hL', hD5, ((Turn.of_below (Below.refl _ w).drew k.mb L).trans hT5)⟩
theorem append1_calls (w : World) {k : PW} {L : Lf} {c : PC} (h : IsP w k L c) (x0 x1 x2 : Addr) (n b : Tx) (hb : b.length ≤ 100000) (hx : w.cell? x0 = some (.pointer (some ⟨k.pb, 0, none⟩))) (hx1 : w.cell? x1 = some (.string (bs n))) (hx2 : w.cell? x2 = some (.string (bs b))) :
    Calls Try.prog 45 #[.pointer (some x0), .pointer (some x1), .pointer (some x2)] w (DidT w k.base k.d k.mb k.q L (append k.q (fs L) n b)) := by
  have H := Lib.hid h
  clear h
  go_enter Try.func45, Try.ntmps45
  go_wp2_with fail
  refine start_ (n := 8) (S := (fun w' => w'.cell? x0 = some (.pointer (some ⟨k.pb, 0, none⟩)) ∧ w'.cell? x1 = some (.string (bs n)) ∧ w'.cell? x2 = some (.string (bs b)) ∧ IsP w' k L c)) (ds := [6]) #[false, false, false, false, false, false, false, false] (by kernel_rfl) rfl rfl ⟨hx, hx1, hx2, H.out.drew⟩ (fun hHeld => ?_)
  refine take_ (i := 0) (N := some 4) (v := ?_) (a' := ?_) #[true, false, false, false, false, false, false, false] rfl rfl (by kernel_rfl) (fun _ _ _ h => h) (Or.inl ⟨by rfl, ?_⟩) hHeld ?_ ?_
  rotate_left
  · rintro w' ⟨hx0, hy1, hy2, hP1⟩
    have g0 := hP1.c 0 (v := .pointer (some ⟨k.d, 0, none⟩)) rfl
    go_simp
    with_reducible rfl
  rotate_left
  · simp only [Act.put, List.setIfInBounds_toArray, List.set_cons_zero, List.set_cons_succ, i64_w, i32_w]
    rfl
  refine pure_ (i := 1) (N := some 5) (v := ?_) (a' := ?_) #[true, true, false, false, false, false, false, false] rfl rfl (by kernel_rfl) (fun _ _ _ h => h) (Or.inl ⟨by rfl, ?_⟩) ?_ ?_
  rotate_left
  · intro w'
    go_simp
    with_reducible rfl
  rotate_left
  · simp only [Act.put, List.setIfInBounds_toArray, List.set_cons_zero, List.set_cons_succ, i64_w, i32_w]
    rfl
  refine pure_ (i := 2) (N := some 6) (v := ?_) (a' := ?_) #[true, true, true, false, false, false, false, false] rfl rfl (by kernel_rfl) (fun _ _ _ h => h) (Or.inl ⟨by rfl, ?_⟩) ?_ ?_
  rotate_left
  · intro w'
    go_simp
    with_reducible rfl
  rotate_left
  · simp only [Act.put, List.setIfInBounds_toArray, List.set_cons_zero, List.set_cons_succ, i64_w, i32_w]
    rfl
  refine take_ (i := 3) (N := some 7) (v := ?_) (a' := ?_) #[true, true, true, true, false, false, false, false] rfl rfl (by kernel_rfl) (fun _ _ _ h => h) (Or.inl ⟨by rfl, ?_⟩) hHeld ?_ ?_
  rotate_left
  · rintro w' ⟨hx0, hy1, hy2, hP1⟩
    have g0 := hP1.c 0 (v := .pointer (some ⟨k.d, 0, none⟩)) rfl
    go_simp
    with_reducible rfl
  rotate_left
  · simp only [Act.put, List.setIfInBounds_toArray, List.set_cons_zero, List.set_cons_succ, i64_w, i32_w]
    rfl
  refine take_ (i := 4) (N := some 8) (v := ?_) (a' := ?_) #[true, true, true, true, true, false, false, false] rfl rfl (by kernel_rfl) (fun _ _ _ h => h) (Or.inl ⟨by rfl, ?_⟩) hHeld ?_ ?_
  rotate_left
  · rintro w' ⟨hx0, hy1, hy2, hP1⟩
    have g0 := hP1.c 0 (v := .pointer (some ⟨k.d, 0, none⟩)) rfl
    go_simp
    with_reducible rfl
  rotate_left
  · simp only [Act.put, List.setIfInBounds_toArray, List.set_cons_zero, List.set_cons_succ, i64_w, i32_w]
    rfl
  refine take_ (i := 5) (N := some 9) (v := ?_) (a' := ?_) #[true, true, true, true, true, true, false, false] rfl rfl (by kernel_rfl) (fun _ _ _ h => h) (Or.inl ⟨by rfl, ?_⟩) hHeld ?_ ?_
  rotate_left
  · rintro w' ⟨hx0, hy1, hy2, hP1⟩
    have g0 := hP1.c 0 (v := .pointer (some ⟨k.d, 0, none⟩)) rfl
    go_simp
    with_reducible rfl
  rotate_left
  · simp only [Act.put, List.setIfInBounds_toArray, List.set_cons_zero, List.set_cons_succ, i64_w, i32_w]
    rfl
  refine last_ (i := 6) (N := some 10) #[true, true, true, true, true, true, true, false] rfl rfl (by kernel_rfl) (by decide) (fun K hK => ?_)
  refine goes_ Try.func29 (by kernel_rfl) rfl #[.pointer (some ⟨k.d, 0, none⟩), .string (bs n), .string (bs b)] (by rfl) rfl rfl (by simp only [List.map_toArray, List.map_cons, List.map_nil]; rfl) ?_
  refine (append_turn _ H.out.drew.disk n b hb).mono ?_
  rintro e w5 ⟨rfl, hB5, L', hL', hD5, hT5⟩
  refine ⟨_, rfl, ?_⟩
  refine hK.out _ _ ?_
  clear hK K
  refine norm_ (a' := ?_) ?_ ?_
  rotate_left
  · show Act.put _ (some 10) _ = _
    simp only [Act.put, List.setIfInBounds_toArray, List.set_cons_zero, List.set_cons_succ, i64_w, i32_w]
    rfl
  refine pure_ (i := 7) (N := some 3) (v := ?_) (a' := ?_) #[true, true, true, true, true, true, true, true] rfl rfl (by kernel_rfl) (fun _ _ _ h => h) (Or.inl ⟨by rfl, ?_⟩) ?_ ?_
  rotate_left
  · intro w'
    go_simp
    with_reducible rfl
  rotate_left
  · simp only [Act.put, List.setIfInBounds_toArray, List.set_cons_zero, List.set_cons_succ, i64_w, i32_w]
    rfl
  refine done_ (by kernel_rfl) ?_
  go_wp2_with fail
  go_ret
  exact ⟨rfl, ((Below.refl _ w).drew).trans hB5, L', hL', hD5, ((Turn.of_below (Below.refl _ w).drew k.mb L).trans hT5)⟩
end Go.Proofs.Ytbffgpfkgmhmhaa.Dw
/- A power: write, Create, Append, Sync, Read, List (functions 43, 18, 19, 20, 25, 21). -/
set_option linter.unusedVariables false
set_option linter.unusedSimpArgs false
namespace Go.Proofs.Dk
/-- A power in plain words: its disk's files, its writes, whether it is off. -/
structure PS where
  l : FS
  wr : Nat
  dn : Bool
/-- Is the first number to keep odd? -/
def oddK : List Int → Bool
  | [] => false
  | x :: _ => bits .and .i64 x 1 == 1
/-- A write. -/
def pw (fuse : Int) (keep : List Int) (f : FS → FS × Nat) (s : PS) : PS × Nat :=
  if s.dn then (s, 8) else if (s.wr : Int) = fuse then (⟨crash keep (if oddK keep then (f s.l).1 else s.l), s.wr + 1, true⟩, 8) else (⟨(f s.l).1, s.wr + 1, false⟩, (f s.l).2)
def onI (b : Bool) : Int := if b then 1 else 0
end Go.Proofs.Dk
namespace Go.Proofs.Ytbffgpfkgmhmhaa.Dw
open Go.RowKit Go.Maps Go.Proofs.YtbffgpfkgmhmhaaW.PrintWords Go.Proofs.YtbffgpfkgmhmhaaW.PrintLast Go.Proofs.YtbffgpfkgmhmhaaW.PrintMore Go.Proofs.Dk
set_option maxRecDepth 100000
def pcOf (s : PS) : PC := ⟨s.wr, onI s.dn, onI s.dn, 0⟩
def DidP (w : World) (k : PW) (L : Lf) (r : PS × Nat) (e : Ending) (w' : World) : Prop :=
  e = .returned (.int .i64 (r.2 : Int)) ∧ Below k.base w w' ∧ ∃ L', fs L' = r.1.l ∧ IsP w' k L' (pcOf r.1) ∧ TurnP w w' k L L'
theorem down_s (w : World) {k : PW} {L : Lf} {s : PS} (h : IsP w k L (pcOf s)) : Calls Try.prog 16 #[.pointer (some ⟨k.pb, 0, none⟩)] w fun e w' => e = .returned (.bool s.dn) ∧ w' = w := by
  refine (down_calls w h).mono ?_
  rintro e w' ⟨rfl, rfl⟩
  refine ⟨?_, rfl⟩
  cases hd : s.dn <;> simp [pcOf, onI, hd] <;> rfl
theorem add_zero' (ad : Addr) : ad.add 0 = ad := by
  obtain ⟨b, o, e⟩ := ad
  cases e <;> simp [Addr.add]
theorem pw_off {fuse : Int} {keep : List Int} {f : FS → FS × Nat} {s : PS} (h : s.dn = true) : pw fuse keep f s = (s, 8) := by simp [pw, h]
theorem pw_miss {fuse : Int} {keep : List Int} {f : FS → FS × Nat} {s : PS} (h : s.dn = false) (h2 : ¬ (s.wr : Int) = fuse) : pw fuse keep f s = (⟨(f s.l).1, s.wr + 1, false⟩, (f s.l).2) := by simp [pw, h, h2]
theorem pw_hit {fuse : Int} {keep : List Int} {f : FS → FS × Nat} {s : PS} (h : s.dn = false) (h2 : (s.wr : Int) = fuse) : pw fuse keep f s = (⟨crash keep (if oddK keep then (f s.l).1 else s.l), s.wr + 1, true⟩, 8) := by simp [pw, h, h2]
theorem write_no (w : World) {p : Option Addr} (h : NoP w p) (fv : Value) : Calls Try.prog 43 #[.pointer p, fv] w fun e w' => e = .returned (.int .i64 1) ∧ w' = w := by
  go_enter Try.func43, Try.ntmps43
  go_wp2_with (first | (go_at_call 41; refine (isp_no _ h).mono ?_; rintro e w' ⟨rfl, hw'⟩; obtain rfl := hw'.symm))
  go_ret
  exact ⟨rfl, rfl⟩
set_option maxHeartbeats 2000000 in
theorem write_calls (w : World) {k : PW} {L : Lf} {s : PS} (h : IsP w k L (pcOf s)) (hl : fs L = s.l) (hwr : s.wr < 1000000000) (hfu : -1 ≤ k.fuse ∧ k.fuse ≤ 1000000000) (F : FuncId) (caps : Array Value)
    (hrun : ∀ W, (callFunc F caps).run Try.prog W = .ok (.enter F caps) W) (f : FS → FS × Nat) (Bx : World → Prop) (hBx : Bx w) (hBd : ∀ W, Bx W → Bx W.drew) (hBs : ∀ W, Bx W → ∀ v, Bx (W.setCell ⟨k.pb, 3, none⟩ v))
    (hcb : ∀ W L1 c1, IsP W k L1 c1 → Bx W → Calls Try.prog F caps W (DidT W k.base k.d k.mb k.q L1 (f (fs L1)))) :
    Calls Try.prog 43 #[.pointer (some ⟨k.pb, 0, none⟩), .func (.func F) #[] caps] w (DidP w k L (pw k.fuse k.keep f s)) := by
  have HI := Lib.hid (isp_calls _ h)
  have HDn := Lib.hid (down_s _ h)
  have H := Lib.hid h
  have HL := Lib.hid hl
  have HCb := Lib.hid hcb
  have HBx := Lib.hid (hBs _ (hBd _ hBx) (.int .i64 ((s.wr : Int) + 1)))
  clear hcb hBs hBd hBx hl
  cases hd : s.dn with
  | true =>
    have hr := Lib.hid (pw_off (fuse := k.fuse) (keep := k.keep) (f := f) hd)
    rw [hd] at HDn
    clear h hrun hd
    go_enter Try.func43, Try.ntmps43
    go_wp2_with (first | (go_at_call 41; refine HI.out.mono ?_; rintro e w' ⟨rfl, hw'⟩; obtain rfl := hw'.symm) | (go_at_call 16; refine HDn.out.mono ?_; rintro e w' ⟨rfl, hw'⟩; obtain rfl := hw'.symm))
    go_ret
    exact ⟨by rw [hr.out]; rfl, Below.refl _ _, L, by rw [hr.out]; exact HL.out, by rw [hr.out]; exact H.out, .of_below (Below.refl _ _) k L⟩
  | false =>
    rw [hd] at HDn
    have c1 := h.drew.c 1 (v := .int .i64 k.fuse) rfl
    have c3 := h.drew.c 3 (v := .int .i64 s.wr) rfl
    have z3 := h.drew.fz 3
    have hw1 : IntKind.i64.wrap ((s.wr : Int) + 1) = (s.wr : Int) + 1 := IntWalk.i64_in _ ⟨by omega, by omega⟩
    have hw2 : IntKind.i64.wrap (k.fuse + 1) = k.fuse + 1 := IntWalk.i64_in _ ⟨by omega, by omega⟩
    have hP1 := h.drew.set 3 (.int .i64 ((s.wr : Int) + 1)) (c' := ⟨(s.wr : Int) + 1, onI s.dn, onI s.dn, 0⟩) rfl
    have hc1 := hP1.c 1 (v := .int .i64 k.fuse) rfl
    rw [hd] at hP1
    have hP1' : IsP (w.drew.setCell ⟨k.pb, 3, none⟩ (.int .i64 ((s.wr : Int) + 1))) k L (pcOf ⟨s.l, s.wr + 1, false⟩) := by
      have e : pcOf ⟨s.l, s.wr + 1, false⟩ = ⟨(s.wr : Int) + 1, onI false, onI false, 0⟩ := by simp [pcOf]
      rw [e]; exact hP1
    have HP1 := Lib.hid hP1'
    have HB1 := Lib.hid ((Below.refl k.base w).drew.setCell (p := ⟨k.pb, 3, none⟩) h.low (.int .i64 ((s.wr : Int) + 1)))
    have HT1 := Lib.hid ((TurnP.of_below (Below.refl _ w).drew k L).set 3 (.int .i64 ((s.wr : Int) + 1)))
    clear h hP1 hP1'
    by_cases hm : (s.wr : Int) = k.fuse
    · have hr := Lib.hid (pw_hit (keep := k.keep) (f := f) hd hm)
      have d1 : ((s.wr : Int) + 1 != k.fuse + 1) = false := by simp; omega
      have d2 : decide (k.fuse < 0) = false := decide_eq_false (by omega)
      clear hd hm
      go_enter Try.func43, Try.ntmps43
      go_wp2_with (first | (go_at_call 41; refine HI.out.mono ?_; rintro e w' ⟨rfl, hw'⟩; obtain rfl := hw'.symm) | (go_at_call 16; refine HDn.out.mono ?_; rintro e w' ⟨rfl, hw'⟩; obtain rfl := hw'.symm))
      refine start_ (n := 17) (S := (fun w' => w'.cell? ⟨k.pb, 1, none⟩ = some (.int .i64 k.fuse))) (ds := []) #[false, false, false, false, false, false, false, false, false, false, false, false, false, false, false, false, false] (by kernel_rfl) rfl rfl c1 (fun hHeld => ?_)
      refine pure_ (i := 0) (N := some 12) (v := ?_) (a' := ?_) #[true, false, false, false, false, false, false, false, false, false, false, false, false, false, false, false, false] rfl rfl (by kernel_rfl) (fun _ _ _ h => h) (Or.inl ⟨by rfl, ?_⟩) ?_ ?_
      rotate_left
      · intro w'
        go_simp
        with_reducible rfl
      rotate_left
      · simp only [Act.put, List.setIfInBounds_toArray, List.set_cons_zero, List.set_cons_succ, i64_w, i32_w]
        rfl
      refine pure_ (i := 1) (N := some 13) (v := ?_) (a' := ?_) #[true, true, false, false, false, false, false, false, false, false, false, false, false, false, false, false, false] rfl rfl (by kernel_rfl) (fun _ _ _ h => h) (Or.inl ⟨by rfl, ?_⟩) ?_ ?_
      rotate_left
      · intro w'
        go_simp
        with_reducible rfl
      rotate_left
      · simp only [Act.put, List.setIfInBounds_toArray, List.set_cons_zero, List.set_cons_succ, i64_w, i32_w]
        rfl
      refine pure_ (i := 2) (N := some 14) (v := ?_) (a' := ?_) #[true, true, true, false, false, false, false, false, false, false, false, false, false, false, false, false, false] rfl rfl (by kernel_rfl) (fun _ _ _ h => h) (Or.inl ⟨by rfl, ?_⟩) ?_ ?_
      rotate_left
      · intro w'
        go_simp
        with_reducible rfl
      rotate_left
      · simp only [Act.put, List.setIfInBounds_toArray, List.set_cons_zero, List.set_cons_succ, i64_w, i32_w]
        rfl
      refine pure_ (i := 4) (N := some 16) (v := ?_) (a' := ?_) #[true, true, true, false, true, false, false, false, false, false, false, false, false, false, false, false, false] rfl rfl (by kernel_rfl) (fun _ _ _ h => h) (Or.inl ⟨by rfl, ?_⟩) ?_ ?_
      rotate_left
      · intro w'
        go_simp
        with_reducible rfl
      rotate_left
      · simp only [Act.put, List.setIfInBounds_toArray, List.set_cons_zero, List.set_cons_succ, i64_w, i32_w]
        rfl
      refine pure_ (i := 5) (N := some 17) (v := ?_) (a' := ?_) #[true, true, true, false, true, true, false, false, false, false, false, false, false, false, false, false, false] rfl rfl (by kernel_rfl) (fun _ _ _ h => h) (Or.inl ⟨by rfl, ?_⟩) ?_ ?_
      rotate_left
      · intro w'
        go_simp
        with_reducible rfl
      rotate_left
      · simp only [Act.put, List.setIfInBounds_toArray, List.set_cons_zero, List.set_cons_succ, i64_w, i32_w]
        rfl
      refine pure_ (i := 6) (N := some 18) (v := ?_) (a' := ?_) #[true, true, true, false, true, true, true, false, false, false, false, false, false, false, false, false, false] rfl rfl (by kernel_rfl) (fun _ _ _ h => h) (Or.inl ⟨by rfl, ?_⟩) ?_ ?_
      rotate_left
      · intro w'
        go_simp
        with_reducible rfl
      rotate_left
      · simp only [Act.put, List.setIfInBounds_toArray, List.set_cons_zero, List.set_cons_succ, i64_w, i32_w]
        rfl
      refine take_ (i := 7) (N := some 19) (v := ?_) (a' := ?_) #[true, true, true, false, true, true, true, true, false, false, false, false, false, false, false, false, false] rfl rfl (by kernel_rfl) (fun _ _ _ h => h) (Or.inl ⟨by rfl, ?_⟩) hHeld ?_ ?_
      rotate_left
      · rintro w' hS1
        go_simp
        with_reducible rfl
      rotate_left
      · simp only [Act.put, List.setIfInBounds_toArray, List.set_cons_zero, List.set_cons_succ, i64_w, i32_w]
        rfl
      refine pure_ (i := 8) (N := some 20) (v := ?_) (a' := ?_) #[true, true, true, false, true, true, true, true, true, false, false, false, false, false, false, false, false] rfl rfl (by kernel_rfl) (fun _ _ _ h => h) (Or.inl ⟨by rfl, ?_⟩) ?_ ?_
      rotate_left
      · intro w'
        go_simp
        with_reducible rfl
      rotate_left
      · simp only [Act.put, List.setIfInBounds_toArray, List.set_cons_zero, List.set_cons_succ, i64_w, i32_w]
        rfl
      refine one_ (i := 3) (N := some 15) #[true, true, true, true, true, true, true, true, true, false, false, false, false, false, false, false, false] rfl rfl (by kernel_rfl) (by decide) (fun K hK => ?_)
      refine goes_ Try.func61 (by kernel_rfl) rfl #[.pointer (some ⟨k.pb, 3, none⟩), .int .i64 1] (by rfl) rfl rfl (by simp only [List.map_toArray, List.map_cons, List.map_nil]; rfl) ?_
      refine (aadd_calls _ ⟨k.pb, 3, none⟩ _ (s.wr + 1) c3 z3 hw1).mono ?_
      rintro e w5 ⟨rfl, rfl⟩
      refine ⟨_, rfl, ?_⟩
      refine hK.out _ _ hc1 (fun hHeld => ?_)
      clear hK K
      refine norm_ (a' := ?_) ?_ ?_
      rotate_left
      · show Act.put _ (some 15) _ = _
        simp only [Act.put, List.setIfInBounds_toArray, List.set_cons_zero, List.set_cons_succ, i64_w, i32_w]
        rfl
      refine pure_ (i := 9) (N := some 21) (v := ?_) (a' := ?_) #[true, true, true, true, true, true, true, true, true, true, false, false, false, false, false, false, false] rfl rfl (by kernel_rfl) (fun _ _ _ h => h) (Or.inl ⟨by rfl, ?_⟩) ?_ ?_
      rotate_left
      · intro w'
        go_simp
        with_reducible rfl
      rotate_left
      · simp only [Act.put, List.setIfInBounds_toArray, List.set_cons_zero, List.set_cons_succ, i64_w, i32_w]
        rfl
      refine pure_ (i := 10) (N := some 22) (v := ?_) (a' := ?_) #[true, true, true, true, true, true, true, true, true, true, true, false, false, false, false, false, false] rfl rfl (by kernel_rfl) (fun _ _ _ h => h) (Or.inl ⟨by rfl, ?_⟩) ?_ ?_
      rotate_left
      · intro w'
        go_simp
        with_reducible rfl
      rotate_left
      · simp only [Act.put, List.setIfInBounds_toArray, List.set_cons_zero, List.set_cons_succ, i64_w, i32_w]
        rfl
      refine pure_ (i := 11) (N := some 23) (v := ?_) (a' := ?_) #[true, true, true, true, true, true, true, true, true, true, true, true, false, false, false, false, false] rfl rfl (by kernel_rfl) (fun _ _ _ h => h) (Or.inl ⟨by rfl, ?_⟩) ?_ ?_
      rotate_left
      · intro w'
        go_simp
        with_reducible rfl
      rotate_left
      · simp only [Act.put, List.setIfInBounds_toArray, List.set_cons_zero, List.set_cons_succ, i64_w, i32_w]
        rfl
      refine pure_ (i := 12) (N := some 24) (v := ?_) (a' := ?_) #[true, true, true, true, true, true, true, true, true, true, true, true, true, false, false, false, false] rfl rfl (by kernel_rfl) (fun _ _ _ h => h) (Or.inl ⟨by rfl, ?_⟩) ?_ ?_
      rotate_left
      · intro w'
        go_simp
        with_reducible rfl
      rotate_left
      · simp only [Act.put, List.setIfInBounds_toArray, List.set_cons_zero, List.set_cons_succ, i64_w, i32_w]
        rfl
      refine pure_ (i := 13) (N := some 25) (v := ?_) (a' := ?_) #[true, true, true, true, true, true, true, true, true, true, true, true, true, true, false, false, false] rfl rfl (by kernel_rfl) (fun _ _ _ h => h) (Or.inl ⟨by rfl, ?_⟩) ?_ ?_
      rotate_left
      · intro w'
        go_simp
        with_reducible rfl
      rotate_left
      · simp only [Act.put, List.setIfInBounds_toArray, List.set_cons_zero, List.set_cons_succ, i64_w, i32_w]
        rfl
      refine take_ (i := 14) (N := some 26) (v := ?_) (a' := ?_) #[true, true, true, true, true, true, true, true, true, true, true, true, true, true, true, false, false] rfl rfl (by kernel_rfl) (fun _ _ _ h => h) (Or.inl ⟨by rfl, ?_⟩) hHeld ?_ ?_
      rotate_left
      · rintro w' hS1
        go_simp
        with_reducible rfl
      rotate_left
      · simp only [Act.put, List.setIfInBounds_toArray, List.set_cons_zero, List.set_cons_succ, i64_w, i32_w]
        rfl
      refine pure_ (i := 15) (N := some 27) (v := ?_) (a' := ?_) #[true, true, true, true, true, true, true, true, true, true, true, true, true, true, true, true, false] rfl rfl (by kernel_rfl) (fun _ _ _ h => h) (Or.inl ⟨by rfl, ?_⟩) ?_ ?_
      rotate_left
      · intro w'
        go_simp
        with_reducible rfl
      rotate_left
      · simp only [Act.put, List.setIfInBounds_toArray, List.set_cons_zero, List.set_cons_succ, i64_w, i32_w]
        rfl
      refine pure_ (i := 16) (N := some 28) (v := ?_) (a' := ?_) #[true, true, true, true, true, true, true, true, true, true, true, true, true, true, true, true, true] rfl rfl (by kernel_rfl) (fun _ _ _ h => h) (Or.inl ⟨by rfl, ?_⟩) ?_ ?_
      rotate_left
      · intro w'
        go_simp
        with_reducible rfl
      rotate_left
      · simp only [Act.put, List.setIfInBounds_toArray, List.set_cons_zero, List.set_cons_succ, i64_w, i32_w]
        rfl
      refine done_ (by kernel_rfl) ?_
      have hf1 : fs L = s.l := HL.out
      generalize (w.drew.setCell ⟨k.pb, 3, none⟩ (.int .i64 ((s.wr : Int) + 1))) = W1 at *
      clear c1 c3 z3 hw1 hw2 hc1 hHeld
      cases hk : k.keep with
      | nil =>
        rw [hk] at hr
        have c2 : W1.cell? ⟨k.pb, 2, none⟩ = some (.slice k.A (0 : Nat) k.cap) := by have := HP1.out.c 2 (v := .slice k.A k.keep.length k.cap) rfl; rw [hk] at this; exact this
        go_wp2_with fail
        refine (blow_on _ HP1.out rfl rfl).mono ?_
        rintro e w5 ⟨⟨v, rfl⟩, L', hL', hP5, hB5, hT5⟩
        have HP5 := Lib.hid hP5
        have HB5 := Lib.hid (HB1.out.trans hB5)
        have HT5 := Lib.hid (HT1.out.trans hT5)
        have HL5 := Lib.hid hL'
        clear hB5 hP5 hT5 hL'
        go_wp2_with fail
        go_ret
        rw [hk, hr.out]
        refine ⟨rfl, HB5.out, L', ?_, HP5.out, HT5.out⟩
        rw [HL5.out, hk, HL.out]
        rfl
      | cons x r =>
        have c2 : W1.cell? ⟨k.pb, 2, none⟩ = some (.slice k.A ((r.length + 1 : Nat)) k.cap) := by have := HP1.out.c 2 (v := .slice k.A k.keep.length k.cap) rfl; rw [hk] at this; exact this
        obtain ⟨ad, hA, hx0, _, _⟩ := HP1.out.kept 0 (by rw [hk]; simp)
        have hx : W1.cell? ad = some (.int .i64 x) := by rw [add_zero'] at hx0; simpa [hk] using hx0
        rw [hA] at c2
        clear hx0
        cases hodd : (bits .and .i64 x 1 == 1) with
        | false =>
          have ho : oddK (x :: r) = false := hodd
          rw [hk, ho] at hr
          go_wp2_with fail
          refine (blow_on _ HP1.out rfl rfl).mono ?_
          rintro e w5 ⟨⟨v, rfl⟩, L', hL', hP5, hB5, hT5⟩
          have HP5 := Lib.hid hP5
          have HB5 := Lib.hid (HB1.out.trans hB5)
          have HT5 := Lib.hid (HT1.out.trans hT5)
          have HL5 := Lib.hid hL'
          clear hB5 hP5 hT5 hL'
          go_wp2_with fail
          go_ret
          rw [hk, hr.out]
          refine ⟨rfl, HB5.out, L', ?_, HP5.out, HT5.out⟩
          rw [HL5.out, hk, HL.out]
          rfl
        | true =>
          have ho : oddK (x :: r) = true := hodd
          rw [hk, ho] at hr
          go_wp2_with fail
          refine (HCb.out _ L _ HP1.out HBx.out).mono ?_
          rintro e w4 ⟨rfl, hB4, L4, hL4, hD4, hT4⟩
          have HP4 := Lib.hid (HP1.out.turned hD4 hT4)
          have HB4 := Lib.hid (HB1.out.trans hB4)
          have HT4 := Lib.hid (HT1.out.trans hT4.p)
          have HL4 := Lib.hid hL4
          clear hB4 hD4 hT4 hL4
          go_wp2_with fail
          refine (blow_on _ HP4.out rfl rfl).mono ?_
          rintro e w5 ⟨⟨v, rfl⟩, L', hL', hP5, hB5, hT5⟩
          have HP5 := Lib.hid hP5
          have HB5 := Lib.hid (HB4.out.trans hB5)
          have HT5 := Lib.hid (HT4.out.trans hT5)
          have HL5 := Lib.hid hL'
          clear hB5 hP5 hT5 hL'
          go_wp2_with fail
          go_ret
          rw [hk, hr.out]
          refine ⟨rfl, HB5.out, L', ?_, HP5.out, HT5.out⟩
          rw [HL5.out, hk, HL4.out, HL.out]
          rfl
    · have hr := Lib.hid (pw_miss (keep := k.keep) (f := f) hd hm)
      have d1 : ((s.wr : Int) + 1 != k.fuse + 1) = true := by simp; omega
      clear hd hm
      go_enter Try.func43, Try.ntmps43
      go_wp2_with (first | (go_at_call 41; refine HI.out.mono ?_; rintro e w' ⟨rfl, hw'⟩; obtain rfl := hw'.symm) | (go_at_call 16; refine HDn.out.mono ?_; rintro e w' ⟨rfl, hw'⟩; obtain rfl := hw'.symm))
      refine start_ (n := 17) (S := (fun w' => w'.cell? ⟨k.pb, 1, none⟩ = some (.int .i64 k.fuse))) (ds := []) #[false, false, false, false, false, false, false, false, false, false, false, false, false, false, false, false, false] (by kernel_rfl) rfl rfl c1 (fun hHeld => ?_)
      refine pure_ (i := 0) (N := some 12) (v := ?_) (a' := ?_) #[true, false, false, false, false, false, false, false, false, false, false, false, false, false, false, false, false] rfl rfl (by kernel_rfl) (fun _ _ _ h => h) (Or.inl ⟨by rfl, ?_⟩) ?_ ?_
      rotate_left
      · intro w'
        go_simp
        with_reducible rfl
      rotate_left
      · simp only [Act.put, List.setIfInBounds_toArray, List.set_cons_zero, List.set_cons_succ, i64_w, i32_w]
        rfl
      refine pure_ (i := 1) (N := some 13) (v := ?_) (a' := ?_) #[true, true, false, false, false, false, false, false, false, false, false, false, false, false, false, false, false] rfl rfl (by kernel_rfl) (fun _ _ _ h => h) (Or.inl ⟨by rfl, ?_⟩) ?_ ?_
      rotate_left
      · intro w'
        go_simp
        with_reducible rfl
      rotate_left
      · simp only [Act.put, List.setIfInBounds_toArray, List.set_cons_zero, List.set_cons_succ, i64_w, i32_w]
        rfl
      refine pure_ (i := 2) (N := some 14) (v := ?_) (a' := ?_) #[true, true, true, false, false, false, false, false, false, false, false, false, false, false, false, false, false] rfl rfl (by kernel_rfl) (fun _ _ _ h => h) (Or.inl ⟨by rfl, ?_⟩) ?_ ?_
      rotate_left
      · intro w'
        go_simp
        with_reducible rfl
      rotate_left
      · simp only [Act.put, List.setIfInBounds_toArray, List.set_cons_zero, List.set_cons_succ, i64_w, i32_w]
        rfl
      refine pure_ (i := 4) (N := some 16) (v := ?_) (a' := ?_) #[true, true, true, false, true, false, false, false, false, false, false, false, false, false, false, false, false] rfl rfl (by kernel_rfl) (fun _ _ _ h => h) (Or.inl ⟨by rfl, ?_⟩) ?_ ?_
      rotate_left
      · intro w'
        go_simp
        with_reducible rfl
      rotate_left
      · simp only [Act.put, List.setIfInBounds_toArray, List.set_cons_zero, List.set_cons_succ, i64_w, i32_w]
        rfl
      refine pure_ (i := 5) (N := some 17) (v := ?_) (a' := ?_) #[true, true, true, false, true, true, false, false, false, false, false, false, false, false, false, false, false] rfl rfl (by kernel_rfl) (fun _ _ _ h => h) (Or.inl ⟨by rfl, ?_⟩) ?_ ?_
      rotate_left
      · intro w'
        go_simp
        with_reducible rfl
      rotate_left
      · simp only [Act.put, List.setIfInBounds_toArray, List.set_cons_zero, List.set_cons_succ, i64_w, i32_w]
        rfl
      refine pure_ (i := 6) (N := some 18) (v := ?_) (a' := ?_) #[true, true, true, false, true, true, true, false, false, false, false, false, false, false, false, false, false] rfl rfl (by kernel_rfl) (fun _ _ _ h => h) (Or.inl ⟨by rfl, ?_⟩) ?_ ?_
      rotate_left
      · intro w'
        go_simp
        with_reducible rfl
      rotate_left
      · simp only [Act.put, List.setIfInBounds_toArray, List.set_cons_zero, List.set_cons_succ, i64_w, i32_w]
        rfl
      refine take_ (i := 7) (N := some 19) (v := ?_) (a' := ?_) #[true, true, true, false, true, true, true, true, false, false, false, false, false, false, false, false, false] rfl rfl (by kernel_rfl) (fun _ _ _ h => h) (Or.inl ⟨by rfl, ?_⟩) hHeld ?_ ?_
      rotate_left
      · rintro w' hS1
        go_simp
        with_reducible rfl
      rotate_left
      · simp only [Act.put, List.setIfInBounds_toArray, List.set_cons_zero, List.set_cons_succ, i64_w, i32_w]
        rfl
      refine pure_ (i := 8) (N := some 20) (v := ?_) (a' := ?_) #[true, true, true, false, true, true, true, true, true, false, false, false, false, false, false, false, false] rfl rfl (by kernel_rfl) (fun _ _ _ h => h) (Or.inl ⟨by rfl, ?_⟩) ?_ ?_
      rotate_left
      · intro w'
        go_simp
        with_reducible rfl
      rotate_left
      · simp only [Act.put, List.setIfInBounds_toArray, List.set_cons_zero, List.set_cons_succ, i64_w, i32_w]
        rfl
      refine one_ (i := 3) (N := some 15) #[true, true, true, true, true, true, true, true, true, false, false, false, false, false, false, false, false] rfl rfl (by kernel_rfl) (by decide) (fun K hK => ?_)
      refine goes_ Try.func61 (by kernel_rfl) rfl #[.pointer (some ⟨k.pb, 3, none⟩), .int .i64 1] (by rfl) rfl rfl (by simp only [List.map_toArray, List.map_cons, List.map_nil]; rfl) ?_
      refine (aadd_calls _ ⟨k.pb, 3, none⟩ _ (s.wr + 1) c3 z3 hw1).mono ?_
      rintro e w5 ⟨rfl, rfl⟩
      refine ⟨_, rfl, ?_⟩
      refine hK.out _ _ hc1 (fun hHeld => ?_)
      clear hK K
      refine norm_ (a' := ?_) ?_ ?_
      rotate_left
      · show Act.put _ (some 15) _ = _
        simp only [Act.put, List.setIfInBounds_toArray, List.set_cons_zero, List.set_cons_succ, i64_w, i32_w]
        rfl
      refine pure_ (i := 9) (N := some 21) (v := ?_) (a' := ?_) #[true, true, true, true, true, true, true, true, true, true, false, false, false, false, false, false, false] rfl rfl (by kernel_rfl) (fun _ _ _ h => h) (Or.inl ⟨by rfl, ?_⟩) ?_ ?_
      rotate_left
      · intro w'
        go_simp
        with_reducible rfl
      rotate_left
      · simp only [Act.put, List.setIfInBounds_toArray, List.set_cons_zero, List.set_cons_succ, i64_w, i32_w]
        rfl
      refine pure_ (i := 10) (N := some 22) (v := ?_) (a' := ?_) #[true, true, true, true, true, true, true, true, true, true, true, false, false, false, false, false, false] rfl rfl (by kernel_rfl) (fun _ _ _ h => h) (Or.inl ⟨by rfl, ?_⟩) ?_ ?_
      rotate_left
      · intro w'
        go_simp
        with_reducible rfl
      rotate_left
      · simp only [Act.put, List.setIfInBounds_toArray, List.set_cons_zero, List.set_cons_succ, i64_w, i32_w]
        rfl
      refine pure_ (i := 11) (N := some 23) (v := undef) #[true, true, true, true, true, true, true, true, true, true, true, true, false, false, false, false, false] rfl rfl (by kernel_rfl) (fun _ _ _ h => h) (Or.inr ⟨by rfl, rfl⟩) rfl ?_
      refine norm_ (a' := ?_) ?_ ?_
      rotate_left
      · show Act.put _ (some 23) _ = _
        simp only [Act.put, List.setIfInBounds_toArray, List.set_cons_zero, List.set_cons_succ, i64_w, i32_w]
        rfl
      refine pure_ (i := 12) (N := some 24) (v := undef) #[true, true, true, true, true, true, true, true, true, true, true, true, true, false, false, false, false] rfl rfl (by kernel_rfl) (fun _ _ _ h => h) (Or.inr ⟨by rfl, rfl⟩) rfl ?_
      refine norm_ (a' := ?_) ?_ ?_
      rotate_left
      · show Act.put _ (some 24) _ = _
        simp only [Act.put, List.setIfInBounds_toArray, List.set_cons_zero, List.set_cons_succ, i64_w, i32_w]
        rfl
      refine pure_ (i := 13) (N := some 25) (v := undef) #[true, true, true, true, true, true, true, true, true, true, true, true, true, true, false, false, false] rfl rfl (by kernel_rfl) (fun _ _ _ h => h) (Or.inr ⟨by rfl, rfl⟩) rfl ?_
      refine norm_ (a' := ?_) ?_ ?_
      rotate_left
      · show Act.put _ (some 25) _ = _
        simp only [Act.put, List.setIfInBounds_toArray, List.set_cons_zero, List.set_cons_succ, i64_w, i32_w]
        rfl
      refine pure_ (i := 14) (N := some 26) (v := undef) #[true, true, true, true, true, true, true, true, true, true, true, true, true, true, true, false, false] rfl rfl (by kernel_rfl) (fun _ _ _ h => h) (Or.inr ⟨by rfl, rfl⟩) rfl ?_
      refine norm_ (a' := ?_) ?_ ?_
      rotate_left
      · show Act.put _ (some 26) _ = _
        simp only [Act.put, List.setIfInBounds_toArray, List.set_cons_zero, List.set_cons_succ, i64_w, i32_w]
        rfl
      refine pure_ (i := 15) (N := some 27) (v := undef) #[true, true, true, true, true, true, true, true, true, true, true, true, true, true, true, true, false] rfl rfl (by kernel_rfl) (fun _ _ _ h => h) (Or.inr ⟨by rfl, rfl⟩) rfl ?_
      refine norm_ (a' := ?_) ?_ ?_
      rotate_left
      · show Act.put _ (some 27) _ = _
        simp only [Act.put, List.setIfInBounds_toArray, List.set_cons_zero, List.set_cons_succ, i64_w, i32_w]
        rfl
      refine pure_ (i := 16) (N := some 28) (v := ?_) (a' := ?_) #[true, true, true, true, true, true, true, true, true, true, true, true, true, true, true, true, true] rfl rfl (by kernel_rfl) (fun _ _ _ h => h) (Or.inl ⟨by rfl, ?_⟩) ?_ ?_
      rotate_left
      · intro w'
        go_simp
        with_reducible rfl
      rotate_left
      · simp only [Act.put, List.setIfInBounds_toArray, List.set_cons_zero, List.set_cons_succ, i64_w, i32_w]
        rfl
      refine done_ (by kernel_rfl) ?_
      have hf1 : fs L = s.l := HL.out
      generalize (w.drew.setCell ⟨k.pb, 3, none⟩ (.int .i64 ((s.wr : Int) + 1))) = W1 at *
      clear c1 c3 z3 hw1 hw2 hc1 hHeld
      go_wp2_with fail
      refine (HCb.out _ L _ HP1.out HBx.out).mono ?_
      rintro e w5 ⟨rfl, hB5, L', hL', hD5, hT5⟩
      have HP5 := Lib.hid (HP1.out.turned hD5 hT5)
      have HB5 := Lib.hid (HB1.out.trans hB5)
      have HT5 := Lib.hid (HT1.out.trans hT5.p)
      have HL5 := Lib.hid hL'
      clear hB5 hD5 hT5 hL'
      go_wp2_with fail
      go_ret
      rw [hr.out]
      refine ⟨by rw [← HL.out]; rfl, HB5.out, L', by rw [HL5.out, HL.out], HP5.out, HT5.out⟩
/-! ### Create, Append, Sync -/
theorem enters (f : FuncId) (caps : Array Value) {fn : Func} (hf : Try.prog.funcs[f]? = some fn) (hname : (fn.name == "runtime.NumGoroutine") = false) (hb : fn.body.isSome = true) (W : World) : (callFunc f caps).run Try.prog W = .ok (.enter f caps) W := enters_ hf hname hb caps W
/-- Two boxes: the power's, a text's. -/
def Box2 (p n : Value) (x : Nat) (W : World) : Prop := W.cell? ⟨x, 0, none⟩ = some p ∧ W.cell? ⟨x + 1, 0, none⟩ = some n
theorem box_set {W : World} {x pb j : Nat} {v u : Value} (h : W.cell? ⟨x, 0, none⟩ = some v) (hx : x ≠ pb) : (W.setCell ⟨pb, j, none⟩ u).cell? ⟨x, 0, none⟩ = some v := (cell_of_block (Below.heap_setCell _ _ _ _ hx)).trans h
theorem box2_new (w : World) (p : Value) (t : TypeId) (n : Value) : Box2 p n w.heap.size ((w.alloc (.cells #[p] t)).alloc (.cells #[n] 9)) := ⟨by simp, by simp⟩
/-- Three. -/
def Box3 (p n b : Value) (x : Nat) (W : World) : Prop := W.cell? ⟨x, 0, none⟩ = some p ∧ W.cell? ⟨x + 1, 0, none⟩ = some n ∧ W.cell? ⟨x + 2, 0, none⟩ = some b
theorem box3_new (w : World) (p : Value) (t : TypeId) (n b : Value) : Box3 p n b w.heap.size (((w.alloc (.cells #[p] t)).alloc (.cells #[n] 9)).alloc (.cells #[b] 9)) :=
  ⟨cell_below (box2_new w p t n).1 ((Below.refl _ _).alloc (Nat.le_refl _) _), cell_below (box2_new w p t n).2 ((Below.refl _ _).alloc (Nat.le_refl _) _), by
    have := cell_new_l3 (w.alloc (.cells #[p] t)) (.cells #[n] 9) b 9
    rw [World.size_alloc] at this
    exact this⟩
set_option maxHeartbeats 1000000 in
theorem pcreate_calls (w : World) {k : PW} {L : Lf} {s : PS} (h : IsP w k L (pcOf s)) (hl : fs L = s.l) (hwr : s.wr < 1000000000) (hfu : -1 ≤ k.fuse ∧ k.fuse ≤ 1000000000) (n : Tx) :
    Calls Try.prog 18 #[.pointer (some ⟨k.pb, 0, none⟩), .string (bs n)] w (DidP w k L (pw k.fuse k.keep (fun l => create l n) s)) := by
  obtain ⟨W, hW⟩ : ∃ W, (w.alloc (.cells #[.pointer (some ⟨k.pb, 0, none⟩)] 41)).alloc (.cells #[.string (bs n)] 9) = W := ⟨_, rfl⟩
  have hB1 : Below w.heap.size w W := by rw [← hW]; exact ((Below.refl _ w).alloc (Nat.le_refl _) _).alloc (by simp) _
  have hbx : Box2 (.pointer (some ⟨k.pb, 0, none⟩)) (.string (bs n)) w.heap.size W := by
    rw [← hW]
    exact box2_new w _ 41 _
  have hpl := heap_lt h.top
  have HWr := Lib.hid (write_calls W (h.below hB1) hl hwr hfu 44 #[.pointer (some ⟨w.heap.size, 0, none⟩), .pointer (some ⟨w.heap.size + 1, 0, none⟩)] (enters 44 _ Try.func44 (by kernel_rfl) rfl) (fun l => create l n) (Box2 (.pointer (some ⟨k.pb, 0, none⟩)) (.string (bs n)) w.heap.size) hbx
    (fun _ h => h) (fun W hh v => ⟨box_set hh.1 (by omega), box_set hh.2 (by omega)⟩) (fun W L1 c1 hP hh => create1_calls W hP _ _ n hh.1 hh.2))
  have HB1 := Lib.hid hB1
  have hsz := h.size
  have hx0 := hbx.1
  clear h hB1 hbx
  go_enter Try.func18, Try.ntmps18
  go_wp2_with fail
  refine HWr.out.mono ?_
  rintro e w5 ⟨rfl, hB5, L', hL', hP5, hT5⟩
  have HP5 := Lib.hid hP5
  have HB5 := Lib.hid ((HB1.out.mono hsz).trans hB5)
  have HT5 := Lib.hid ((TurnP.of_below HB1.out k L).trans hT5)
  clear hB5 hP5 hT5
  go_wp2_with fail
  go_ret
  exact ⟨rfl, HB5.out, L', hL', HP5.out, HT5.out⟩
set_option maxHeartbeats 1000000 in
theorem psync_calls (w : World) {k : PW} {L : Lf} {s : PS} (h : IsP w k L (pcOf s)) (hl : fs L = s.l) (hwr : s.wr < 1000000000) (hfu : -1 ≤ k.fuse ∧ k.fuse ≤ 1000000000) (n : Tx) :
    Calls Try.prog 20 #[.pointer (some ⟨k.pb, 0, none⟩), .string (bs n)] w (DidP w k L (pw k.fuse k.keep (fun l => sync l n) s)) := by
  obtain ⟨W, hW⟩ : ∃ W, (w.alloc (.cells #[.pointer (some ⟨k.pb, 0, none⟩)] 41)).alloc (.cells #[.string (bs n)] 9) = W := ⟨_, rfl⟩
  have hB1 : Below w.heap.size w W := by rw [← hW]; exact ((Below.refl _ w).alloc (Nat.le_refl _) _).alloc (by simp) _
  have hbx : Box2 (.pointer (some ⟨k.pb, 0, none⟩)) (.string (bs n)) w.heap.size W := by
    rw [← hW]
    exact box2_new w _ 41 _
  have hpl := heap_lt h.top
  have HWr := Lib.hid (write_calls W (h.below hB1) hl hwr hfu 46 #[.pointer (some ⟨w.heap.size, 0, none⟩), .pointer (some ⟨w.heap.size + 1, 0, none⟩)] (enters 46 _ Try.func46 (by kernel_rfl) rfl) (fun l => sync l n) (Box2 (.pointer (some ⟨k.pb, 0, none⟩)) (.string (bs n)) w.heap.size) hbx
    (fun _ h => h) (fun W hh v => ⟨box_set hh.1 (by omega), box_set hh.2 (by omega)⟩) (fun W L1 c1 hP hh => sync1_calls W hP _ _ n hh.1 hh.2))
  have HB1 := Lib.hid hB1
  have hsz := h.size
  have hx0 := hbx.1
  clear h hB1 hbx
  go_enter Try.func20, Try.ntmps20
  go_wp2_with fail
  refine HWr.out.mono ?_
  rintro e w5 ⟨rfl, hB5, L', hL', hP5, hT5⟩
  have HP5 := Lib.hid hP5
  have HB5 := Lib.hid ((HB1.out.mono hsz).trans hB5)
  have HT5 := Lib.hid ((TurnP.of_below HB1.out k L).trans hT5)
  clear hB5 hP5 hT5
  go_wp2_with fail
  go_ret
  exact ⟨rfl, HB5.out, L', hL', HP5.out, HT5.out⟩
set_option maxHeartbeats 1000000 in
theorem pappend_calls (w : World) {k : PW} {L : Lf} {s : PS} (h : IsP w k L (pcOf s)) (hl : fs L = s.l) (hwr : s.wr < 1000000000) (hfu : -1 ≤ k.fuse ∧ k.fuse ≤ 1000000000) (n b : Tx) (hb : b.length ≤ 100000) :
    Calls Try.prog 19 #[.pointer (some ⟨k.pb, 0, none⟩), .string (bs n), .string (bs b)] w (DidP w k L (pw k.fuse k.keep (fun l => append k.q l n b) s)) := by
  obtain ⟨W, hW⟩ : ∃ W, ((w.alloc (.cells #[.pointer (some ⟨k.pb, 0, none⟩)] 41)).alloc (.cells #[.string (bs n)] 9)).alloc (.cells #[.string (bs b)] 9) = W := ⟨_, rfl⟩
  have hB1 : Below w.heap.size w W := by rw [← hW]; exact (((Below.refl _ w).alloc (Nat.le_refl _) _).alloc (by simp) _).alloc (by simp; omega) _
  have hbx : Box3 (.pointer (some ⟨k.pb, 0, none⟩)) (.string (bs n)) (.string (bs b)) w.heap.size W := by
    rw [← hW]
    exact box3_new w _ 41 _ _
  have hpl := heap_lt h.top
  have HWr := Lib.hid (write_calls W (h.below hB1) hl hwr hfu 45 #[.pointer (some ⟨w.heap.size, 0, none⟩), .pointer (some ⟨w.heap.size + 1, 0, none⟩), .pointer (some ⟨w.heap.size + 2, 0, none⟩)] (enters 45 _ Try.func45 (by kernel_rfl) rfl) (fun l => append k.q l n b) (Box3 (.pointer (some ⟨k.pb, 0, none⟩)) (.string (bs n)) (.string (bs b)) w.heap.size) hbx
    (fun _ h => h) (fun W hh v => ⟨box_set hh.1 (by omega), box_set hh.2.1 (by omega), box_set hh.2.2 (by omega)⟩) (fun W L1 c1 hP hh => append1_calls W hP _ _ _ n b hb hh.1 hh.2.1 hh.2.2))
  have HB1 := Lib.hid hB1
  have hsz := h.size
  have hx0 := hbx.1
  clear h hB1 hbx
  go_enter Try.func19, Try.ntmps19
  go_wp2_with fail
  refine HWr.out.mono ?_
  rintro e w5 ⟨rfl, hB5, L', hL', hP5, hT5⟩
  have HP5 := Lib.hid hP5
  have HB5 := Lib.hid ((HB1.out.mono hsz).trans hB5)
  have HT5 := Lib.hid ((TurnP.of_below HB1.out k L).trans hT5)
  clear hB5 hP5 hT5
  go_wp2_with fail
  go_ret
  exact ⟨rfl, HB5.out, L', hL', HP5.out, HT5.out⟩
/-! ### no power -/
theorem pcreate_no (w : World) {p : Option Addr} (h : NoP w p) (n : Tx) : Calls Try.prog 18 #[.pointer p, .string (bs n)] w fun e w' => e = .returned (.int .i64 1) ∧ Below w.heap.size w w' := by
  obtain ⟨W, hW⟩ : ∃ W, (w.alloc (.cells #[.pointer p] 41)).alloc (.cells #[.string (bs n)] 9) = W := ⟨_, rfl⟩
  have hB1 : Below w.heap.size w W := by rw [← hW]; exact ((Below.refl _ w).alloc (Nat.le_refl _) _).alloc (by simp) _
  have hx0 : W.cell? ⟨w.heap.size, 0, none⟩ = some (.pointer p) := by rw [← hW]; exact (box2_new w _ 41 _).1
  have hN : NoP W p := fun a ha => by
    obtain ⟨b, rfl, hc⟩ := h a ha
    exact ⟨b, rfl, cell_below hc hB1⟩
  have HB1 := Lib.hid hB1
  clear hB1 h
  go_enter Try.func18, Try.ntmps18
  go_wp2_with fail
  refine (write_no W hN _).mono ?_
  rintro e w' ⟨rfl, hw'⟩
  obtain rfl := hw'.symm
  go_wp2_with fail
  go_ret
  exact ⟨rfl, HB1.out⟩
theorem psync_no (w : World) {p : Option Addr} (h : NoP w p) (n : Tx) : Calls Try.prog 20 #[.pointer p, .string (bs n)] w fun e w' => e = .returned (.int .i64 1) ∧ Below w.heap.size w w' := by
  obtain ⟨W, hW⟩ : ∃ W, (w.alloc (.cells #[.pointer p] 41)).alloc (.cells #[.string (bs n)] 9) = W := ⟨_, rfl⟩
  have hB1 : Below w.heap.size w W := by rw [← hW]; exact ((Below.refl _ w).alloc (Nat.le_refl _) _).alloc (by simp) _
  have hx0 : W.cell? ⟨w.heap.size, 0, none⟩ = some (.pointer p) := by rw [← hW]; exact (box2_new w _ 41 _).1
  have hN : NoP W p := fun a ha => by
    obtain ⟨b, rfl, hc⟩ := h a ha
    exact ⟨b, rfl, cell_below hc hB1⟩
  have HB1 := Lib.hid hB1
  clear hB1 h
  go_enter Try.func20, Try.ntmps20
  go_wp2_with fail
  refine (write_no W hN _).mono ?_
  rintro e w' ⟨rfl, hw'⟩
  obtain rfl := hw'.symm
  go_wp2_with fail
  go_ret
  exact ⟨rfl, HB1.out⟩
/-! ### Read, List -/
theorem pread_no (w : World) {p : Option Addr} (h : NoP w p) (n : Tx) : Calls Try.prog 25 #[.pointer p, .string (bs n)] w fun e w' => e = .returned (.tuple #[.string ⟨#[]⟩, .int .i64 1]) ∧ w' = w := by
  go_enter Try.func25, Try.ntmps25
  go_wp2_with (first | (go_at_call 41; refine (isp_no _ h).mono ?_; rintro e w' ⟨rfl, hw'⟩; obtain rfl := hw'.symm))
  go_ret2
  exact ⟨rfl, rfl⟩
theorem pread_off (w : World) {k : PW} {L : Lf} {s : PS} (h : IsP w k L (pcOf s)) (hd : s.dn = true) (n : Tx) : Calls Try.prog 25 #[.pointer (some ⟨k.pb, 0, none⟩), .string (bs n)] w fun e w' => e = .returned (.tuple #[.string ⟨#[]⟩, .int .i64 8]) ∧ w' = w := by
  have HI := Lib.hid (isp_calls _ h)
  have HDn := Lib.hid (down_s _ h)
  rw [hd] at HDn
  clear h hd
  go_enter Try.func25, Try.ntmps25
  go_wp2_with (first | (go_at_call 41; refine HI.out.mono ?_; rintro e w' ⟨rfl, hw'⟩; obtain rfl := hw'.symm) | (go_at_call 16; refine HDn.out.mono ?_; rintro e w' ⟨rfl, hw'⟩; obtain rfl := hw'.symm))
  go_ret2
  exact ⟨rfl, rfl⟩
theorem plist_no (w : World) {p : Option Addr} (h : NoP w p) : Calls Try.prog 21 #[.pointer p] w fun e w' => e = .returned (.slice none 0 0) ∧ w' = w := by
  go_enter Try.func21, Try.ntmps21
  go_wp2_with (first | (go_at_call 41; refine (isp_no _ h).mono ?_; rintro e w' ⟨rfl, hw'⟩; obtain rfl := hw'.symm))
  go_ret
  exact ⟨rfl, rfl⟩
theorem plist_off (w : World) {k : PW} {L : Lf} {s : PS} (h : IsP w k L (pcOf s)) (hd : s.dn = true) : Calls Try.prog 21 #[.pointer (some ⟨k.pb, 0, none⟩)] w fun e w' => e = .returned (.slice none 0 0) ∧ w' = w := by
  have HI := Lib.hid (isp_calls _ h)
  have HDn := Lib.hid (down_s _ h)
  rw [hd] at HDn
  clear h hd
  go_enter Try.func21, Try.ntmps21
  go_wp2_with (first | (go_at_call 41; refine HI.out.mono ?_; rintro e w' ⟨rfl, hw'⟩; obtain rfl := hw'.symm) | (go_at_call 16; refine HDn.out.mono ?_; rintro e w' ⟨rfl, hw'⟩; obtain rfl := hw'.symm))
  go_ret
  exact ⟨rfl, rfl⟩
theorem plist_calls (w : World) {k : PW} {L : Lf} {s : PS} (h : IsP w k L (pcOf s)) (hd : s.dn = false) : Calls Try.prog 21 #[.pointer (some ⟨k.pb, 0, none⟩)] w fun e w' => ∃ v, e = .returned v ∧ w'.ownsRow w.heap.size 9 1 v (fs L).length ((fs L).map (fun p => encS p.1)) ∧ RowKit.Below w.heap.size w w' := by
  have HI := Lib.hid (isp_calls _ h)
  have HDn := Lib.hid (down_s _ h)
  rw [hd] at HDn
  have c0 := h.c 0 (v := .pointer (some ⟨k.d, 0, none⟩)) rfl
  have HLi := Lib.hid (list_calls _ h.disk)
  clear h hd
  go_enter Try.func21, Try.ntmps21
  go_wp2_with (first | (go_at_call 41; refine HI.out.mono ?_; rintro e w' ⟨rfl, hw'⟩; obtain rfl := hw'.symm) | (go_at_call 16; refine HDn.out.mono ?_; rintro e w' ⟨rfl, hw'⟩; obtain rfl := hw'.symm) | (go_at_call 13; refine HLi.out.mono ?_; rintro e w' ⟨v, rfl, hO, hB⟩; have HO := Lib.hid hO; have HB := Lib.hid hB; clear hO hB))
  go_ret
  exact ⟨v, rfl, HO.out, HB.out⟩
end Go.Proofs.Ytbffgpfkgmhmhaa.Dw
/- The chapter's example of a power: left, awake (functions 24, 26). -/
set_option linter.unusedVariables false
set_option linter.unusedSimpArgs false
namespace Go.Proofs.Dk
/-- What the example's disk holds behind the fuse. -/
def leftF (keep : List Int) : FS := crash keep (if oddK keep then [([97], ⟨[120, 121, 122], 0⟩)] else [([97], ⟨[], 0⟩)])
def leftP (keep : List Int) : PS := ⟨leftF keep, 2, true⟩
def leftR (keep : List Int) : Tx := (read (leftF keep) [97]).1
end Go.Proofs.Dk
namespace Go.Proofs.Ytbffgpfkgmhmhaa.Dw
open Go.RowKit Go.Maps Go.Proofs.YtbffgpfkgmhmhaaW.PrintWords Go.Proofs.YtbffgpfkgmhmhaaW.PrintLast Go.Proofs.YtbffgpfkgmhmhaaW.PrintMore Go.Proofs.Dk
set_option maxRecDepth 100000
theorem nums_below {w w' : World} {A : Option Addr} {l : List Int} (h : Nums w A l) (hB : Below w.heap.size w w') : Nums w' A l := fun j hj => by
  obtain ⟨ad, e, hc⟩ := h j hj
  exact ⟨ad, e, cell_below hc hB⟩
/-- New, by a power's parts alone. -/
theorem pnew_k (w : World) {base d mb q : Nat} {L : Lf} (hD : IsD w base d mb q L) (fuse : Int) (A : Option Addr) (cap : Nat) (keep : List Int) (hkl : keep.length ≤ 1000000) (hA : A = none → keep = [])
    (hk : Nums w A keep) : Calls Try.prog 15 #[.pointer (some ⟨d, 0, none⟩), .int .i64 fuse, .slice A keep.length cap] w fun e w' =>
      ∃ k : PW, e = .returned (.pointer (some ⟨k.pb, 0, none⟩)) ∧ k.base = base ∧ k.d = d ∧ k.q = q ∧ k.fuse = fuse ∧ k.keep = keep ∧ IsP w' k L (pcOf ⟨fs L, 0, false⟩) ∧ Below w.heap.size w w' := by
  refine (pnew_calls w hD fuse A cap keep hkl hA hk).mono ?_
  rintro e w' ⟨pb, A', cap', rfl, hP, hB, _⟩
  exact ⟨_, rfl, rfl, rfl, rfl, rfl, rfl, hP, hB⟩
theorem left_one (keep : List Int) : pw 1 keep (fun l => create l [97]) ⟨[], 0, false⟩ = (⟨[([97], ⟨[], 0⟩)], 1, false⟩, 0) := by
  rw [pw_miss rfl (by decide)]; rfl
theorem left_two (keep : List Int) : pw 1 keep (fun l => append 100 l [97] [120, 121, 122]) ⟨[([97], ⟨[], 0⟩)], 1, false⟩ = (leftP keep, 8) := by
  rw [pw_hit rfl (by decide)]; rfl
theorem left_three (keep : List Int) : pw 1 keep (fun l => append 100 l [97] [119]) (leftP keep) = (leftP keep, 8) := pw_off rfl
theorem left_read (keep : List Int) : read (leftF keep) [97] = (leftR keep, 0) := by
  unfold leftR leftF
  cases oddK keep <;> rfl
theorem left_12 : leftR [1, 2] = [120] := by decide
theorem left_0 : leftR [0] = [] := by decide
theorem left_nil : leftR [] = [] := by decide
set_option maxHeartbeats 2000000 in
theorem left_calls (w : World) (A : Option Addr) (cap : Nat) (keep : List Int) (hkl : keep.length ≤ 1000000) (hA : A = none → keep = []) (hk : Nums w A keep) :
    Calls Try.prog 24 #[.int .i64 1, .slice A keep.length cap] w fun e w' => e = .returned (.string (bs (leftR keep))) ∧ Below w.heap.size w w' := by
  have HK := Lib.hid hk
  have HA := Lib.hid hA
  clear hk hA
  go_enter Try.func24, Try.ntmps24
  go_wp2_with fail
  refine (new_ok w 100 (by decide)).mono ?_
  rintro e w1 ⟨d, mb, rfl, hD, hB⟩
  have HD := Lib.hid hD
  have HB := Lib.hid hB
  clear hD hB
  go_wp2_with fail
  refine (pnew_k w1 HD.out 1 A cap keep hkl HA.out (nums_below HK.out HB.out)).mono ?_
  rintro e w2 ⟨k, rfl, hkb, rfl, hkq, hkf, rfl, hP, hB2⟩
  have HP := Lib.hid hP
  have HB2 := Lib.hid (HB.out.trans (hB2.mono HB.out.size))
  have HQ := Lib.hid hkq
  have HF := Lib.hid hkf
  have HKb := Lib.hid hkb
  clear hP hB2 hkq hkf hkb HD HB HK HA
  go_wp2_with fail
  refine (pcreate_calls w2 HP.out rfl (show (0 : Nat) < 1000000000 by decide) (by rw [HF.out]; decide) [97]).mono ?_
  rintro e w3 ⟨rfl, hB3, L3, hL3, hP3, _⟩
  rw [HF.out] at hL3 hP3
  rw [HF.out]
  have e1 := left_one k.keep
  rw [show (fs ([] : Lf)) = [] from rfl] at hL3 hP3 ⊢
  rw [e1] at hL3 hP3
  rw [e1]
  have HL3 := Lib.hid hL3
  have HP3 := Lib.hid hP3
  have HB3 := Lib.hid (HB2.out.trans (by rw [← HKb.out]; exact hB3))
  clear hL3 hP3 hB3 e1 HP HB2
  go_wp2_with fail
  refine (pappend_calls w3 HP3.out HL3.out (show (1 : Nat) < 1000000000 by decide) (by rw [HF.out]; decide) [97] [120, 121, 122] (by decide)).mono ?_
  rintro e w4 ⟨rfl, hB4, L4, hL4, hP4, _⟩
  rw [HF.out, HQ.out, left_two] at hL4 hP4
  rw [HF.out, HQ.out, left_two]
  have HL4 := Lib.hid hL4
  have HP4 := Lib.hid hP4
  have HB4 := Lib.hid (HB3.out.trans (by rw [← HKb.out]; exact hB4))
  clear hL4 hP4 hB4 HL3 HP3 HB3
  go_wp2_with fail
  refine (pappend_calls w4 HP4.out HL4.out (show (2 : Nat) < 1000000000 by decide) (by rw [HF.out]; decide) [97] [119] (by decide)).mono ?_
  rintro e w5 ⟨rfl, hB5, L5, hL5, hP5, _⟩
  rw [HF.out, HQ.out, left_three] at hL5 hP5
  rw [HF.out, HQ.out, left_three]
  have HL5 := Lib.hid hL5
  have HP5 := Lib.hid hP5
  have HB5 := Lib.hid (HB4.out.trans (by rw [← HKb.out]; exact hB5))
  clear hL5 hP5 hB5 HL4 HP4 HB4
  go_wp2_with fail
  refine (pread_off w5 HP5.out rfl [97]).mono ?_
  rintro e w6 ⟨rfl, hw6⟩
  obtain rfl := hw6.symm
  go_wp2_with fail
  refine (read_calls w5 HP5.out.disk [97]).mono ?_
  rintro e w7 ⟨rfl, hB7⟩
  rw [show fs L5 = leftF k.keep from HL5.out, left_read]
  have HP7 := Lib.hid (HP5.out.below hB7)
  have HB7 := Lib.hid (HB5.out.trans (hB7.mono HB5.out.size))
  clear hB7 HP5 HB5
  go_wp2_with fail
  refine (down_s w7 HP7.out).mono ?_
  rintro e w8 ⟨rfl, hw8⟩
  obtain rfl := hw8.symm
  rw [show (leftP k.keep).dn = true from rfl]
  go_wp2_with fail
  refine (writes_calls w7 HP7.out).mono ?_
  rintro e w8 ⟨rfl, hw8⟩
  obtain rfl := hw8.symm
  rw [show (pcOf (leftP k.keep)).wr = 2 from rfl]
  go_wp2_with fail
  go_ret
  exact ⟨rfl, HB7.out⟩
theorem cells_nums2 (w : World) (a b : Int) : Nums (w.alloc (.cells #[.int .i64 a, .int .i64 b] 3)) (some ⟨w.heap.size, 0, none⟩) [a, b] := fun j hj => by
  have hj2 : j < 2 := by simpa using hj
  have hn := heap_alloc_new w (.cells #[.int .i64 a, .int .i64 b] 3)
  rcases (show j = 0 ∨ j = 1 by omega) with rfl | rfl
  · refine ⟨⟨w.heap.size, 0, none⟩, rfl, ?_⟩
    show World.cell? _ ⟨w.heap.size, 0, none⟩ = some (.int .i64 a)
    unfold World.cell?
    rw [hn]
    rfl
  · refine ⟨⟨w.heap.size, 0, none⟩, rfl, ?_⟩
    show World.cell? _ ⟨w.heap.size, 1, none⟩ = some (.int .i64 b)
    unfold World.cell?
    rw [hn]
    rfl
theorem cells_nums1 (w : World) (a : Int) : Nums (w.alloc (.cells #[.int .i64 a] 3)) (some ⟨w.heap.size, 0, none⟩) [a] := fun j hj => by
  have hj2 : j < 1 := by simpa using hj
  obtain rfl : j = 0 := by omega
  have hn := heap_alloc_new w (.cells #[.int .i64 a] 3)
  refine ⟨⟨w.heap.size, 0, none⟩, rfl, ?_⟩
  show World.cell? _ ⟨w.heap.size, 0, none⟩ = some (.int .i64 a)
  unfold World.cell?
  rw [hn]
  rfl
theorem awake_calls (w : World) : Calls Try.prog 26 #[] w fun e w' => e = .returned (.bool true) ∧ Below w.heap.size w w' := by
  have hb1 := bs_toList [120]
  have hb0 := bs_toList []
  have HN2 := Lib.hid (cells_nums2 w 1 2)
  have HB1 := Lib.hid ((Below.refl w.heap.size w).alloc (Nat.le_refl _) (.cells #[.int .i64 1, .int .i64 2] 3))
  go_enter Try.func26, Try.ntmps26
  go_wp2_with fail
  refine (left_calls (w.alloc (.cells #[.int .i64 1, .int .i64 2] 3)) (some ⟨w.heap.size, 0, none⟩) 2 [1, 2] (by decide) (fun h => by cases h) HN2.out).mono ?_
  rintro e w2 ⟨rfl, hB2⟩
  rw [left_12]
  have HB2 := Lib.hid (HB1.out.trans (hB2.mono HB1.out.size))
  have HB3 := Lib.hid (HB2.out.alloc HB2.out.size (.cells #[.int .i64 0] 3))
  have HN1 := Lib.hid (cells_nums1 w2 0)
  clear hB2 HB1 HN2
  go_wp2_with fail
  refine (left_calls (w2.alloc (.cells #[.int .i64 0] 3)) (some ⟨w2.heap.size, 0, none⟩) 1 [0] (by decide) (fun h => by cases h) HN1.out).mono ?_
  rintro e w4 ⟨rfl, hB4⟩
  rw [left_0]
  have HB4 := Lib.hid (HB3.out.trans (hB4.mono HB3.out.size))
  clear hB4 HB3 HN1
  go_wp2_with fail
  go_ret
  exact ⟨rfl, HB4.out⟩
end Go.Proofs.Ytbffgpfkgmhmhaa.Dw
/- PowerKnown's walk (function 4). -/
set_option linter.unusedVariables false
set_option linter.unusedSimpArgs false
namespace Go.Proofs.Ytbffgpfkgmhmhaa.Dw
open Go.RowKit Go.Maps Go.Proofs.YtbffgpfkgmhmhaaW.PrintWords Go.Proofs.YtbffgpfkgmhmhaaW.PrintLast Go.Proofs.YtbffgpfkgmhmhaaW.PrintMore Go.Proofs.Dk
set_option maxRecDepth 100000
theorem row_slice9 {w : World} {B : Nat} {v : Value} {n : Nat} {xs : List Value} (h : w.ownsRow B 9 1 v n xs) : ∃ A cap, v = .slice A n cap := by
  rcases h.2 with ⟨rfl, rfl⟩ | ⟨g, cap, cur, rfl, _⟩
  · exact ⟨_, _, rfl⟩
  · exact ⟨_, _, rfl⟩
def k1 : PS := ⟨[([97], ⟨[], 0⟩)], 1, false⟩
def k2 : PS := ⟨[([97], ⟨[120, 121, 122], 0⟩)], 2, false⟩
def k3 : PS := ⟨[([97], ⟨[120, 121, 122], 3⟩)], 3, false⟩
def k4 : PS := ⟨[([97], ⟨[120, 121, 122, 119], 3⟩)], 4, false⟩
def k5 : PS := ⟨[([97], ⟨[120, 121, 122, 119], 4⟩)], 4, true⟩
theorem kn_1 : pw (-1) [1, 2] (fun l => create l [97]) ⟨[], 0, false⟩ = (k1, 0) := by rw [pw_miss rfl (by decide)]; rfl
theorem kn_2 : pw (-1) [1, 2] (fun l => append 100 l [97] [120, 121, 122]) k1 = (k2, 0) := by rw [pw_miss rfl (by decide)]; rfl
theorem kn_3 : pw (-1) [1, 2] (fun l => sync l [97]) k2 = (k3, 0) := by rw [pw_miss rfl (by decide)]; rfl
theorem kn_4 : pw (-1) [1, 2] (fun l => append 100 l [97] [119]) k3 = (k4, 0) := by rw [pw_miss rfl (by decide)]; rfl
theorem kn_5 : crash [1, 2] k4.l = k5.l := by rfl
theorem kn_r : read k5.l [97] = ([120, 121, 122, 119], 0) := rfl
theorem kn_6 : pw (-1) [1, 2] (fun l => create l [98]) k5 = (k5, 8) := pw_off rfl
def zObj : Obj := .cells #[.pointer none, .int .i64 0, .slice none 0 0, .int .i64 0, .int .i64 0, .int .u32 0, .int .i32 0, .int .u32 0] 62
theorem nop_none (w : World) : NoP w none := fun a h => by cases h
theorem NoP.below {w w' : World} {p : Option Addr} (h : NoP w p) (hB : Below w.heap.size w w') : NoP w' p := fun a ha => by
  obtain ⟨b, rfl, hc⟩ := h a ha
  exact ⟨b, rfl, cell_below hc hB⟩
theorem same_ptr (W : World) (a : Addr) : (binOp .neq 23 (.pointer (some a)) (.pointer (some a))).run Try.prog W = .ok (.bool false) W := by
  obtain ⟨j, hj⟩ := Option.isSome_iff_exists.1 (show (Try.prog.info? 69).isSome = true by kernel_rfl)
  exact Lib.run_neq_ptr_same W a (te := 69) Try.underlying23 hj
set_option maxHeartbeats 8000000 in
theorem pknown_calls (w : World) : Calls Try.prog 4 #[] w fun e w' => e = .returned (.bool true) ∧ Below w.heap.size w w' := by
  have hb4 := bs_toList [120, 121, 122, 119]
  have hb0 := bs_toList []
  have hsame := same_ptr
  go_enter Try.func4, Try.ntmps4
  go_wp2_with fail
  refine (new_ok w 100 (by decide)).mono ?_
  rintro e w1 ⟨d, mb, rfl, hD, hB⟩
  have HB1 := Lib.hid (hB.alloc hB.size (.cells #[.int .i64 1, .int .i64 2] 3))
  have HD1 := Lib.hid (hD.alloc (.cells #[.int .i64 1, .int .i64 2] 3))
  have HN := Lib.hid (cells_nums2 w1 1 2)
  clear hD hB
  go_wp2_with fail
  refine (pnew_k (w1.alloc (.cells #[.int .i64 1, .int .i64 2] 3)) HD1.out (-1) (some ⟨w1.heap.size, 0, none⟩) 2 [1, 2] (by decide) (fun h => by cases h) HN.out).mono ?_
  rintro e w2 ⟨k, rfl, hkb, rfl, hkq, hkf, hkk, hP, hB2⟩
  have HP := Lib.hid hP
  have HB2 := Lib.hid (HB1.out.trans (hB2.mono HB1.out.size))
  have HQ := Lib.hid hkq
  have HF := Lib.hid hkf
  have HKb := Lib.hid hkb
  have HKk := Lib.hid hkk
  clear hP hB2 hkq hkf hkb hkk HD1 HB1 HN
  go_wp2_with fail
  refine (down_s w2 HP.out).mono ?_
  rintro e w3 ⟨rfl, hw3⟩
  obtain rfl := hw3.symm
  go_wp2_with fail
  refine (disk_calls w2 HP.out).mono ?_
  rintro e w3 ⟨rfl, hw3⟩
  obtain rfl := hw3.symm
  go_wp2_with fail
  refine (pcreate_calls w2 HP.out rfl (show (0 : Nat) < 1000000000 by decide) (by rw [HF.out]; decide) [97]).mono ?_
  rintro e w3 ⟨rfl, hB3, L3, hL3, hP3, _⟩
  rw [HF.out, HKk.out, show (fs ([] : Lf)) = [] from rfl, kn_1] at hL3 hP3
  rw [HF.out, HKk.out, show (fs ([] : Lf)) = [] from rfl, kn_1]
  have HL3 := Lib.hid hL3
  have HP3 := Lib.hid hP3
  have HB3 := Lib.hid (HB2.out.trans (by rw [← HKb.out]; exact hB3))
  clear hL3 hP3 hB3 HP HB2
  go_wp2_with fail
  refine (pappend_calls w3 HP3.out HL3.out (show (1 : Nat) < 1000000000 by decide) (by rw [HF.out]; decide) [97] [120, 121, 122] (by decide)).mono ?_
  rintro e w4 ⟨rfl, hB4, L4, hL4, hP4, _⟩
  rw [HF.out, HKk.out, HQ.out, kn_2] at hL4 hP4
  rw [HF.out, HKk.out, HQ.out, kn_2]
  have HL4 := Lib.hid hL4
  have HP4 := Lib.hid hP4
  have HB4 := Lib.hid (HB3.out.trans (by rw [← HKb.out]; exact hB4))
  clear hL4 hP4 hB4 HP3 HB3 HL3
  go_wp2_with fail
  refine (psync_calls w4 HP4.out HL4.out (show (2 : Nat) < 1000000000 by decide) (by rw [HF.out]; decide) [97]).mono ?_
  rintro e w5 ⟨rfl, hB5, L5, hL5, hP5, _⟩
  rw [HF.out, HKk.out, kn_3] at hL5 hP5
  rw [HF.out, HKk.out, kn_3]
  have HL5 := Lib.hid hL5
  have HP5 := Lib.hid hP5
  have HB5 := Lib.hid (HB4.out.trans (by rw [← HKb.out]; exact hB5))
  clear hL5 hP5 hB5 HP4 HB4 HL4
  go_wp2_with fail
  refine (pappend_calls w5 HP5.out HL5.out (show (3 : Nat) < 1000000000 by decide) (by rw [HF.out]; decide) [97] [119] (by decide)).mono ?_
  rintro e w6 ⟨rfl, hB6, L6, hL6, hP6, _⟩
  rw [HF.out, HKk.out, HQ.out, kn_4] at hL6 hP6
  rw [HF.out, HKk.out, HQ.out, kn_4]
  have HL6 := Lib.hid hL6
  have HP6 := Lib.hid hP6
  have HB6 := Lib.hid (HB5.out.trans (by rw [← HKb.out]; exact hB6))
  clear hL6 hP6 hB6 HP5 HB5 HL5
  go_wp2_with fail
  refine (plist_calls w6 HP6.out rfl).mono ?_
  rintro e w7 ⟨v, rfl, hO, hB7⟩
  obtain ⟨A7, c7, rfl⟩ := row_slice9 hO
  rw [show (fs L6).length = 1 by rw [show fs L6 = k4.l from HL6.out]; rfl]
  have HP7 := Lib.hid (HP6.out.below hB7)
  have HB7 := Lib.hid (HB6.out.trans (hB7.mono HB6.out.size))
  clear hO hB7 HP6 HB6
  go_wp2_with fail
  refine (blow_on w7 HP7.out rfl rfl).mono ?_
  rintro e w8 ⟨⟨v, rfl⟩, L8, hL8, hP8, hB8, _⟩
  rw [HKk.out, show fs L6 = k4.l from HL6.out, kn_5] at hL8
  have HL8 := Lib.hid hL8
  have HP8 := Lib.hid (show IsP w8 k L8 (pcOf k5) from hP8)
  have HB8 := Lib.hid (HB7.out.trans (by rw [← HKb.out]; exact hB8))
  clear hL8 hP8 hB8 HP7 HB7 HL6
  go_wp2_with fail
  refine (blow_off w8 HP8.out rfl).mono ?_
  rintro e w9 ⟨⟨v9, rfl⟩, hB9⟩
  have HP9 := Lib.hid (HP8.out.below hB9)
  have HB9 := Lib.hid (HB8.out.trans (hB9.mono HB8.out.size))
  clear hB9 HP8 HB8
  go_wp2_with fail
  refine (read_calls w9 HP9.out.disk [97]).mono ?_
  rintro e w10 ⟨rfl, hB10⟩
  rw [show fs L8 = k5.l from HL8.out, kn_r]
  have HP10 := Lib.hid (HP9.out.below hB10)
  have HB10 := Lib.hid (HB9.out.trans (hB10.mono HB9.out.size))
  clear hB10 HP9 HB9
  go_wp2_with fail
  refine (down_s w10 HP10.out).mono ?_
  rintro e w3 ⟨rfl, hw3⟩
  obtain rfl := hw3.symm
  rw [show k5.dn = true from rfl]
  go_wp2_with fail
  refine (writes_calls w10 HP10.out).mono ?_
  rintro e w3 ⟨rfl, hw3⟩
  obtain rfl := hw3.symm
  rw [show (pcOf k5).wr = 4 from rfl]
  go_wp2_with fail
  refine (plist_off w10 HP10.out rfl).mono ?_
  rintro e w3 ⟨rfl, hw3⟩
  obtain rfl := hw3.symm
  go_wp2_with fail
  refine (pcreate_calls w10 HP10.out HL8.out (show (4 : Nat) < 1000000000 by decide) (by rw [HF.out]; decide) [98]).mono ?_
  rintro e w11 ⟨rfl, hB11, L11, hL11, hP11, _⟩
  rw [HF.out, HKk.out, kn_6] at hL11 hP11
  rw [HF.out, HKk.out, kn_6]
  have HP11 := Lib.hid hP11
  have HB11 := Lib.hid (HB10.out.trans (by rw [← HKb.out]; exact hB11))
  clear hL11 hP11 hB11 HP10 HB10 HL8
  go_wp2_with fail
  refine (writes_calls w11 HP11.out).mono ?_
  rintro e w3 ⟨rfl, hw3⟩
  obtain rfl := hw3.symm
  rw [show (pcOf k5).wr = 4 from rfl]
  go_wp2_with fail
  refine (left_calls w11 none 0 [] (by decide) (fun _ => rfl) (fun j h => by simp at h)).mono ?_
  rintro e w12 ⟨rfl, hB12⟩
  rw [left_nil]
  have HB12 := Lib.hid (HB11.out.trans (hB12.mono HB11.out.size))
  clear hB12 HP11 HB11
  go_wp2_with fail
  have HBz := Lib.hid (HB12.out.alloc HB12.out.size zObj)
  have HNz := Lib.hid (show NoP (w12.alloc zObj) (some ⟨w12.heap.size, 0, none⟩) from fun a ha => by
    cases ha
    refine ⟨_, rfl, ?_⟩
    have hn := heap_alloc_new w12 zObj
    unfold World.cell?
    rw [hn]
    rfl)
  obtain ⟨z, hz⟩ : ∃ z, w12.heap.size = z := ⟨_, rfl⟩
  refine (blow_no (w12.alloc zObj) (nop_none _)).mono ?_
  rintro e w13 ⟨⟨v13, rfl⟩, hB13⟩
  have HN13 := Lib.hid (HNz.out.below hB13)
  have HB13 := Lib.hid (HBz.out.trans (hB13.mono HBz.out.size))
  clear hB13 HNz HBz HB12
  rw [hz] at HN13
  simp only [hz]
  clear hz
  go_wp2_with fail
  refine (blow_no w13 HN13.out).mono ?_
  rintro e w14 ⟨⟨v14, rfl⟩, hB14⟩
  have HN14 := Lib.hid (HN13.out.below hB14)
  have HB14 := Lib.hid (HB13.out.trans (hB14.mono HB13.out.size))
  clear hB14 HN13 HB13
  go_wp2_with fail
  refine (pread_no w14 (nop_none _) [97]).mono ?_
  rintro e w3 ⟨rfl, hw3⟩
  obtain rfl := hw3.symm
  go_wp2_with fail
  refine (pnew_nil w14 0 none 0 0).mono ?_
  rintro e w3 ⟨rfl, hw3⟩
  obtain rfl := hw3.symm
  go_wp2_with fail
  refine (pcreate_no w14 (nop_none _) [97]).mono ?_
  rintro e w15 ⟨rfl, hB15⟩
  have HN15 := Lib.hid (HN14.out.below hB15)
  have HB15 := Lib.hid (HB14.out.trans (hB15.mono HB14.out.size))
  clear hB15 HN14 HB14
  go_wp2_with fail
  refine (psync_no w15 HN15.out [97]).mono ?_
  rintro e w16 ⟨rfl, hB16⟩
  have HN16 := Lib.hid (HN15.out.below hB16)
  have HB16 := Lib.hid (HB15.out.trans (hB16.mono HB15.out.size))
  clear hB16 HN15 HB15
  go_wp2_with fail
  refine (down_no w16 (nop_none _)).mono ?_
  rintro e w3 ⟨rfl, hw3⟩
  obtain rfl := hw3.symm
  go_wp2_with fail
  refine (down_no w16 HN16.out).mono ?_
  rintro e w3 ⟨rfl, hw3⟩
  obtain rfl := hw3.symm
  go_wp2_with fail
  refine (writes_no w16 (nop_none _)).mono ?_
  rintro e w3 ⟨rfl, hw3⟩
  obtain rfl := hw3.symm
  go_wp2_with fail
  refine (disk_no w16 HN16.out).mono ?_
  rintro e w3 ⟨rfl, hw3⟩
  obtain rfl := hw3.symm
  go_wp2_with fail
  refine (plist_no w16 HN16.out).mono ?_
  rintro e w3 ⟨rfl, hw3⟩
  obtain rfl := hw3.symm
  go_wp2_with fail
  refine (awake_calls w16).mono ?_
  rintro e w17 ⟨rfl, hB17⟩
  have HB17 := Lib.hid (HB16.out.trans (hB17.mono HB16.out.size))
  clear hB17
  go_wp2_with fail
  go_ret
  exact ⟨rfl, HB17.out⟩
end Go.Proofs.Ytbffgpfkgmhmhaa.Dw
