/- A network as lists in the order sent, and the calls in these words. -/
import Derived.Test.YtjdehmclcdiijaaHl
set_option linter.unusedVariables false
namespace Go.Proofs.Ytjdehmclcdiijaa.Hp
open Go.RowKit Go.Proofs.YtjdehmclcdiijaaW.PrintWords Go.Proofs.YtjdehmclcdiijaaW.PrintLast Go.Proofs.YtjdehmclcdiijaaW.PrintMore

abbrev DG := Int × ByteArray
def g0 : DG := (0, .empty)
/-- Where the first of the least due is. -/
def fm : List DG → Nat
  | [] => 0
  | x :: t => if t.all (fun y => decide (x.1 ≤ y.1)) then 0 else fm t + 1
theorem fm_spec : ∀ (l : List DG), 0 < l.length → fm l < l.length ∧ (∀ k, k < l.length → (l.getD (fm l) g0).1 ≤ (l.getD k g0).1) ∧ ∀ k, k < fm l → (l.getD (fm l) g0).1 < (l.getD k g0).1
  | [], h => by simp at h
  | x :: t, _ => by
    by_cases ha : t.all (fun y => decide (x.1 ≤ y.1)) = true
    · rw [fm, if_pos ha]
      refine ⟨by simp, fun k hk => ?_, fun k hk => by omega⟩
      cases k with
      | zero => simp
      | succ k =>
        simp only [List.getD_cons_zero, List.getD_cons_succ]
        have hk' : k < t.length := by simpa using hk
        rw [List.all_eq_true] at ha
        have := ha t[k] (List.getElem_mem hk')
        simp only [List.getD_eq_getElem?_getD, List.getElem?_eq_getElem hk', Option.getD_some]
        exact of_decide_eq_true this
    · rw [fm, if_neg ha]
      have hex : ∃ y ∈ t, y.1 < x.1 := by
        apply Classical.byContradiction
        intro hn
        apply ha
        rw [List.all_eq_true]
        intro y hy
        apply decide_eq_true
        apply Classical.byContradiction
        intro h
        exact hn ⟨y, hy, by omega⟩
      obtain ⟨y, hy, hyx⟩ := hex
      obtain ⟨p, hp, rfl⟩ := List.getElem_of_mem hy
      have hlt : 0 < t.length := by omega
      obtain ⟨i1, i2, i3⟩ := fm_spec t hlt
      have hmin : (t.getD (fm t) g0).1 < x.1 := by
        have := i2 p hp
        simp only [List.getD_eq_getElem?_getD, List.getElem?_eq_getElem hp, Option.getD_some] at this
        simp only [List.getD_eq_getElem?_getD]
        omega
      refine ⟨by simpa using i1, fun k hk => ?_, fun k hk => ?_⟩
      · cases k with
        | zero => simp only [List.getD_cons_zero, List.getD_cons_succ]; omega
        | succ k => simp only [List.getD_cons_succ]; exact i2 k (by simpa using hk)
      · cases k with
        | zero => simp only [List.getD_cons_zero, List.getD_cons_succ]; omega
        | succ k => simp only [List.getD_cons_succ]; exact i3 k (by omega)

structure AN where
  most : Int
  now : Int
  put : Int
  sent : Int
  lost : Int
  told : Int
  L : Nat → List DG
def AN.setL (a : AN) (o : Nat) (l : List DG) : AN := { a with L := fun k => if k = o then l else a.L k }
def AN.tick (a : AN) : AN := { a with now := a.now + 1 }
def asend1 (a : AN) (c : Int) : AN := { a with sent := a.sent + 1, lost := if c % 4 = 0 then a.lost + 1 else a.lost }
def asendTo (a : AN) (o : Nat) (bytes : ByteArray) (d : Int) : Nat → AN × Int
  | 0 => (a, 0)
  | k + 1 =>
    if (asendTo a o bytes d k).1.most ≤ (((asendTo a o bytes d k).1.L o).length : Int) then ({ (asendTo a o bytes d k).1 with lost := (asendTo a o bytes d k).1.lost + 1 }, (asendTo a o bytes d k).2)
    else ({ (asendTo a o bytes d k).1 with put := (asendTo a o bytes d k).1.put + 1 }.setL o ((asendTo a o bytes d k).1.L o ++ [((asendTo a o bytes d k).1.now + d % 8 + k, bytes)]), (asendTo a o bytes d k).2 + 1)
def asendS (a : AN) (o : Nat) (bytes : ByteArray) (c d : Int) : AN × Int := asendTo (asend1 a c) o bytes d (c % 4).toNat
def aready (a : AN) (o : Nat) : Bool := decide (0 < (a.L o).length) && decide (((a.L o).getD (fm (a.L o)) g0).1 ≤ a.now)
def atop (a : AN) (o : Nat) : ByteArray := ((a.L o).getD (fm (a.L o)) g0).2
def arecv (a : AN) (o : Nat) : AN := { a with told := a.told + 1 }.setL o ((a.L o).eraseIdx (fm (a.L o)))
def awaits (a : AN) (way : Int) : Int := if 0 ≤ way ∧ way < 2 then (a.L way.toNat).length else 0
def afresh (most : Int) : AN := ⟨most, 0, 0, 0, 0, 0, fun _ => []⟩

structure ASmall (s : AN) (B : Int) : Prop where
  most0 : 0 < s.most
  most : s.most ≤ 64
  now : 0 ≤ s.now ∧ s.now ≤ B
  put : 0 ≤ s.put ∧ s.put ≤ B
  sent : 0 ≤ s.sent ∧ s.sent ≤ B
  lost : 0 ≤ s.lost ∧ s.lost ≤ B
  told : 0 ≤ s.told ∧ s.told ≤ B
  q : ∀ o, o < 2 → ((s.L o).length : Int) ≤ s.most

def dg (d : D) : DG := (d.due, d.bytes)
def AbsL (l : List D) (put : Int) (L : List DG) : Prop := ∃ M : List D, IsHeap l.length l ∧ l.Perm M ∧ M.Pairwise (fun x y => x.num < y.num) ∧ (∀ d ∈ M, d.num ≤ put) ∧ M.map dg = L
structure Abs (s : NS) (a : AN) : Prop where
  most : s.most = a.most
  now : s.now = a.now
  put : s.put = a.put
  sent : s.sent = a.sent
  lost : s.lost = a.lost
  told : s.told = a.told
  q : ∀ o, o < 2 → AbsL (s.q o) s.put (a.L o)

theorem absl_len {l : List D} {put : Int} {L : List DG} (h : AbsL l put L) : L.length = l.length := by
  obtain ⟨M, _, hp, _, _, rfl⟩ := h
  rw [List.length_map, hp.length_eq]
theorem absl_mono {l : List D} {put put' : Int} {L : List DG} (h : AbsL l put L) (hp : put ≤ put') : AbsL l put' L := by
  obtain ⟨M, h1, h2, h3, h4, h5⟩ := h
  exact ⟨M, h1, h2, h3, fun d hd => Int.le_trans (h4 d hd) hp, h5⟩
theorem absl_push {l : List D} {put : Int} {L : List DG} (h : AbsL l put L) (due : Int) (b : ByteArray) : AbsL (hpush l ⟨due, put + 1, b⟩) (put + 1) (L ++ [(due, b)]) := by
  obtain ⟨M, h1, h2, h3, h4, rfl⟩ := h
  have hh := hpush_heap h1 ⟨due, put + 1, b⟩
  refine ⟨M ++ [⟨due, put + 1, b⟩], hh.1, hh.2.trans (h2.append_right _), ?_, ?_, by simp [dg]⟩
  · rw [List.pairwise_append]
    refine ⟨h3, by simp, fun x hx y hy => ?_⟩
    rw [List.mem_singleton] at hy
    subst hy
    have := h4 x hx
    show x.num < put + 1
    omega
  · intro d hd
    rw [List.mem_append, List.mem_singleton] at hd
    rcases hd with hd | rfl
    · have := h4 d hd; omega
    · exact Int.le_refl _

theorem erase_perm : ∀ (l : List D) (i : Nat) (h : i < l.length), (l[i] :: l.eraseIdx i).Perm l
  | [], i, h => by simp at h
  | x :: t, 0, h => by simp
  | x :: t, i + 1, h => by
    have := erase_perm t i (by simpa using h)
    simp only [List.getElem_cons_succ, List.eraseIdx_cons_succ]
    exact (List.Perm.swap x _ _).trans (this.cons x)
theorem map_erase : ∀ (l : List D) (i : Nat), (l.eraseIdx i).map dg = (l.map dg).eraseIdx i
  | [], i => by simp
  | x :: t, 0 => by simp
  | x :: t, i + 1 => by simp [map_erase t i]
/-- The heap's top is the first of the least due. -/
theorem absl_top {l : List D} {put : Int} {L : List DG} (h : AbsL l put L) (hl : 0 < l.length) : dg (l.getD 0 d0) = L.getD (fm L) g0 ∧ dg (htop l) = L.getD (fm L) g0 ∧ AbsL (hrest l) put (L.eraseIdx (fm L)) := by
  have hLl := absl_len h
  obtain ⟨M, h1, h2, h3, h4, rfl⟩ := h
  obtain ⟨t1, t2, t3⟩ := hpop_heap h1 hl
  have hML : M.length = l.length := h2.length_eq.symm
  obtain ⟨f1, f2, f3⟩ := fm_spec (M.map dg) (by rw [hLl]; exact hl)
  have hfM : fm (M.map dg) < M.length := by simpa using f1
  have hget : ∀ k, k < M.length → (M.map dg).getD k g0 = dg (M.getD k d0) := fun k hk => by simp [List.getD_eq_getElem?_getD, List.getElem?_eq_getElem hk]
  -- where the top is in M
  have hx : l.getD 0 d0 ∈ M := by
    rw [getD_get _ _ hl]
    exact h2.subset (List.getElem_mem hl)
  obtain ⟨i, hi, hie⟩ := List.getElem_of_mem hx
  have hgi : M.getD i d0 = l.getD 0 d0 := by rw [getD_get _ _ hi, hie]
  have hmin : ∀ k, k < M.length → le (l.getD 0 d0) (M.getD k d0) := by
    intro k hk
    rw [getD_get M k hk]
    obtain ⟨p, hp, hpe⟩ := List.getElem_of_mem (h2.symm.subset (List.getElem_mem hk))
    rw [← hpe, ← getD_get l p hp]
    exact heap_min h1 p hp
  have hsorted : ∀ p q, p < q → q < M.length → (M.getD p d0).num < (M.getD q d0).num := by
    intro p q hpq hq
    rw [getD_get _ _ (by omega), getD_get _ _ hq]
    exact List.pairwise_iff_getElem.1 h3 p q (by omega) hq hpq
  have hif : i = fm (M.map dg) := by
    have a1 := hmin _ hfM
    have a2 := f2 i (by simpa using hi)
    rw [hget _ hfM, hget _ hi, hgi] at a2
    rw [le_iff] at a1
    simp only [dg] at a2
    have a3 : (l.getD 0 d0).due = (M.getD (fm (M.map dg)) d0).due ∧ (l.getD 0 d0).num ≤ (M.getD (fm (M.map dg)) d0).num := by omega
    apply Classical.byContradiction
    intro hne
    rcases (by omega : i < fm (M.map dg) ∨ fm (M.map dg) < i) with hlt | hlt
    · have := f3 i hlt
      rw [hget _ hfM, hget _ hi, hgi] at this
      simp only [dg] at this
      omega
    · have := hsorted _ _ hlt hi
      rw [hgi] at this
      omega
  have e1 : dg (l.getD 0 d0) = (M.map dg).getD (fm (M.map dg)) g0 := by rw [hget _ hfM, ← hif, hgi]
  refine ⟨e1, by rw [t1]; exact e1, M.eraseIdx (fm (M.map dg)), t2, ?_, ?_, ?_, ?_⟩
  · have p1 : (htop l :: hrest l).Perm (htop l :: M.eraseIdx (fm (M.map dg))) := by
      refine (t3.trans h2).trans ?_
      rw [t1, ← hgi, getD_get _ _ hi, ← hif]
      exact (erase_perm M i hi).symm
    exact p1.cons_inv
  · exact h3.sublist (List.eraseIdx_sublist _ _)
  · exact fun d hd => h4 d (List.mem_of_mem_eraseIdx hd)
  · generalize fm (M.map dg) = f
    exact map_erase M f

theorem abs_ready {s : NS} {a : AN} (h : Abs s a) {o : Nat} (ho : o < 2) : ready s o = aready a o := by
  have hl := absl_len (h.q o ho)
  unfold ready aready
  rw [hl]
  by_cases h0 : 0 < (s.q o).length
  · have := (absl_top (h.q o ho) h0).1
    rw [decide_eq_true h0, Bool.true_and, Bool.true_and, ← this, h.now]
    rfl
  · rw [decide_eq_false h0, Bool.false_and, Bool.false_and]
theorem abs_recv {s : NS} {a : AN} (h : Abs s a) {o : Nat} (ho : o < 2) (hr : aready a o = true) : (htop (s.q o)).bytes = atop a o ∧ Abs ({ s with told := s.told + 1 }.setQ o (hrest (s.q o))) (arecv a o) := by
  have hl := absl_len (h.q o ho)
  have h0 : 0 < (s.q o).length := by
    unfold aready at hr
    rw [Bool.and_eq_true] at hr
    have := of_decide_eq_true hr.1
    omega
  obtain ⟨_, t2, t3⟩ := absl_top (h.q o ho) h0
  refine ⟨by unfold atop; rw [← t2]; rfl, ⟨h.most, h.now, h.put, h.sent, h.lost, by simp only [NS.setQ, arecv, AN.setL]; rw [h.told], fun p hp => ?_⟩⟩
  simp only [NS.setQ, arecv, AN.setL]
  by_cases e : p = o
  · subst e; simp only [↓reduceIte]; exact t3
  · simp only [e, ↓reduceIte]; exact h.q p hp
theorem abs_send1 {s : NS} {a : AN} (h : Abs s a) (c : Int) : Abs (send1 s c) (asend1 a c) :=
  ⟨h.most, h.now, h.put, by simp only [send1, asend1]; rw [h.sent], by simp only [send1, asend1]; rw [h.lost], h.told, h.q⟩
theorem abs_sendTo {s : NS} {a : AN} (h : Abs s a) {o : Nat} (ho : o < 2) (bytes : ByteArray) (d : Int) : ∀ k : Nat, Abs (sendTo s o bytes d k).1 (asendTo a o bytes d k).1 ∧ (sendTo s o bytes d k).2 = (asendTo a o bytes d k).2
  | 0 => ⟨h, rfl⟩
  | k + 1 => by
    obtain ⟨i1, i2⟩ := abs_sendTo h ho bytes d k
    have hl := absl_len (i1.q o ho)
    rw [sendTo, asendTo, hl, i1.most]
    split
    · exact ⟨⟨by first | exact i1.most | rfl, i1.now, i1.put, i1.sent, by simp only; rw [i1.lost], i1.told, i1.q⟩, i2⟩
    · refine ⟨⟨by first | exact i1.most | rfl, i1.now, by simp only [NS.setQ, AN.setL]; rw [i1.put], i1.sent, i1.lost, i1.told, fun p hp => ?_⟩, by simp only; rw [i2]⟩
      simp only [NS.setQ, AN.setL]
      by_cases e : p = o
      · subst e
        simp only [↓reduceIte]
        rw [i1.now]
        exact absl_push (i1.q p hp) _ _
      · simp only [e, ↓reduceIte]
        exact absl_mono (i1.q p hp) (by omega)
theorem abs_small {s : NS} {a : AN} (h : Abs s a) {B : Int} (k : ASmall a B) : Small s B := by
  obtain ⟨k1, k2, k3, k4, k5, k6, k7, k8⟩ := k
  refine ⟨by rw [h.most]; exact k1, by rw [h.most]; exact k2, by rw [h.now]; exact k3, by rw [h.put]; exact k4, by rw [h.sent]; exact k5, by rw [h.lost]; exact k6, by rw [h.told]; exact k7, fun o ho => ?_⟩
  rw [← absl_len (h.q o ho), h.most]
  exact k8 o ho
theorem abs_waits {s : NS} {a : AN} (h : Abs s a) (way : Int) : waits s way = awaits a way := by
  unfold waits awaits
  split
  · rename_i hw
    rw [absl_len (h.q way.toNat (by omega))]
  · rfl
theorem abs_fresh (most : Int) : Abs (fresh most) (afresh most) := ⟨rfl, rfl, rfl, rfl, rfl, rfl, fun o ho => ⟨[], fun i hi hl => by simp [fresh] at hl, List.Perm.refl _, by simp, by simp, rfl⟩⟩
theorem afresh_small {most : Int} (h0 : 0 < most) (h1 : most ≤ 64) : ASmall (afresh most) 0 := ⟨h0, h1, ⟨Int.le_refl _, Int.le_refl _⟩, ⟨Int.le_refl _, Int.le_refl _⟩, ⟨Int.le_refl _, Int.le_refl _⟩, ⟨Int.le_refl _, Int.le_refl _⟩, ⟨Int.le_refl _, Int.le_refl _⟩, fun o ho => by simp [afresh]; omega⟩
theorem asmall_mono {a : AN} {B B' : Int} (h : ASmall a B) (hb : B ≤ B') : ASmall a B' := by
  obtain ⟨h1, h2, h3, h4, h5, h6, h7, h8⟩ := h
  exact ⟨h1, h2, ⟨h3.1, by omega⟩, ⟨h4.1, by omega⟩, ⟨h5.1, by omega⟩, ⟨h6.1, by omega⟩, ⟨h7.1, by omega⟩, h8⟩
theorem atick_small {a : AN} {B : Int} (h : ASmall a B) : ASmall a.tick (B + 1) := by
  obtain ⟨h1, h2, h3, h4, h5, h6, h7, h8⟩ := h
  exact ⟨h1, h2, ⟨by simp only [AN.tick]; omega, by simp only [AN.tick]; omega⟩, ⟨h4.1, by simp only [AN.tick]; omega⟩, ⟨h5.1, by simp only [AN.tick]; omega⟩, ⟨h6.1, by simp only [AN.tick]; omega⟩, ⟨h7.1, by simp only [AN.tick]; omega⟩, h8⟩
theorem arecv_small {a : AN} {B : Int} (h : ASmall a B) (o : Nat) : ASmall (arecv a o) (B + 1) := by
  obtain ⟨h1, h2, h3, h4, h5, h6, h7, h8⟩ := h
  refine ⟨h1, h2, ⟨h3.1, by simp only [arecv, AN.setL]; omega⟩, ⟨h4.1, by simp only [arecv, AN.setL]; omega⟩, ⟨h5.1, by simp only [arecv, AN.setL]; omega⟩, ⟨h6.1, by simp only [arecv, AN.setL]; omega⟩, ⟨by simp only [arecv, AN.setL]; omega, by simp only [arecv, AN.setL]; omega⟩, fun p hp => ?_⟩
  simp only [arecv, AN.setL]
  split
  · rename_i e; subst e
    have := h8 p hp
    have hle := List.length_eraseIdx_le (a.L p) (fm (a.L p))
    omega
  · exact h8 p hp
theorem asend1_small {s : AN} {B : Int} (h : ASmall s B) (c : Int) : ASmall (asend1 s c) (B + 1) := by
  obtain ⟨h1, h2, h3, h4, h5, h6, h7, h8⟩ := h
  refine ⟨h1, h2, ⟨h3.1, ?_⟩, ⟨h4.1, ?_⟩, ⟨?_, ?_⟩, ⟨?_, ?_⟩, ⟨h7.1, ?_⟩, h8⟩ <;> simp only [asend1] <;> (try split) <;> omega
theorem asendTo_small {s : AN} {B : Int} (h : ASmall s B) (o : Nat) (bytes : ByteArray) (d : Int) : ∀ k : Nat, ASmall (asendTo s o bytes d k).1 (B + k) ∧ 0 ≤ (asendTo s o bytes d k).2 ∧ (asendTo s o bytes d k).2 ≤ k
  | 0 => ⟨by simpa [asendTo] using h, by simp [asendTo]⟩
  | k + 1 => by
    obtain ⟨⟨h1, h2, h3, h4, h5, h6, h7, h8⟩, h9, h10⟩ := asendTo_small h o bytes d k
    rw [asendTo]
    split
    · exact ⟨⟨h1, h2, ⟨h3.1, by simp only; omega⟩, ⟨h4.1, by simp only; omega⟩, ⟨h5.1, by simp only; omega⟩, ⟨by simp only; omega, by simp only; omega⟩, ⟨h7.1, by simp only; omega⟩, h8⟩, h9, by omega⟩
    · rename_i hn
      refine ⟨⟨h1, h2, ⟨h3.1, by simp only [AN.setL]; omega⟩, ⟨by simp only [AN.setL]; omega, by simp only [AN.setL]; omega⟩, ⟨h5.1, by simp only [AN.setL]; omega⟩, ⟨h6.1, by simp only [AN.setL]; omega⟩, ⟨h7.1, by simp only [AN.setL]; omega⟩, ?_⟩, by simp only; omega, by simp only; omega⟩
      intro p hp
      simp only [AN.setL]
      split
      · rename_i e; subst e; rw [List.length_append, List.length_singleton]; omega
      · exact h8 p hp
theorem asendS_small {s : AN} {B : Int} (h : ASmall s B) (o : Nat) (bytes : ByteArray) (c d : Int) : ASmall (asendS s o bytes c d).1 (B + 4) ∧ 0 ≤ (asendS s o bytes c d).2 ∧ (asendS s o bytes c d).2 ≤ 3 := by
  have := asendTo_small (asend1_small h c) o bytes d (c % 4).toNat
  unfold asendS
  exact ⟨asmall_mono this.1 (by omega), this.2.1, by omega⟩

/-! The calls. -/
def IsA (w : World) (base g : Nat) (a : AN) (F : Nat → Prop) : Prop := ∃ s, Abs s a ∧ IsN w base g s F
def DidA (w w' : World) (base g : Nat) (a : AN) (F : Nat → Prop) : Prop := ∃ F', IsA w' base g a F' ∧ (∀ k, F' k → F k ∨ w.heap.size ≤ k) ∧ Kept w w' F ∧ Below base w w'
theorem did_a {w w' : World} {base g : Nat} {s : NS} {a : AN} {F : Nat → Prop} (ha : Abs s a) (h : Did w w' base g s F) : DidA w w' base g a F := by
  obtain ⟨F', h1, h2⟩ := h
  exact ⟨F', ⟨s, ha, h1⟩, h2⟩
theorem isa_kept {w w' : World} {base g : Nat} {a : AN} {F S : Nat → Prop} (h : IsA w base g a F) (hk : Kept w w' S) (hn : ∀ k, F k → ¬ S k) : IsA w' base g a F := by
  obtain ⟨s, h1, h2⟩ := h
  exact ⟨s, h1, isn_kept h2 hk hn⟩
theorem isa_foot {w : World} {base g : Nat} {a : AN} {F : Nat → Prop} (h : IsA w base g a F) : F g ∧ ∀ k, F k → base ≤ k ∧ k < w.heap.size := by
  obtain ⟨s, h1, vs, h2⟩ := h
  exact ⟨h2.2.2.2.1, h2.2.2.2.2⟩
theorem a_new (w : World) (base : Nat) (hb : base ≤ w.heap.size) (most : Int) (h0 : 1 ≤ most) (h1 : most ≤ 64) :
    Calls Try.prog 7 #[.int .i64 most] w fun e w' => e = .returned (.pointer (some ⟨w.heap.size, 0, none⟩)) ∧ IsA w' base w.heap.size (afresh most) (fun k => k = w.heap.size) ∧ Kept w w' (fun _ => False) ∧ Below base w w' :=
  (new_calls w base hb most h0 h1).mono fun e w' h => ⟨h.1, ⟨_, abs_fresh most, h.2.1⟩, h.2.2⟩
theorem a_send (w : World) (base g : Nat) (a : AN) (F : Nat → Prop) (h : IsA w base g a F) (B : Int) (hs : ASmall a B) (hB : B ≤ 100000) (hbw : base ≤ w.heap.size) (o : Nat) (ho : o < 2) (bytes : ByteArray) (hl : bytes.size ≤ 4102) (c d : Int) (hc0 : 0 ≤ c) (hc1 : c < 256) (hd0 : 0 ≤ d) (hd1 : d < 256) :
    Calls Try.prog 10 #[.pointer (some ⟨g, 0, none⟩), .int .i64 o, .string bytes, .agg #[.int .u8 c, .int .u8 d]] w fun e w' =>
      e = .returned (.tuple #[.int .i64 (asendS a o bytes c d).2, .int .i64 0]) ∧ DidA w w' base g (asendS a o bytes c d).1 F := by
  obtain ⟨s, ha, hn⟩ := h
  have key := abs_sendTo (abs_send1 ha c) ho bytes d (c % 4).toNat
  exact (send_calls w base g s F hn B (abs_small ha hs) hB hbw o ho bytes hl c d hc0 hc1 hd0 hd1).mono fun e w' h => ⟨by rw [h.1]; unfold sendS asendS; rw [key.2], did_a key.1 h.2⟩
theorem a_recv (w : World) (base g : Nat) (a : AN) (F : Nat → Prop) (h : IsA w base g a F) (B : Int) (hs : ASmall a B) (hB : B ≤ 100000) (o : Nat) (ho : o < 2) (hr : aready a o = true) :
    Calls Try.prog 15 #[.pointer (some ⟨g, 0, none⟩), .int .i64 o] w fun e w' => e = .returned (.tuple #[.string (atop a o), .bool true]) ∧ DidA w w' base g (arecv a o) F := by
  obtain ⟨s, ha, hn⟩ := h
  have hsm := abs_small ha hs
  have key := abs_recv ha ho hr
  have hq := hsm.q o ho
  have hm := hsm.most
  exact (recv_calls w base g s F hn hsm.most0 o ho (by rw [abs_ready ha ho]; exact hr) (by omega) hsm.told.1 (by have := hsm.told.2; omega)).mono fun e w' h => ⟨by rw [h.1, key.1], did_a key.2 h.2⟩
theorem a_recv_not (w : World) (base g : Nat) (a : AN) (F : Nat → Prop) (h : IsA w base g a F) (hm : 0 < a.most) (o : Nat) (ho : o < 2) (hr : aready a o = false) :
    Calls Try.prog 15 #[.pointer (some ⟨g, 0, none⟩), .int .i64 o] w fun e w' => e = .returned (.tuple #[.string .empty, .bool false]) ∧ ∃ m, w' = w.drewN m := by
  obtain ⟨s, ha, hn⟩ := h
  exact recv_not w base g s F hn (by rw [ha.most]; exact hm) o ho (by rw [abs_ready ha ho]; exact hr)
theorem a_tick (w : World) (base g : Nat) (a : AN) (F : Nat → Prop) (h : IsA w base g a F) (B : Int) (hs : ASmall a B) (hB : B ≤ 100000) :
    Calls Try.prog 12 #[.pointer (some ⟨g, 0, none⟩)] w fun e w' => e = .returned (.tuple #[]) ∧ DidA w w' base g a.tick F := by
  obtain ⟨s, ha, hn⟩ := h
  have hsm := abs_small ha hs
  exact (tick_calls w base g s F hn hsm.most0 hsm.now.1 (by have := hsm.now.2; omega)).mono fun e w' h => ⟨h.1, did_a (s := { s with now := s.now + 1 }) ⟨ha.most, by show s.now + 1 = a.now + 1; rw [ha.now], ha.put, ha.sent, ha.lost, ha.told, ha.q⟩ h.2⟩
theorem a_now (w : World) (base g : Nat) (a : AN) (F : Nat → Prop) (h : IsA w base g a F) (hm : 0 < a.most) :
    Calls Try.prog 14 #[.pointer (some ⟨g, 0, none⟩)] w fun e w' => e = .returned (.int .u64 a.now) ∧ w = w' := by
  obtain ⟨s, ha, hn⟩ := h
  rw [← ha.now]
  exact now_calls w base g s F hn (by rw [ha.most]; exact hm)
theorem a_sent (w : World) (base g : Nat) (a : AN) (F : Nat → Prop) (h : IsA w base g a F) (hm : 0 < a.most) :
    Calls Try.prog 21 #[.pointer (some ⟨g, 0, none⟩)] w fun e w' => e = .returned (.int .i64 a.sent) ∧ w = w' := by
  obtain ⟨s, ha, hn⟩ := h
  rw [← ha.sent]
  exact sent_calls w base g s F hn (by rw [ha.most]; exact hm)
theorem a_lost (w : World) (base g : Nat) (a : AN) (F : Nat → Prop) (h : IsA w base g a F) (hm : 0 < a.most) :
    Calls Try.prog 22 #[.pointer (some ⟨g, 0, none⟩)] w fun e w' => e = .returned (.int .i64 a.lost) ∧ w = w' := by
  obtain ⟨s, ha, hn⟩ := h
  rw [← ha.lost]
  exact lost_calls w base g s F hn (by rw [ha.most]; exact hm)
theorem a_told (w : World) (base g : Nat) (a : AN) (F : Nat → Prop) (h : IsA w base g a F) (hm : 0 < a.most) :
    Calls Try.prog 23 #[.pointer (some ⟨g, 0, none⟩)] w fun e w' => e = .returned (.int .i64 a.told) ∧ w = w' := by
  obtain ⟨s, ha, hn⟩ := h
  rw [← ha.told]
  exact told_calls w base g s F hn (by rw [ha.most]; exact hm)
theorem a_waiting (w : World) (base g : Nat) (a : AN) (F : Nat → Prop) (h : IsA w base g a F) (hm : 0 < a.most) (way : Int) :
    Calls Try.prog 13 #[.pointer (some ⟨g, 0, none⟩), .int .i64 way] w fun e w' => e = .returned (.int .i64 (awaits a way)) ∧ w = w' := by
  obtain ⟨s, ha, hn⟩ := h
  rw [← abs_waits ha]
  exact waiting_calls w base g s F hn (by rw [ha.most]; exact hm) way
end Go.Proofs.Ytjdehmclcdiijaa.Hp
