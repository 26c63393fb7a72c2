/- Queues: the plain model of a queue, its steps, and what always holds of it. -/
import Derived.Test.YtjgbkicnagcmdaaQ
import Derived.Test.YtjgbkicnagcmdaaChk
import Derived.Test.YtjgbkicnagcmdaaQPub
namespace Go.Proofs.Ytjgbkicnagcmdaa
open Go.RowKit

structure QM where
  ep : Int
  nx : Int
  gv : Int
  rd : List (Int × Int)
  ls : List (Int × Int × Int)
  t : Nat → Int
  S : Nat → Int → Bool
structure QA where
  code : Int
  ep : Int
  no : Int
  body : Int
def QM.zero : QM := ⟨0, 0, 0, [], [], fun _ => 0, fun _ _ => false⟩
def QA.val (a : QA) : Value := ansV a.code a.ep a.no a.body
def byNo (x y : Int × Int) : Bool := decide (x.1 ≤ y.1)
def QM.endAll (q : QM) : QM := ⟨q.ep + 1, q.nx, 0, (q.rd ++ q.ls.map Prod.snd).mergeSort byNo, [], q.t, q.S⟩
def QM.pub (q : QM) (p : Nat) (id body : Int) : QM :=
  ⟨q.ep, q.nx + 1, q.gv, q.rd ++ [(q.nx, body)], q.ls, setF q.t p (max (q.t p) (id + 1)), setF q.S p (fun x => q.S p x || x == id)⟩
def QM.recv (q : QM) : QM × QA × Bool :=
  match q.rd with
  | [] => (q, ⟨10, 0, 0, 0⟩, false)
  | m :: rd => (⟨q.ep, q.nx, q.gv + 1, rd, q.ls ++ [(q.gv, m.1, m.2)], q.t, q.S⟩, ⟨0, q.ep, q.gv, m.2⟩, true)
def isNo (no : Int) (l : Int × Int × Int) : Bool := l.1 == no
def QM.ack (q : QM) (no : Int) : QM := ⟨q.ep, q.nx, q.gv, q.rd, q.ls.eraseP (isNo no), q.t, q.S⟩
/-- an event, done -/
def QM.step (q : QM) (e : Ev) : QM × QA × Bool :=
  if e.kind = 1 then
    if e.id < q.t e.prod.toNat - 8 then (q, ⟨9, 0, 0, 0⟩, false)
    else if q.S e.prod.toNat e.id then (q, ⟨0, 0, 0, 0⟩, false)
    else (q.pub e.prod.toNat e.id e.body, ⟨0, 0, 0, 0⟩, true)
  else if e.kind = 2 then q.recv
  else if e.kind = 3 then
    if e.hep = q.ep then
      if q.ls.any (isNo e.hno) then (q.ack e.hno, ⟨0, 0, 0, 0⟩, true) else (q, ⟨7, 0, 0, 0⟩, false)
    else (q, ⟨11, 0, 0, 0⟩, false)
  else (q.endAll, ⟨0, 0, 0, 0⟩, true)

structure QM.Inv (q : QM) : Prop where
  e0 : 0 ≤ q.ep
  n0 : 0 ≤ q.nx
  g0 : 0 ≤ q.gv
  win : ∀ i, i < 4 → WOk (q.t i) (q.S i)
  rd : ∀ m ∈ q.rd, 0 ≤ m.1 ∧ m.1 < q.nx ∧ 0 ≤ m.2 ∧ m.2 ≤ 1000000
  rds : q.rd.Pairwise (fun a b => a.1 < b.1)
  ls : ∀ l ∈ q.ls, 0 ≤ l.1 ∧ l.1 < q.gv ∧ 0 ≤ l.2.1 ∧ l.2.1 < q.nx ∧ 0 ≤ l.2.2 ∧ l.2.2 ≤ 1000000
  lss : q.ls.Pairwise (fun a b => a.1 < b.1)
  apart : (q.rd.map Prod.fst ++ q.ls.map fun l => l.2.1).Nodup
/-- so many events more there is room for -/
def QM.Room (q : QM) (n : Nat) : Prop := q.rd.length + q.ls.length + n ≤ 500 ∧ q.nx + n ≤ 1073741824 ∧ q.gv + n ≤ 1073741824 ∧ q.ep + n ≤ 1048576

theorem wOk_zero : WOk 0 (fun _ => false) := ⟨by omega, by omega, fun x h => by simp at h, fun h => by omega⟩
theorem QM.zero_inv : QM.zero.Inv := ⟨by simp [zero], by simp [zero], by simp [zero], fun _ _ => wOk_zero, by simp [zero], by simp [zero], by simp [zero], by simp [zero], by simp [zero]⟩

theorem prevN_of {α : Type} (no : α → Int) (d : α) (l : List α) (h0 : ∀ m ∈ l, 0 ≤ no m) (hp : l.Pairwise fun a b => no a < no b) (i : Nat) (hi : i < l.length) : prevN no l d i < no (l.getD i d) := by
  unfold prevN
  have e : ∀ j, (hj : j < l.length) → l.getD j d = l[j] := fun j hj => by simp [List.getD, List.getElem?_eq_getElem hj]
  split
  · rw [e i hi]
    have := h0 _ (List.getElem_mem hi)
    omega
  · rw [e i hi, e (i - 1) (by omega)]
    exact List.pairwise_iff_getElem.1 hp (i - 1) i (by omega) hi (by omega)
theorem QM.Inv.ok {q : QM} (h : q.Inv) (r : q.Room 0) : QOk q.ep q.nx q.gv q.rd q.ls q.t q.S := by
  obtain ⟨r1, r2, r3, r4⟩ := r
  refine ⟨h.e0, by simpa using r4, h.n0, by simpa using r2, h.g0, by simpa using r3, by simpa using r1, h.win, fun i hi => ?_, fun i hi => ?_, h.apart⟩
  · have e : q.rd.getD i (0, 0) = q.rd[i] := by simp [List.getD, List.getElem?_eq_getElem hi]
    refine ⟨prevN_of Prod.fst (0, 0) q.rd (fun m hm => (h.rd m hm).1) h.rds i hi, ?_⟩
    rw [e]
    exact h.rd _ (List.getElem_mem hi)
  · have e : q.ls.getD i (0, 0, 0) = q.ls[i] := by simp [List.getD, List.getElem?_eq_getElem hi]
    refine ⟨prevN_of Prod.fst (0, 0, 0) q.ls (fun m hm => (h.ls m hm).1) h.lss i hi, ?_⟩
    rw [e]
    exact (h.ls _ (List.getElem_mem hi)).2
theorem QM.Room.less {q : QM} {n m : Nat} (h : q.Room n) (hm : m ≤ n) : q.Room m := by
  obtain ⟨r1, r2, r3, r4⟩ := h
  exact ⟨by omega, by omega, by omega, by omega⟩

theorem QM.Inv.pub {q : QM} (h : q.Inv) (p : Nat) (id body : Int) (h1 : 0 ≤ id) (h2 : id ≤ 1073741824) (hb0 : 0 ≤ body) (hb1 : body ≤ 1000000) : (q.pub p id body).Inv := by
  have hn0 := h.n0
  refine ⟨h.e0, by simp [QM.pub]; omega, h.g0, fun i hi => ?_, ?_, ?_, ?_, h.lss, ?_⟩
  · simp only [QM.pub, setF]
    split
    · next e => subst e; exact (h.win _ hi).take h1 h2
    · exact h.win _ hi
  · simp only [QM.pub]
    intro m hm
    rcases List.mem_append.1 hm with hm | hm
    · have := h.rd m hm
      refine ⟨this.1, by omega, this.2.2⟩
    · simp at hm
      subst hm
      exact ⟨hn0, by simp; omega, hb0, hb1⟩
  · simp only [QM.pub]
    refine List.pairwise_append.2 ⟨h.rds, by simp, fun a ha b hb => ?_⟩
    simp at hb
    subst hb
    exact (h.rd a ha).2.1
  · simp only [QM.pub]
    intro l hl
    have := h.ls l hl
    exact ⟨this.1, this.2.1, this.2.2.1, by omega, this.2.2.2.2⟩
  · simp only [QM.pub, List.map_append, List.map_cons, List.map_nil]
    rw [List.append_assoc]
    have hp : (q.rd.map Prod.fst ++ ([q.nx] ++ q.ls.map fun l => l.2.1)).Perm ([q.nx] ++ (q.rd.map Prod.fst ++ q.ls.map fun l => l.2.1)) := by
      rw [← List.append_assoc, ← List.append_assoc]
      exact List.Perm.append_right _ List.perm_append_comm
    rw [hp.nodup_iff]
    show (q.nx :: (q.rd.map Prod.fst ++ q.ls.map fun l => l.2.1)).Nodup
    refine List.nodup_cons.2 ⟨fun hm => ?_, h.apart⟩
    rcases List.mem_append.1 hm with hm | hm
    · obtain ⟨m, hm, e⟩ := List.mem_map.1 hm
      have := h.rd m hm
      omega
    · obtain ⟨m, hm, e⟩ := List.mem_map.1 hm
      have := h.ls m hm
      omega
theorem QM.Inv.recv {q : QM} (h : q.Inv) : q.recv.1.Inv := by
  unfold QM.recv
  split
  · exact h
  · next m rd e =>
    have hg := h.g0
    refine ⟨h.e0, h.n0, by simp; omega, h.win, fun x hx => h.rd x (by rw [e]; exact List.mem_cons_of_mem _ hx), ?_, ?_, ?_, ?_⟩
    · have := h.rds
      rw [e] at this
      exact (List.pairwise_cons.1 this).2
    · intro l hl
      rcases List.mem_append.1 hl with hl | hl
      · have := h.ls l hl
        exact ⟨this.1, by simp; omega, this.2.2⟩
      · simp at hl
        subst hl
        have := h.rd m (by rw [e]; simp)
        exact ⟨hg, by simp; omega, this⟩
    · refine List.pairwise_append.2 ⟨h.lss, by simp, fun a ha b hb => ?_⟩
      simp at hb
      subst hb
      exact (h.ls a ha).2.1
    · have := h.apart
      rw [e] at this
      simp only [List.map_append, List.map_cons, List.map_nil, List.cons_append] at this ⊢
      rw [← List.append_assoc]
      have hp : (rd.map Prod.fst ++ (q.ls.map fun l => l.2.1) ++ [m.1]).Perm (m.1 :: (rd.map Prod.fst ++ q.ls.map fun l => l.2.1)) := List.perm_append_comm
      rw [hp.nodup_iff]
      exact this
theorem QM.Inv.ack {q : QM} (h : q.Inv) (no : Int) : (q.ack no).Inv := by
  have hs : (q.ls.eraseP (isNo no)).Sublist q.ls := List.eraseP_sublist
  refine ⟨h.e0, h.n0, h.g0, h.win, h.rd, h.rds, fun l hl => h.ls l (hs.mem hl), h.lss.sublist hs, ?_⟩
  exact h.apart.sublist (List.Sublist.append (List.Sublist.refl _) (hs.map _))
theorem sort_pairwise (l : List (Int × Int)) (h : (l.map Prod.fst).Nodup) : (l.mergeSort byNo).Pairwise (fun a b => a.1 < b.1) := by
  have hs : (l.mergeSort byNo).Pairwise (fun a b => byNo a b = true) := List.pairwise_mergeSort (fun a b c h1 h2 => by simp [byNo] at *; omega) (fun a b => by simp [byNo]; omega) l
  have hn : ((l.mergeSort byNo).map Prod.fst).Nodup := ((List.mergeSort_perm l byNo).map _).nodup_iff.2 h
  have hn2 : (l.mergeSort byNo).Pairwise (fun a b => a.1 ≠ b.1) := List.pairwise_map.1 hn
  refine (hs.and hn2).imp fun {a b} hab => ?_
  have := hab.1
  have := hab.2
  simp [byNo] at *
  omega
theorem QM.Inv.endAll {q : QM} (h : q.Inv) : q.endAll.Inv := by
  have he := h.e0
  have hp := List.mergeSort_perm (q.rd ++ q.ls.map Prod.snd) byNo
  have hm : ((q.rd ++ q.ls.map Prod.snd).map Prod.fst).Nodup := by
    have := h.apart
    simpa [List.map_append, List.map_map, Function.comp_def] using this
  refine ⟨by simp [QM.endAll]; omega, h.n0, by simp [QM.endAll], h.win, fun m hm => ?_, sort_pairwise _ hm, by simp [QM.endAll], by simp [QM.endAll], ?_⟩
  · rcases List.mem_append.1 (hp.mem_iff.1 hm) with hm | hm
    · exact h.rd m hm
    · obtain ⟨l, hl, rfl⟩ := List.mem_map.1 hm
      exact (h.ls l hl).2.2
  · simp only [QM.endAll, List.map_nil, List.append_nil]
    exact (hp.map _).nodup_iff.2 hm
theorem check_kinds {e : Ev} (h : e.check = 0) : e.kind = 1 ∨ e.kind = 2 ∨ e.kind = 3 ∨ e.kind = 4 := by
  by_cases h1 : e.kind = 1
  · exact .inl h1
  · by_cases h3 : e.kind = 3
    · exact .inr (.inr (.inl h3))
    · by_cases h2 : e.kind = 2 ∨ e.kind = 4
      · rcases h2 with h2 | h2 <;> simp [h2]
      · unfold Ev.check at h
        rw [if_neg h1, if_neg h3, if_neg h2] at h
        cases h
theorem check_pub {e : Ev} (h : e.check = 0) (hk : e.kind = 1) : 0 ≤ e.prod ∧ e.prod ≤ 3 ∧ 0 ≤ e.id ∧ e.id ≤ 1073741824 ∧ 0 ≤ e.body ∧ e.body ≤ 1000000 ∧ e.hep = 0 ∧ e.hno = 0 := by
  unfold Ev.check at h
  rw [if_pos hk] at h
  split at h
  · next ho =>
    split at h
    · next hh =>
      simp [Ev.ok1, inB] at ho
      omega
    · cases h
  · cases h
theorem check_ack {e : Ev} (h : e.check = 0) (hk : e.kind = 3) : 0 ≤ e.hep ∧ e.hep ≤ 1048576 ∧ 0 ≤ e.hno ∧ e.hno ≤ 1073741824 ∧ e.prod = 0 ∧ e.id = 0 ∧ e.body = 0 := by
  unfold Ev.check at h
  rw [if_neg (by omega), if_pos hk] at h
  split at h
  · next ho =>
    split at h
    · next hh =>
      simp [Ev.ok3, inB] at ho
      omega
    · cases h
  · cases h
theorem check_rest {e : Ev} (h : e.check = 0) (hk : e.kind = 2 ∨ e.kind = 4) : e.prod = 0 ∧ e.id = 0 ∧ e.body = 0 ∧ e.hep = 0 ∧ e.hno = 0 := by
  unfold Ev.check at h
  rw [if_neg (by omega), if_neg (by omega), if_pos hk] at h
  split at h
  · assumption
  · cases h
theorem QM.Inv.step {q : QM} (h : q.Inv) {e : Ev} (he : e.check = 0) : (q.step e).1.Inv := by
  unfold QM.step
  split
  · next hk =>
    obtain ⟨b1, b2, b3, b4, b5, b6, _⟩ := check_pub he hk
    split
    · exact h
    · split
      · exact h
      · exact h.pub _ _ _ b3 b4 b5 b6
  · split
    · exact h.recv
    · split
      · split
        · split
          · exact h.ack _
          · exact h
        · exact h
      · exact h.endAll
theorem QM.Room.step {q : QM} {n : Nat} (h : q.Room (n + 1)) (e : Ev) : (q.step e).1.Room n := by
  have h0 := h.less (Nat.le_succ n)
  have r4 : 0 ≤ (n : Int) + 1 := by omega
  obtain ⟨r1, r2, r3, r4⟩ := h
  simp only [Int.natCast_add, Int.natCast_one] at r2 r3 r4
  unfold QM.step
  split
  · split
    · exact h0
    · split
      · exact h0
      · refine ⟨by simp [QM.pub]; omega, by simp only [QM.pub]; omega, by simp only [QM.pub]; omega, by simp only [QM.pub]; omega⟩
  · split
    · unfold QM.recv
      split
      · exact h0
      · next m rd e =>
        rw [e] at r1
        simp only [List.length_cons] at r1
        exact ⟨by simp; omega, by simp only; omega, by simp only; omega, by simp only; omega⟩
    · split
      · split
        · split
          · have hs : (q.ls.eraseP (isNo (Ev.hno ‹Ev›))).length ≤ q.ls.length := List.eraseP_sublist.length_le
            exact ⟨by simp only [QM.ack]; omega, by simp only [QM.ack]; omega, by simp only [QM.ack]; omega, by simp only [QM.ack]; omega⟩
          · exact h0
        · exact h0
      · have hl : ((q.rd ++ q.ls.map Prod.snd).mergeSort byNo).length = q.rd.length + q.ls.length := by simp
        exact ⟨by simp only [QM.endAll, hl, List.length_nil]; omega, by simp only [QM.endAll]; omega, by simp only [QM.endAll]; omega, by simp only [QM.endAll]; omega⟩

end Go.Proofs.Ytjgbkicnagcmdaa
