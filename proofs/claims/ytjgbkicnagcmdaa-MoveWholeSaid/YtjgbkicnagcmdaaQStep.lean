/- Queues: 'Do' is a step of the model. -/
import Derived.Test.YtjgbkicnagcmdaaQNo
import Derived.Test.YtjgbkicnagcmdaaQDo
import Derived.Test.YtjgbkicnagcmdaaQM
namespace Go.Proofs.Ytjgbkicnagcmdaa
open Go.RowKit

/-- the value v is the queue q; its slices lie at lo or above, below B -/
def QIs (w : World) (lo B : Nat) (q : QM) (v : Value) : Prop :=
  ∃ A1 c1 A2 c2, v = .agg (qCells q.ep q.nx q.gv (.slice A1 q.rd.length c1) (.slice A2 q.ls.length c2) q.t (fun i => shows (q.t i) (q.S i))) ∧ q.rd.length ≤ c1 ∧ q.ls.length ≤ c2 ∧
    Reads w B 2 A1 q.rd.length (msgCells q.rd) ∧ Reads w B 4 A2 q.ls.length (lsCells q.ep q.ls) ∧ Fresh lo A1 ∧ Fresh lo A2
def StepPost (w : World) (q : QM) (a : QA) (chg : Bool) (e : Ending) (w' : World) : Prop :=
  ∃ v', e = .returned (.tuple #[v', a.val, .bool chg, .int .i64 0]) ∧ QIs w' w.heap.size w'.heap.size q v' ∧ Below w.heap.size w w'

theorem DoPost.step {w w' : World} {q : QM} {a : QA} {chg : Bool} {e : Ending} (h : DoPost w a.val chg q.ep q.nx q.gv q.rd q.ls q.t (fun i => shows (q.t i) (q.S i)) e w') : StepPost w q a chg e w' := by
  obtain ⟨A1, c1, A2, c2, he, h1, h2, h3, h4, h5, h6, h7⟩ := h
  exact ⟨_, he, ⟨A1, c1, A2, c2, rfl, h1, h2, h3, h4, h5, h6⟩, h7⟩

theorem shows_setF (t : Nat → Int) (S : Nat → Int → Bool) (p : Nat) (T : Int) (S' : Int → Bool) :
    setF (fun i => shows (t i) (S i)) p (shows T S') = fun i => shows (setF t p T i) (setF S p S' i) := by
  funext i
  unfold setF
  split <;> rfl
theorem eraseP_cut (no : Int) : ∀ (l : List (Int × Int × Int)), l.any (isNo no) = true → ∃ k, k < l.length ∧ (l.getD k (0, 0, 0)).1 = no ∧ (∀ t, t < k → (l.getD t (0, 0, 0)).1 ≠ no) ∧ l.take k ++ l.drop (k + 1) = l.eraseP (isNo no)
  | [], h => by simp at h
  | x :: l, h => by
    by_cases hx : x.1 = no
    · exact ⟨0, by simp, by simpa using hx, fun t ht => by omega, by simp [isNo, hx]⟩
    · have hf : isNo no x = false := by simp [isNo, hx]
      rw [List.any_cons, hf, Bool.false_or] at h
      obtain ⟨k, h1, h2, h3, h4⟩ := eraseP_cut no l h
      refine ⟨k + 1, by simp; omega, by simpa using h2, fun t ht => ?_, ?_⟩
      · cases t with
        | zero => simpa using hx
        | succ t => simpa using h3 t (by omega)
      · rw [List.eraseP_cons_of_neg (by simp [hf]), ← h4]
        simp
theorem any_none (no : Int) (l : List (Int × Int × Int)) (h : l.any (isNo no) = false) (t : Nat) (ht : t < l.length) : (l.getD t (0, 0, 0)).1 ≠ no := by
  have e : l.getD t (0, 0, 0) = l[t] := by simp [List.getD, List.getElem?_eq_getElem ht]
  rw [e]
  have := List.any_eq_false.1 h _ (List.getElem_mem ht)
  simpa [isNo] using this
theorem prod_nat {e : Ev} (h0 : 0 ≤ e.prod) (h1 : e.prod ≤ 3) : ∃ p : Nat, p < 4 ∧ e.prod = (p : Int) ∧ e.prod.toNat = p := ⟨e.prod.toNat, by omega, by omega, rfl⟩
def EndOk (q : QM) : Prop :=
  ∀ g W v1 v2 ev, Blk W g 88 (qCells q.ep q.nx q.gv v1 v2 q.t (fun i => shows (q.t i) (q.S i))) → W.ownsRow (g + 1) 91 2 v1 q.rd.length (msgCells q.rd) → W.ownsRow (g + 1) 94 4 v2 q.ls.length (lsCells q.ep q.ls) →
    Calls Try.prog 44 #[.pointer (some ⟨g, 0, none⟩), .agg ev] W (ActPost g W (ansV 0 0 0 0) true q.endAll.ep q.endAll.nx q.endAll.gv q.endAll.rd q.endAll.ls q.endAll.t (fun i => shows (q.endAll.t i) (q.endAll.S i)))

set_option maxRecDepth 100000 in
set_option maxHeartbeats 4000000 in
theorem do_step (q : QM) (e : Ev) (v : Value) (lo B : Nat) (w : World) (hi : q.Inv) (hr : q.Room 1) (he : e.check = 0) (hv : QIs w lo B q v) (hB : B ≤ w.heap.size) (hend : e.kind = 4 → EndOk q) :
    Calls Try.prog 20 #[v, e.val] w (StepPost w (q.step e).1 (q.step e).2.1 (q.step e).2.2) := by
  obtain ⟨A1, c1, A2, c2, rfl, hc1, hc2, r1, r2, _, _⟩ := hv
  have hok := hi.ok (hr.less (Nat.zero_le 1))
  have hE := he
  obtain ⟨k, pr, id, body, hep, hno⟩ := e
  obtain ⟨s1, s2, s3, s4⟩ := hr
  have hn0 := hi.n0
  have hg0 := hi.g0
  rcases check_kinds he with hk | hk | hk | hk
  · obtain ⟨b1, b2, b3, b4, b5, b6, b7, b8⟩ := check_pub he hk
    obtain ⟨p, hp, hpp, hpn⟩ := prod_nat b1 b2
    simp only at hk hpp b3 b4 b5 b6 b7 b8
    subst hk hpp b7 b8
    have hstep : q.step ⟨1, p, id, body, 0, 0⟩ = if id < q.t p - 8 then (q, ⟨9, 0, 0, 0⟩, false) else if q.S p id then (q, ⟨0, 0, 0, 0⟩, false) else (q.pub p id body, ⟨0, 0, 0, 0⟩, true) := by
      simp [QM.step]
    rw [hstep]
    have hW := hi.win p hp
    by_cases hlow : id < q.t p - 8
    · rw [if_pos hlow]
      refine (do_ok q.ep q.nx q.gv q.rd q.ls q.t q.S A1 A2 _ _ c1 c2 B w hok rfl rfl r1 r2 hB hc1 hc2 1 p id body 0 0 hE _ (.inl ⟨rfl, rfl⟩) 9 0 0 0 q.ep q.nx q.gv false q.rd q.ls q.t (fun i => shows (q.t i) (q.S i)) fun g W v1 v2 hg o1 o2 => ?_).mono fun _ _ h => DoPost.step (a := ⟨9, 0, 0, 0⟩) h
      exact publish_not q.ep q.nx q.gv q.rd q.ls q.t _ g _ _ p v1 v2 id body 0 9 (fun _ => false) W hg rfl rfl hp o1 o2 (fun W => wtake_low (q.t p) (q.S p) id W hW b3 b4 hlow) (.inr rfl)
    · rw [if_neg hlow]
      by_cases hs : q.S p id = true
      · rw [if_pos hs]
        refine (do_ok q.ep q.nx q.gv q.rd q.ls q.t q.S A1 A2 _ _ c1 c2 B w hok rfl rfl r1 r2 hB hc1 hc2 1 p id body 0 0 hE _ (.inl ⟨rfl, rfl⟩) 0 0 0 0 q.ep q.nx q.gv false q.rd q.ls q.t (fun i => shows (q.t i) (q.S i)) fun g W v1 v2 hg o1 o2 => ?_).mono fun _ _ h => DoPost.step (a := ⟨0, 0, 0, 0⟩) h
        exact publish_not q.ep q.nx q.gv q.rd q.ls q.t _ g _ _ p v1 v2 id body (q.t p) 0 (shows (q.t p) (q.S p)) W hg rfl rfl hp o1 o2 (fun W => wtake_seen (q.t p) (q.S p) id W hW b3 b4 (by omega) hs) (.inl rfl)
      · rw [if_neg hs]
        refine (do_ok q.ep q.nx q.gv q.rd q.ls q.t q.S A1 A2 _ _ c1 c2 B w hok rfl rfl r1 r2 hB hc1 hc2 1 p id body 0 0 hE _ (.inl ⟨rfl, rfl⟩) 0 0 0 0 q.ep (q.nx + 1) q.gv true (q.rd ++ [(q.nx, body)]) q.ls (setF q.t p (max (q.t p) (id + 1))) (fun i => shows (setF q.t p (max (q.t p) (id + 1)) i) (setF q.S p (fun x => q.S p x || x == id) i)) fun g W v1 v2 hg o1 o2 => ?_).mono fun _ _ h => DoPost.step (q := q.pub p id body) (a := ⟨0, 0, 0, 0⟩) h
        rw [← shows_setF]
        exact publish_ok q.ep q.nx q.gv q.rd q.ls q.t _ (q.S p) g _ _ p v1 v2 id body _ W hg rfl rfl hp o1 o2 (by omega) hn0 (by omega) rfl hW b3 b4 (by omega) (by simpa using hs) rfl
  · obtain ⟨b1, b2, b3, b4, b5⟩ := check_rest he (.inl hk)
    simp only at hk b1 b2 b3 b4 b5
    subst hk b1 b2 b3 b4 b5
    have hstep : q.step ⟨2, 0, 0, 0, 0, 0⟩ = q.recv := by simp [QM.step]
    rw [hstep]
    obtain hrd | ⟨m, rd, hrd⟩ : q.rd = [] ∨ ∃ m rd, q.rd = m :: rd := by cases q.rd <;> simp
    · have hrc : q.recv = (q, ⟨10, 0, 0, 0⟩, false) := by simp [QM.recv, hrd]
      rw [hrc]
      refine (do_ok q.ep q.nx q.gv q.rd q.ls q.t q.S A1 A2 _ _ c1 c2 B w hok rfl rfl r1 r2 hB hc1 hc2 2 0 0 0 0 0 hE _ (.inr (.inl ⟨rfl, rfl⟩)) 10 0 0 0 q.ep q.nx q.gv false q.rd q.ls q.t (fun i => shows (q.t i) (q.S i)) fun g W v1 v2 hg o1 o2 => ?_).mono fun _ _ h => DoPost.step (a := ⟨10, 0, 0, 0⟩) h
      rw [hrd] at o1
      have e := receive_not q.ep q.nx q.gv q.ls q.t (fun i => shows (q.t i) (q.S i)) g _ v1 v2 #[.int .i64 2, .int .i64 0, .int .i64 0, .int .i64 0, .int .i64 0, .int .i64 0] W hg rfl o1 o2
      rw [← hrd] at e
      exact e
    · have hrc : q.recv = (⟨q.ep, q.nx, q.gv + 1, rd, q.ls ++ [(q.gv, m.1, m.2)], q.t, q.S⟩, ⟨0, q.ep, q.gv, m.2⟩, true) := by simp [QM.recv, hrd]
      rw [hrc]
      refine (do_ok q.ep q.nx q.gv q.rd q.ls q.t q.S A1 A2 _ _ c1 c2 B w hok rfl rfl r1 r2 hB hc1 hc2 2 0 0 0 0 0 hE _ (.inr (.inl ⟨rfl, rfl⟩)) 0 q.ep q.gv m.2 q.ep q.nx (q.gv + 1) true rd (q.ls ++ [(q.gv, m.1, m.2)]) q.t (fun i => shows (q.t i) (q.S i)) fun g W v1 v2 hg o1 o2 => ?_).mono fun _ _ h => DoPost.step (q := ⟨q.ep, q.nx, q.gv + 1, rd, q.ls ++ [(q.gv, m.1, m.2)], q.t, q.S⟩) (a := ⟨0, q.ep, q.gv, m.2⟩) h
      have hlen : q.rd.length = (m :: rd).length := by rw [hrd]
      rw [hrd] at o1
      exact receive_ok q.ep q.nx q.gv m rd q.ls q.t _ g _ _ v1 v2 _ W hg rfl rfl o1 o2 (by omega) hg0 (by omega)
  · obtain ⟨b1, b2, b3, b4, b5, b6, b7⟩ := check_ack he hk
    simp only at hk b1 b2 b3 b4 b5 b6 b7
    subst hk b5 b6 b7
    have hstep : q.step ⟨3, 0, 0, 0, hep, hno⟩ = if hep = q.ep then (if q.ls.any (isNo hno) then (q.ack hno, ⟨0, 0, 0, 0⟩, true) else (q, ⟨7, 0, 0, 0⟩, false)) else (q, ⟨11, 0, 0, 0⟩, false) := by
      simp [QM.step]
    rw [hstep]
    by_cases hep' : hep = q.ep
    · rw [if_pos hep']
      subst hep'
      by_cases ha : q.ls.any (isNo hno) = true
      · rw [if_pos ha]
        obtain ⟨k, hk1, hk2, hk3, hk4⟩ := eraseP_cut hno q.ls ha
        refine (do_ok q.ep q.nx q.gv q.rd q.ls q.t q.S A1 A2 _ _ c1 c2 B w hok rfl rfl r1 r2 hB hc1 hc2 3 0 0 0 q.ep hno hE _ (.inr (.inr (.inl ⟨rfl, rfl⟩))) 0 0 0 0 q.ep q.nx q.gv true q.rd (q.ls.eraseP (isNo hno)) q.t (fun i => shows (q.t i) (q.S i)) fun g W v1 v2 hg o1 o2 => ?_).mono fun _ _ h => DoPost.step (q := q.ack hno) (a := ⟨0, 0, 0, 0⟩) h
        rw [← hk4]
        exact ack_ok q.ep q.nx q.gv q.rd q.ls q.t _ g _ _ k v1 v2 3 0 0 0 hno W hg rfl rfl o1 o2 (by omega) hk1 hk2 hk3
      · rw [if_neg ha]
        refine (do_ok q.ep q.nx q.gv q.rd q.ls q.t q.S A1 A2 _ _ c1 c2 B w hok rfl rfl r1 r2 hB hc1 hc2 3 0 0 0 q.ep hno hE _ (.inr (.inr (.inl ⟨rfl, rfl⟩))) 7 0 0 0 q.ep q.nx q.gv false q.rd q.ls q.t (fun i => shows (q.t i) (q.S i)) fun g W v1 v2 hg o1 o2 => ?_).mono fun _ _ h => DoPost.step (a := ⟨7, 0, 0, 0⟩) h
        exact ack_none q.ep q.nx q.gv q.rd q.ls q.t _ g _ _ v1 v2 3 0 0 0 hno W hg rfl rfl o1 o2 (by omega) fun t ht => any_none hno q.ls (by simpa using ha) t ht
    · rw [if_neg hep']
      refine (do_ok q.ep q.nx q.gv q.rd q.ls q.t q.S A1 A2 _ _ c1 c2 B w hok rfl rfl r1 r2 hB hc1 hc2 3 0 0 0 hep hno hE _ (.inr (.inr (.inl ⟨rfl, rfl⟩))) 11 0 0 0 q.ep q.nx q.gv false q.rd q.ls q.t (fun i => shows (q.t i) (q.S i)) fun g W v1 v2 hg o1 o2 => ?_).mono fun _ _ h => DoPost.step (a := ⟨11, 0, 0, 0⟩) h
      exact ack_stale q.ep q.nx q.gv q.rd q.ls q.t _ g _ _ v1 v2 3 0 0 0 hep hno W hg rfl rfl o1 o2 hep'
  · obtain ⟨b1, b2, b3, b4, b5⟩ := check_rest he (.inr hk)
    simp only at hk b1 b2 b3 b4 b5
    subst hk b1 b2 b3 b4 b5
    have hstep : q.step ⟨4, 0, 0, 0, 0, 0⟩ = (q.endAll, ⟨0, 0, 0, 0⟩, true) := by simp [QM.step]
    rw [hstep]
    refine (do_ok q.ep q.nx q.gv q.rd q.ls q.t q.S A1 A2 _ _ c1 c2 B w hok rfl rfl r1 r2 hB hc1 hc2 4 0 0 0 0 0 hE _ (.inr (.inr (.inr ⟨rfl, rfl⟩))) 0 0 0 0 q.endAll.ep q.endAll.nx q.endAll.gv true q.endAll.rd q.endAll.ls q.endAll.t (fun i => shows (q.endAll.t i) (q.endAll.S i)) fun g W v1 v2 hg o1 o2 => ?_).mono fun _ _ h => DoPost.step (q := q.endAll) (a := ⟨0, 0, 0, 0⟩) h
    exact hend rfl g W v1 v2 _ hg o1 o2

end Go.Proofs.Ytjgbkicnagcmdaa
