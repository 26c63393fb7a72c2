/- Histories: plain facts; parts of a slice of events. -/
import Derived.Test.YtjgbkicnagcmdaaHTell
namespace Go.Proofs.Ytjgbkicnagcmdaa
open Go.RowKit

theorem tells_take : ∀ (es : List Ev) (q : QM) (la : List QA) (r : QM × List QA) (k : Nat), tells es q la = some r → ∃ r', tells (es.take k) q la = some r'
  | _, q, la, _, 0, _ => ⟨(q, la), rfl⟩
  | [], q, la, _, k + 1, _ => ⟨(q, la), rfl⟩
  | e :: es, q, la, r, k + 1, h => by
    simp only [tells, List.take_succ_cons] at h ⊢
    split at h
    · next hc => rw [if_pos hc]; exact tells_take es _ _ r k h
    · cases h
theorem tells_played (rows : List (List Int)) : ∀ k, tells (playN rows k).es QM.zero [] = some ((playN rows k).q, (playN rows k).ans)
  | 0 => rfl
  | k + 1 => by
    have ih := tells_played rows k
    show tells ((playN rows k).next (evIn rows k)).es QM.zero [] = some (((playN rows k).next (evIn rows k)).q, ((playN rows k).next (evIn rows k)).ans)
    unfold PL.next
    dsimp only
    by_cases hc : ((playN rows k).q.step (evIn rows k)).2.2 = true
    · rw [if_pos hc, if_pos hc, tells_snoc, ih]
      simp [tells, hc]
    · have hs := QM.step_same (q := (playN rows k).q) (e := evIn rows k) (by simpa using hc)
      rw [if_neg hc, if_neg hc, ih, hs]
/-- numbers of a history -/
theorem tells_nums : ∀ (es : List Ev) (q : QM) (la : List QA) (q' : QM) (la' : List QA), (∀ e ∈ es, e.check = 0) → q.Inv → tells es q la = some (q', la') →
    q'.nx = q.nx + (es.countP (isKind 1) : Nat) ∧ q'.ep = q.ep + (es.countP (isKind 4) : Nat) ∧ q'.Inv ∧ la'.length = la.length + es.length
  | [], q, la, q', la', _, hi, h => by
    cases h
    exact ⟨by simp, by simp, hi, by simp⟩
  | e :: es, q, la, q', la', hck, hi, h => by
    simp only [tells] at h
    split at h
    · next hc =>
      have he := hck e (List.mem_cons_self ..)
      have ih := tells_nums es _ _ q' la' (fun x hx => hck x (List.mem_cons_of_mem _ hx)) (hi.step he) h
      obtain ⟨i1, i2, i3, i4⟩ := ih
      have hk : (q.step e).1.nx = q.nx + (if e.kind = 1 then 1 else 0) ∧ (q.step e).1.ep = q.ep + (if e.kind = 4 then 1 else 0) := by
        revert hc
        rcases check_kinds he with hk | hk | hk | hk
        · unfold QM.step
          rw [if_pos hk]
          split
          · simp
          · split
            · simp
            · intro _; simp [QM.pub, hk]
        · unfold QM.step
          rw [if_neg (by omega), if_pos hk]
          unfold QM.recv
          split
          · simp
          · intro _; simp [hk]
        · unfold QM.step
          rw [if_neg (by omega), if_neg (by omega), if_pos hk]
          split
          · split
            · intro _; simp [QM.ack, hk]
            · simp
          · simp
        · unfold QM.step
          rw [if_neg (by omega), if_neg (by omega), if_neg (by omega)]
          intro _
          simp [QM.endAll, hk]
      have c1 : (e :: es).countP (isKind 1) = es.countP (isKind 1) + (if e.kind = 1 then 1 else 0) := by simp [List.countP_cons, isKind]
      have c4 : (e :: es).countP (isKind 4) = es.countP (isKind 4) + (if e.kind = 4 then 1 else 0) := by simp [List.countP_cons, isKind]
      rw [c1, c4]
      refine ⟨?_, ?_, i3, by simp at i4 ⊢; omega⟩
      · rw [i1, hk.1]; split <;> simp <;> omega
      · rw [i2, hk.2]; split <;> simp <;> omega
    · cases h
theorem tells_app (fs : List Ev) : ∀ (es : List Ev) (q : QM) (la : List QA), tells (es ++ fs) q la = (tells es q la).bind fun r => tells fs r.1 r.2
  | [], _, _ => rfl
  | x :: es, q, la => by
    simp only [List.cons_append, tells]
    split
    · exact tells_app fs es _ _
    · rfl
theorem qevCells_app (a b : List Ev) : qevCells (a ++ b) = qevCells a ++ qevCells b := by simp [qevCells, rowCells]
theorem qevCells_take (es : List Ev) (k : Nat) (hk : k ≤ es.length) : (qevCells es).take (k * 6) = qevCells (es.take k) := by
  have h1 : qevCells es = qevCells (es.take k) ++ qevCells (es.drop k) := by
    rw [← qevCells_app, List.take_append_drop]
  have h2 : (qevCells (es.take k)).length = k * 6 := by
    unfold qevCells
    rw [rowCells_len 6 _ (fun r hr => by obtain ⟨x, _, rfl⟩ := List.mem_map.1 hr; rfl)]
    simp [Nat.min_eq_left hk]
  rw [h1, ← h2, List.take_left]
/-- the first events of a slice -/
theorem St.takeEv {w0 w : World} {I : List It} {A : Option Addr} {es : List Ev} (H : St w0 w I) [h : Has I (evIt A es)] (k : Nat) (hk : k ≤ es.length) : St w0 w (evIt A (es.take k) :: I) := by
  have hr : Reads w w.heap.size 6 A es.length (qevCells es) := H.get (evIt A es)
  have hr2 := hr.take hk
  rw [qevCells_take es k hk] at hr2
  have hl : (es.take k).length = k := by simp [Nat.min_eq_left hk]
  refine St.again (h := h) H (by rw [hl]; exact hr2) (fun g hg => ?_)
  simp only [It.area] at hg ⊢
  split at hg
  · cases hg
  · next hz => rw [if_neg (by omega)]; exact hg
theorem St.freezeEv {w0 w : World} {I : List It} {A : Option Addr} {c n : Nat} {es : List Ev} (H : St w0 w (.ow 37 6 (.slice A n c) n (qevCells es) :: I)) (hn : es.length = n) : St w0 w (evIt A es :: I) := by
  subst hn
  exact St.freeze (h := RepO.here) H
theorem St.evReads {w0 w : World} {I : List It} {A : Option Addr} {es : List Ev} {n : Nat} (H : St w0 w I) [h : Has I (evIt A es)] (hl : es.length = n) : Reads w w.heap.size 6 A n (qevCells es) := by
  subst hl
  exact H.get (evIt A es)
theorem ev_info2 : (Try.prog.info? 37).map (fun i => (i.zero, i.size)) = some (some (.agg #[.int .i64 0, .int .i64 0, .int .i64 0, .int .i64 0, .int .i64 0, .int .i64 0]), 6) := by kernel_rfl
theorem evs_snoc (es : List Ev) (k p i b h n : Int) : qevCells es ++ (#[Value.int .i64 k, .int .i64 p, .int .i64 i, .int .i64 b, .int .i64 h, .int .i64 n] : Array Value).toList = qevCells (es ++ [⟨k, p, i, b, h, n⟩]) := (qevCells_snoc es k p i b h n).symm
theorem replay_n {w0 w : World} {I : List It} (es : List Ev) (A : Option Addr) (n c : Nat) (hl : es.length = n) (H : St w0 w I) [he : Has I (evIt A es)] (hck : ∀ e ∈ es, e.check = 0) (hn : n ≤ 150) (hc : n ≤ c) :
    Calls Try.prog 19 #[.slice A n c] w (ReplayPost w0 I es) := by
  subst hl
  exact replay_st es A c H hck hn hc
theorem St.freezeEvAt {w0 w : World} {I : List It} {J : It → List It} {A : Option Addr} {c n : Nat} {es : List Ev} (H : St w0 w I) [h : RepO I 37 (.slice A n c) 6 n (qevCells es) J] (hn : es.length = n) : St w0 w (J (evIt A es)) := by
  subst hn
  exact St.freeze (h := h) H
/-- what Replay answers, whatever the history -/
def rq (es : List Ev) : QM := match tells es QM.zero [] with | some r => r.1 | none => QM.zero
def rf (es : List Ev) : Int := match tells es QM.zero [] with | some _ => 0 | none => 3
theorem replay_any {w0 w : World} {I : List It} (es : List Ev) (A : Option Addr) (n c : Nat) (hl : es.length = n) (H : St w0 w I) [he : Has I (evIt A es)] (hck : ∀ e ∈ es, e.check = 0) (hn : n ≤ 150) (hc : n ≤ c) :
    Calls Try.prog 19 #[.slice A n c] w (fun ed w' => ∃ A1 c1 A2 c2, ed = .returned (.tuple #[.agg (qArr (rq es) A1 c1 A2 c2), .int .i64 (rf es)]) ∧ (rq es).rd.length ≤ c1 ∧ (rq es).ls.length ≤ c2 ∧ St w0 w' (rdIt (rq es) A1 :: lsIt (rq es) A2 :: I)) := by
  refine (replay_n es A n c hl H hck hn hc).mono fun ed w' ⟨h1, h2⟩ => ?_
  unfold rq rf
  cases hT : tells es QM.zero [] with
  | none =>
    obtain ⟨rfl, h⟩ := h2 hT
    exact ⟨none, 0, none, 0, rfl, Nat.le_refl _, Nat.le_refl _, (h.old (s := 4) (n := 0) (A := none) (xs := []) Reads.none_).old (s := 2) (n := 0) (A := none) (xs := []) Reads.none_⟩
  | some r => exact h1 _ _ hT
theorem qArr_all (q : QM) (A1 : Option Addr) (c1 : Nat) (A2 : Option Addr) (c2 : Nat) : (qArr q A1 c1 A2 c2).extract 0 (0 + 41) = qArr q A1 c1 A2 c2 := by kernel_rfl
theorem qevCells_one (es : List Ev) : ∀ u ∈ qevCells es, u.oneCell' = true := by
  intro u hu
  unfold qevCells rowCells at hu
  obtain ⟨r, _, hr⟩ := List.mem_flatMap.1 hu
  obtain ⟨z, _, rfl⟩ := List.mem_map.1 hr
  rfl

end Go.Proofs.Ytjgbkicnagcmdaa
