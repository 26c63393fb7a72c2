/- Berths: what they are, without the program. -/
import Derived.Test.YtjgbkicnagcmdaaHLaw
namespace Go.Proofs.Ytjgbkicnagcmdaa
open Go.RowKit

structure BM where
  role : Int
  ep : Int
  frm : Int
  dst : Int
  rounds : Int
  es : List Ev
def BM.zero : BM := ⟨0, 0, 0, 0, 0, []⟩
/-- may it be, apart from its events? -/
def BM.Shape (b : BM) : Prop :=
  (b.role = 0 ∧ 0 ≤ b.ep ∧ b.ep ≤ 1048576 ∧ b.frm = 0 ∧ b.dst = 0 ∧ b.rounds = 0 ∧ b.es = []) ∨
  (1 ≤ b.ep ∧ b.ep ≤ 1048576 ∧ ((b.role = 1 ∧ b.frm = 0 ∧ b.dst = 0 ∧ b.rounds = 0) ∨ (b.role = 2 ∧ b.frm = 0 ∧ 0 ≤ b.dst ∧ b.dst < 5 ∧ 0 ≤ b.rounds ∧ b.rounds ≤ 4) ∨
    (b.role = 3 ∧ b.frm = 0 ∧ 0 ≤ b.dst ∧ b.dst < 5 ∧ b.rounds = 0) ∨ (b.role = 4 ∧ 0 ≤ b.frm ∧ b.frm < 5 ∧ b.dst = 0 ∧ b.rounds = 0)))
/-- may it be, with at most n events? -/
structure BM.Ok (b : BM) (n : Nat) : Prop where
  shape : b.Shape
  chk : ∀ e ∈ b.es, e.check = 0
  len : b.es.length ≤ n
  told : ∃ la, tells b.es QM.zero [] = some (rq b.es, la)
theorem BM.Ok.more {b : BM} {n m : Nat} (h : b.Ok n) (hm : n ≤ m) : b.Ok m := ⟨h.shape, h.chk, Nat.le_trans h.len hm, h.told⟩
theorem rq_of {es : List Ev} {q : QM} {la : List QA} (h : tells es QM.zero [] = some (q, la)) : rq es = q := by
  unfold rq
  rw [h]
theorem rf_of {es : List Ev} {q : QM} {la : List QA} (h : tells es QM.zero [] = some (q, la)) : rf es = 0 := by
  unfold rf
  rw [h]
theorem tells_room : ∀ (es : List Ev) (q : QM) (la : List QA) (q' : QM) (la' : List QA) (n : Nat), q.Room (n + es.length) → tells es q la = some (q', la') → q'.Room n
  | [], q, la, q', la', n, hr, h => by
    cases h
    exact hr
  | e :: es, q, la, q', la', n, hr, h => by
    simp only [tells] at h
    split at h
    · exact tells_room es _ _ _ _ n (QM.Room.step (hr.less (by simp; omega)) e) h
    · cases h
theorem QM.zero_room : QM.zero.Room 200 := ⟨by simp [QM.zero], by simp [QM.zero], by simp [QM.zero], by simp [QM.zero]⟩
theorem BM.Ok.queue {b : BM} {n m : Nat} (h : b.Ok n) (hn : n + m ≤ 200) : (rq b.es).Inv ∧ (rq b.es).Room m := by
  obtain ⟨la, ht⟩ := h.told
  have hl := h.len
  exact ⟨(tells_nums b.es _ _ _ _ h.chk QM.zero_inv ht).2.2.1, tells_room b.es _ _ _ _ m (QM.zero_room.less (by omega)) ht⟩
theorem tells_more {es : List Ev} {la : List QA} (e : Ev) (h : tells es QM.zero [] = some (rq es, la)) (hc : ((rq es).step e).2.2 = true) :
    tells (es ++ [e]) QM.zero [] = some (((rq es).step e).1, la ++ [((rq es).step e).2.1]) := by
  rw [tells_snoc, h]
  simp [tells, hc]
/-- one more event -/
theorem BM.Ok.snoc {b : BM} {n : Nat} (h : b.Ok n) (e : Ev) (he : e.check = 0) (hc : ((rq b.es).step e).2.2 = true) (hr : b.role ≠ 0) : ({b with es := b.es ++ [e]} : BM).Ok (n + 1) ∧ rq (b.es ++ [e]) = ((rq b.es).step e).1 := by
  obtain ⟨la, ht⟩ := h.told
  have h2 := tells_more e ht hc
  refine ⟨⟨?_, fun x hx => ?_, ?_, ⟨la ++ [((rq b.es).step e).2.1], ?_⟩⟩, rq_of h2⟩
  · rcases h.shape with h1 | h1
    · exact absurd h1.1 hr
    · exact .inr h1
  · rcases List.mem_append.1 hx with hx | hx
    · exact h.chk x hx
    · rw [List.mem_singleton.1 hx]
      exact he
  · have := h.len
    simp
    omega
  · show tells (b.es ++ [e]) QM.zero [] = some (rq (b.es ++ [e]), _)
    rw [rq_of h2]
    exact h2
/-- what a berth answers a client -/
def BM.serve (b : BM) (e : Ev) : BM × QA × Bool :=
  if b.role = 3 then (b, ⟨12, 0, 0, 0⟩, false)
  else if b.role = 1 ∨ b.role = 2 then
    (if ((rq b.es).step e).2.2 then ({b with es := b.es ++ [e]}, ((rq b.es).step e).2.1, true) else (b, ((rq b.es).step e).2.1, false))
  else (b, ⟨7, 0, 0, 0⟩, false)
theorem BM.Ok.serve {b : BM} {n : Nat} (h : b.Ok n) (e : Ev) (he : e.check = 0) : (b.serve e).1.Ok (n + 1) := by
  unfold BM.serve
  split
  · exact h.more (by omega)
  · split
    · next hr =>
      split
      · next hc => exact (h.snoc e he hc (by omega)).1
      · exact h.more (by omega)
    · exact h.more (by omega)
theorem BM.serve_role (b : BM) (e : Ev) : (b.serve e).1.role = b.role ∧ (b.serve e).1.ep = b.ep ∧ (b.serve e).1.frm = b.frm ∧ (b.serve e).1.dst = b.dst ∧ (b.serve e).1.rounds = b.rounds := by
  unfold BM.serve
  split
  · exact ⟨rfl, rfl, rfl, rfl, rfl⟩
  · split
    · split <;> exact ⟨rfl, rfl, rfl, rfl, rfl⟩
    · exact ⟨rfl, rfl, rfl, rfl, rfl⟩
theorem BM.serve_len (b : BM) (e : Ev) : (b.serve e).1.es.length = b.es.length + (if (b.serve e).2.2 then 1 else 0) := by
  unfold BM.serve
  split
  · rfl
  · split
    · split
      · simp
      · rfl
    · rfl
/-- what Go answers -/
def BM.go (b : BM) (dst : Int) : BM := {b with role := 2, dst := dst}
theorem BM.Ok.go {b : BM} {n : Nat} (h : b.Ok n) (hr : b.role = 1) (dst : Int) (h0 : 0 ≤ dst) (h5 : dst < 5) : (b.go dst).Ok n := by
  refine ⟨?_, h.chk, h.len, h.told⟩
  rcases h.shape with h1 | ⟨h1, h2, h3 | h3 | h3 | h3⟩
  · omega
  · exact .inr ⟨h1, h2, .inr (.inl ⟨rfl, h3.2.1, h0, h5, by simp [BM.go]; omega, by simp [BM.go]; omega⟩)⟩
  · omega
  · omega
  · omega
/-- what Caught answers, where it may be called -/
def BM.caught (b : BM) (have_ : Int) : BM :=
  if b.role = 3 then b
  else if have_ = b.es.length ∨ b.rounds = 4 then {b with role := 3, rounds := 0}
  else {b with rounds := b.rounds + 1}
theorem BM.Ok.caught {b : BM} {n : Nat} (h : b.Ok n) (hr : b.role = 2 ∨ b.role = 3) (k : Int) : (b.caught k).Ok n := by
  unfold BM.caught
  split
  · exact h
  · have h2 : b.role = 2 := by omega
    rcases h.shape with h1 | ⟨e1, e2, h3 | h3 | h3 | h3⟩
    · omega
    · omega
    · split
      · exact ⟨.inr ⟨e1, e2, .inr (.inr (.inl ⟨rfl, h3.2.1, h3.2.2.1, h3.2.2.2.1, rfl⟩))⟩, h.chk, h.len, h.told⟩
      · refine ⟨.inr ⟨e1, e2, .inr (.inl ⟨h2, h3.2.1, h3.2.2.1, h3.2.2.2.1, ?_, ?_⟩)⟩, h.chk, h.len, h.told⟩
        · show 0 ≤ b.rounds + 1
          omega
        · show b.rounds + 1 ≤ 4
          omega
    · omega
    · omega
/-- a break behind the events -/
theorem BM.Ok.brk {b : BM} {n : Nat} (h : b.Ok n) (hr : b.role ≠ 0) : ((rq b.es).step ⟨4, 0, 0, 0, 0, 0⟩).2.2 = true ∧ rq (b.es ++ [⟨4, 0, 0, 0, 0, 0⟩]) = (rq b.es).endAll ∧ ({b with es := b.es ++ [⟨4, 0, 0, 0, 0, 0⟩]} : BM).Ok (n + 1) := by
  have hs : (rq b.es).step ⟨4, 0, 0, 0, 0, 0⟩ = ((rq b.es).endAll, ⟨0, 0, 0, 0⟩, true) := by simp [QM.step]
  obtain ⟨h1, h2⟩ := h.snoc ⟨4, 0, 0, 0, 0, 0⟩ (by decide) (by rw [hs]) hr
  exact ⟨by rw [hs], by rw [h2, hs], h1⟩
/-- a berth that was made, behind some events -/
def BM.made (ep : Int) : BM := ⟨1, ep, 0, 0, 0, []⟩
theorem BM.made_ok (ep : Int) (h1 : 1 ≤ ep) (h2 : ep ≤ 1048576) : (BM.made ep).Ok 0 :=
  ⟨.inr ⟨h1, h2, .inl ⟨rfl, rfl, rfl, rfl⟩⟩, fun e h => (by cases h), Nat.le_refl _, ⟨[], rfl⟩⟩
theorem BM.zero_ok : BM.zero.Ok 0 :=
  ⟨.inl ⟨rfl, Int.le_refl _, by decide, rfl, rfl, rfl, rfl⟩, fun e h => (by cases h), Nat.le_refl _, ⟨[], rfl⟩⟩
/-- one event, but a break is passed over -/
def BM.take (b : BM) (e : Ev) : BM := if e.kind = 4 then b else (b.serve e).1
def servedN (ep : Int) (rows : List (List Int)) : Nat → BM
  | 0 => BM.made ep
  | k + 1 => (servedN ep rows k).take (evIn rows k)
theorem servedN_ok (ep : Int) (rows : List (List Int)) (h1 : 1 ≤ ep) (h2 : ep ≤ 1048576) : ∀ k, (servedN ep rows k).Ok k ∧ (servedN ep rows k).role = 1 ∧ (servedN ep rows k).ep = ep
  | 0 => ⟨BM.made_ok ep h1 h2, rfl, rfl⟩
  | k + 1 => by
    obtain ⟨i1, i2, i3⟩ := servedN_ok ep rows h1 h2 k
    have hk : (evIn rows k).check = 0 := evOf_chk _ _ _ _
    simp only [servedN]
    unfold BM.take
    split
    · exact ⟨i1.more (by omega), i2, i3⟩
    · exact ⟨i1.serve _ hk, by rw [(BM.serve_role _ _).1, i2], by rw [(BM.serve_role _ _).2.1, i3]⟩

end Go.Proofs.Ytjgbkicnagcmdaa
