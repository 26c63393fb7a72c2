/- Events: 'event' and 'pack.Check'. -/
import Derived.Test.YtjakmpkfniangaaDoorPk
import Derived.Test.YtjakmpkfniangaaDoorBytes
import Derived.Test.YtjakmpkfniangaaDoorView
import Derived.Laws.StructEq
import Derived.StillTailTactics
import Derived.BigRegion
namespace Go.Proofs.YtjakmpkfniangaaDoor
open Go.RowKit

/-- an event -/
structure Ev where
  kind : Int
  prod : Int
  id : Int
  body : Int
  hep : Int
  hno : Int

def Ev.val (e : Ev) : Value := .agg #[.int .i64 e.kind, .int .i64 e.prod, .int .i64 e.id, .int .i64 e.body, .int .i64 e.hep, .int .i64 e.hno]

/-- what 'event' makes of raw numbers -/
def evOf (k a b c : Int) : Ev :=
  if pick k 8 < 3 then ⟨1, pick a 2, pick b 24, pick c 1000, 0, 0⟩
  else if pick k 8 < 5 then ⟨2, 0, 0, 0, 0, 0⟩
  else if pick k 8 < 7 then ⟨3, 0, 0, 0, pick a 3, pick b 6⟩
  else ⟨4, 0, 0, 0, 0, 0⟩

/-- within bounds? -/
def inB (n lo hi : Int) : Bool := decide (lo ≤ n) && decide (n ≤ hi)
def Ev.ok1 (e : Ev) : Bool := inB e.prod 0 3 && inB e.id 0 1073741824 && inB e.body 0 1000000
def Ev.ok3 (e : Ev) : Bool := inB e.hep 0 1048576 && inB e.hno 0 1073741824
/-- what 'pack.Check' answers -/
def Ev.check (e : Ev) : Int :=
  if e.kind = 1 then (if e.ok1 then (if e.hep = 0 ∧ e.hno = 0 then 0 else 3) else 2)
  else if e.kind = 3 then (if e.ok3 then (if e.prod = 0 ∧ e.id = 0 ∧ e.body = 0 then 0 else 3) else 2)
  else if e.kind = 2 ∨ e.kind = 4 then (if e.prod = 0 ∧ e.id = 0 ∧ e.body = 0 ∧ e.hep = 0 ∧ e.hno = 0 then 0 else 3)
  else 3

/-- are two events unlike? -/
def evNe (a b c d e f a' b' c' d' e' f' : Int) : Bool := !(a == a' && b == b' && c == c' && d == d' && e == e' && f == f')

theorem ev_neq (a b c d e f a' b' c' d' e' f' : Int) (w : World) :
    (binOp .neq 39 (.agg #[.int .i64 a, .int .i64 b, .int .i64 c, .int .i64 d, .int .i64 e, .int .i64 f]) (.agg #[.int .i64 a', .int .i64 b', .int .i64 c', .int .i64 d', .int .i64 e', .int .i64 f'])).run Tryd.prog w =
      .ok (.bool (evNe a b c d e f a' b' c' d' e' f')) w := by
  have h1 : Tryd.prog.underlying 39 = some (.struct (Tryd.prog.fieldsOf 39)) := by kernel_rfl
  have h2 : Tryd.prog.stoodInHeld 39 = false := by kernel_rfl
  rw [run_neq_struct, run_equalIn_struct _ _ _ _ _ h1 h2]
  unfold evNe
  simp [go_sem]
  repeat' split
  all_goals simp_all

theorem ev_eql (a b c d e f a' b' c' d' e' f' : Int) (w : World) :
    (binOp .eql 39 (.agg #[.int .i64 a, .int .i64 b, .int .i64 c, .int .i64 d, .int .i64 e, .int .i64 f]) (.agg #[.int .i64 a', .int .i64 b', .int .i64 c', .int .i64 d', .int .i64 e', .int .i64 f'])).run Tryd.prog w =
      .ok (.bool (!evNe a b c d e f a' b' c' d' e' f')) w := by
  have h1 : Tryd.prog.underlying 39 = some (.struct (Tryd.prog.fieldsOf 39)) := by kernel_rfl
  have h2 : Tryd.prog.stoodInHeld 39 = false := by kernel_rfl
  rw [run_eql_struct, run_equalIn_struct _ _ _ _ _ h1 h2]
  unfold evNe
  simp [go_sem]
  repeat' split
  all_goals simp_all

theorem handle_eql (a b a' b' : Int) (w : World) :
    (binOp .eql 37 (.agg #[.int .i64 a, .int .i64 b]) (.agg #[.int .i64 a', .int .i64 b'])).run Tryd.prog w = .ok (.bool (a == a' && b == b')) w := by
  have h1 : Tryd.prog.underlying 37 = some (.struct (Tryd.prog.fieldsOf 37)) := by kernel_rfl
  have h2 : Tryd.prog.stoodInHeld 37 = false := by kernel_rfl
  rw [run_eql_struct, run_equalIn_struct _ _ _ _ _ h1 h2]
  simp [go_sem]
  repeat' split
  all_goals simp_all

/-- the call returns v, and nothing that was there has turned -/
def Puts (w : World) (v : Value) (e : Ending) (w' : World) : Prop := e = .returned v ∧ Below w.heap.size w w'

set_option maxHeartbeats 400000 in
theorem within_any (n lo hi : Int) (w : World) :
    Calls Tryd.prog 37 #[.int .i64 n, .int .i64 lo, .int .i64 hi] w fun e w' => e = .returned (.bool (inB n lo hi)) ∧ w = w' := by
  have HB := Lib.hid (show inB n lo hi = (decide (lo ≤ n) && decide (n ≤ hi)) from rfl)
  generalize inB n lo hi = r at *
  by_cases h1 : lo ≤ n
  · by_cases h2 : n ≤ hi
    · go_enter Tryd.func37, Tryd.ntmps37
      go_wp2
      go_ret
      exact ⟨by rw [HB.out, decide_eq_true h1, decide_eq_true h2]; rfl, rfl⟩
    · go_enter Tryd.func37, Tryd.ntmps37
      go_wp2
      go_ret
      exact ⟨by rw [HB.out, decide_eq_true h1, decide_eq_false (by omega : ¬ n ≤ hi)]; rfl, rfl⟩
  · go_enter Tryd.func37, Tryd.ntmps37
    go_wp2
    go_ret
    exact ⟨by rw [HB.out, decide_eq_false (by omega : ¬ lo ≤ n)]; rfl, rfl⟩

theorem chk1_bad (prod id body hep hno : Int) (h : (inB prod 0 3 && inB id 0 1073741824 && inB body 0 1000000) = false) : 2 = Ev.check ⟨1, prod, id, body, hep, hno⟩ := by
  simp [Ev.check, Ev.ok1, h]
theorem chk1_ok (prod id body hep hno : Int) (h : (inB prod 0 3 && inB id 0 1073741824 && inB body 0 1000000) = true) :
    (if evNe 1 prod id body 0 0 1 prod id body hep hno = true then 3 else 0) = Ev.check ⟨1, prod, id, body, hep, hno⟩ := by
  by_cases h1 : hep = 0 <;> by_cases h2 : hno = 0 <;> simp_all [Ev.check, Ev.ok1, evNe]
  all_goals omega
theorem chk3_bad (prod id body hep hno : Int) (h : (inB hep 0 1048576 && inB hno 0 1073741824) = false) : 2 = Ev.check ⟨3, prod, id, body, hep, hno⟩ := by
  simp [Ev.check, Ev.ok3, h]
theorem chk3_ok (prod id body hep hno : Int) (h : (inB hep 0 1048576 && inB hno 0 1073741824) = true) :
    (if evNe 3 0 0 0 hep hno 3 prod id body hep hno = true then 3 else 0) = Ev.check ⟨3, prod, id, body, hep, hno⟩ := by
  by_cases h1 : prod = 0 <;> by_cases h2 : id = 0 <;> by_cases h3 : body = 0 <;> simp_all [Ev.check, Ev.ok3, evNe]
  all_goals omega
theorem chk24 (k prod id body hep hno : Int) (hk : k = 2 ∨ k = 4) :
    (if evNe k 0 0 0 0 0 k prod id body hep hno = true then 3 else 0) = Ev.check ⟨k, prod, id, body, hep, hno⟩ := by
  rcases hk with rfl | rfl <;>
  by_cases h1 : prod = 0 <;> by_cases h2 : id = 0 <;> by_cases h3 : body = 0 <;> by_cases h4 : hep = 0 <;> by_cases h5 : hno = 0 <;> simp_all [Ev.check, evNe]
  all_goals omega
theorem chk_else (k prod id body hep hno : Int) (h1 : k ≠ 1) (h2 : k ≠ 2) (h3 : k ≠ 3) (h4 : k ≠ 4) : 3 = Ev.check ⟨k, prod, id, body, hep, hno⟩ := by
  simp [Ev.check, h1, h2, h3, h4]

set_option maxHeartbeats 2000000 in
theorem check_kind1 (prod id body hep hno : Int) (w : World) :
    Calls Tryd.prog 29 #[.agg #[.int .i64 1, .int .i64 prod, .int .i64 id, .int .i64 body, .int .i64 hep, .int .i64 hno]] w (Puts w (.int .i64 (Ev.check ⟨1, prod, id, body, hep, hno⟩))) := by
  have hg : Tryd.prog.eqGuardType Tryd.prog.depth 39 = false := by kernel_rfl
  have hne := ev_neq
  have HBad := Lib.hid (chk1_bad prod id body hep hno)
  have HOk := Lib.hid (chk1_ok prod id body hep hno)
  generalize Ev.check ⟨1, prod, id, body, hep, hno⟩ = r at *
  cases h1 : inB prod 0 3 with
  | false =>
    go_enter Tryd.func29, Tryd.ntmps29
    go_wp2_with fail
    refine (within_any _ _ _ _).mono ?_
    rintro e w1 ⟨rfl, rfl⟩
    rw [h1]
    go_wp2_with fail
    go_region
    go_wp2
    go_ret
    exact ⟨ret_int (HBad.out (by rw [h1]; rfl)), by repeat (first | exact Below.refl _ _ | refine Below.drew ?_ | refine Below.alloc ?_ (by simp) _)⟩
  | true =>
    cases h2 : inB id 0 1073741824 with
    | false =>
      go_enter Tryd.func29, Tryd.ntmps29
      go_wp2_with fail
      refine (within_any _ _ _ _).mono ?_
      rintro e w1 ⟨rfl, rfl⟩
      rw [h1]
      go_wp2_with fail
      refine (within_any _ _ _ _).mono ?_
      rintro e w1 ⟨rfl, rfl⟩
      rw [h2]
      go_wp2_with fail
      go_region
      go_wp2
      go_ret
      exact ⟨ret_int (HBad.out (by rw [h1, h2]; rfl)), by repeat (first | exact Below.refl _ _ | refine Below.drew ?_ | refine Below.alloc ?_ (by simp) _)⟩
    | true =>
      go_enter Tryd.func29, Tryd.ntmps29
      go_wp2_with fail
      refine (within_any _ _ _ _).mono ?_
      rintro e w1 ⟨rfl, rfl⟩
      rw [h1]
      go_wp2_with fail
      refine (within_any _ _ _ _).mono ?_
      rintro e w1 ⟨rfl, rfl⟩
      rw [h2]
      go_wp2_with fail
      refine (within_any _ _ _ _).mono ?_
      rintro e w1 ⟨rfl, rfl⟩
      cases h3 : inB body 0 1000000 with
      | false =>
        go_wp2_with fail
        go_region
        go_wp2
        go_ret
        exact ⟨ret_int (HBad.out (by rw [h1, h2, h3]; rfl)), by repeat (first | exact Below.refl _ _ | refine Below.drew ?_ | refine Below.alloc ?_ (by simp) _)⟩
      | true =>
        have HO := Lib.hid (HOk.out (by rw [h1, h2, h3]; rfl))
        cases h4 : evNe 1 prod id body 0 0 1 prod id body hep hno with
        | false =>
          go_wp2_with fail
          go_region
          go_wp2
          go_ret
          exact ⟨ret_int (by rw [← HO.out, h4]; rfl), by repeat (first | exact Below.refl _ _ | refine Below.drew ?_ | refine Below.alloc ?_ (by simp) _)⟩
        | true =>
          go_wp2_with fail
          go_region
          go_wp2
          go_ret
          exact ⟨ret_int (by rw [← HO.out, h4]; rfl), by repeat (first | exact Below.refl _ _ | refine Below.drew ?_ | refine Below.alloc ?_ (by simp) _)⟩

set_option maxHeartbeats 2000000 in
theorem check_kind3 (prod id body hep hno : Int) (w : World) :
    Calls Tryd.prog 29 #[.agg #[.int .i64 3, .int .i64 prod, .int .i64 id, .int .i64 body, .int .i64 hep, .int .i64 hno]] w (Puts w (.int .i64 (Ev.check ⟨3, prod, id, body, hep, hno⟩))) := by
  have hg : Tryd.prog.eqGuardType Tryd.prog.depth 39 = false := by kernel_rfl
  have hne := ev_neq
  have HBad := Lib.hid (chk3_bad prod id body hep hno)
  have HOk := Lib.hid (chk3_ok prod id body hep hno)
  generalize Ev.check ⟨3, prod, id, body, hep, hno⟩ = r at *
  cases h1 : inB hep 0 1048576 with
  | false =>
    go_enter Tryd.func29, Tryd.ntmps29
    go_wp2_with fail
    refine (within_any _ _ _ _).mono ?_
    rintro e w1 ⟨rfl, rfl⟩
    rw [h1]
    go_wp2
    go_ret
    exact ⟨ret_int (HBad.out (by rw [h1]; rfl)), by repeat (first | exact Below.refl _ _ | refine Below.drew ?_ | refine Below.alloc ?_ (by simp) _)⟩
  | true =>
    go_enter Tryd.func29, Tryd.ntmps29
    go_wp2_with fail
    refine (within_any _ _ _ _).mono ?_
    rintro e w1 ⟨rfl, rfl⟩
    rw [h1]
    go_wp2_with fail
    refine (within_any _ _ _ _).mono ?_
    rintro e w1 ⟨rfl, rfl⟩
    cases h3 : inB hno 0 1073741824 with
    | false =>
      go_wp2
      go_ret
      exact ⟨ret_int (HBad.out (by rw [h1, h3]; rfl)), by repeat (first | exact Below.refl _ _ | refine Below.drew ?_ | refine Below.alloc ?_ (by simp) _)⟩
    | true =>
      have HO := Lib.hid (HOk.out (by rw [h1, h3]; rfl))
      cases h4 : evNe 3 0 0 0 hep hno 3 prod id body hep hno with
      | false =>
        go_wp2
        go_ret
        exact ⟨ret_int (by rw [← HO.out, h4]; rfl), by repeat (first | exact Below.refl _ _ | refine Below.drew ?_ | refine Below.alloc ?_ (by simp) _)⟩
      | true =>
        go_wp2
        go_ret
        exact ⟨ret_int (by rw [← HO.out, h4]; rfl), by repeat (first | exact Below.refl _ _ | refine Below.drew ?_ | refine Below.alloc ?_ (by simp) _)⟩

set_option maxHeartbeats 1000000 in
theorem check_any (k prod id body hep hno : Int) (w : World) :
    Calls Tryd.prog 29 #[.agg #[.int .i64 k, .int .i64 prod, .int .i64 id, .int .i64 body, .int .i64 hep, .int .i64 hno]] w (Puts w (.int .i64 (Ev.check ⟨k, prod, id, body, hep, hno⟩))) := by
  by_cases k1 : k = 1
  · subst k1; exact check_kind1 prod id body hep hno w
  by_cases k3 : k = 3
  · subst k3; exact check_kind3 prod id body hep hno w
  have hg : Tryd.prog.eqGuardType Tryd.prog.depth 39 = false := by kernel_rfl
  have hne := ev_neq
  by_cases k24 : k = 2 ∨ k = 4
  · have HO := Lib.hid (chk24 k prod id body hep hno k24)
    generalize Ev.check ⟨k, prod, id, body, hep, hno⟩ = r at *
    cases h4 : evNe k 0 0 0 0 0 k prod id body hep hno with
    | false =>
      have HF := Lib.hid (show 0 = r by rw [← HO.out, h4]; rfl)
      clear HO
      rcases k24 with rfl | rfl
      all_goals
        go_enter Tryd.func29, Tryd.ntmps29
        go_wp2
        go_ret
        exact ⟨ret_int HF.out, by repeat (first | exact Below.refl _ _ | refine Below.drew ?_ | refine Below.alloc ?_ (by simp) _)⟩
    | true =>
      have HF := Lib.hid (show 3 = r by rw [← HO.out, h4]; rfl)
      clear HO
      rcases k24 with rfl | rfl
      all_goals
        go_enter Tryd.func29, Tryd.ntmps29
        go_wp2
        go_ret
        exact ⟨ret_int HF.out, by repeat (first | exact Below.refl _ _ | refine Below.drew ?_ | refine Below.alloc ?_ (by simp) _)⟩
  · have k2 : k ≠ 2 := fun h => k24 (.inl h)
    have k4 : k ≠ 4 := fun h => k24 (.inr h)
    have HF := Lib.hid (chk_else k prod id body hep hno k1 k2 k3 k4)
    generalize Ev.check ⟨k, prod, id, body, hep, hno⟩ = r at *
    have q1 : (k == 1) = false := beq_eq_false_iff_ne.2 k1
    have q2 : (k == 2) = false := beq_eq_false_iff_ne.2 k2
    have q3 : (k == 3) = false := beq_eq_false_iff_ne.2 k3
    have q4 : (k == 4) = false := beq_eq_false_iff_ne.2 k4
    clear k1 k2 k3 k4 k24
    go_enter Tryd.func29, Tryd.ntmps29
    go_wp2
    go_ret
    exact ⟨ret_int HF.out, by repeat (first | exact Below.refl _ _ | refine Below.drew ?_ | refine Below.alloc ?_ (by simp) _)⟩

end Go.Proofs.YtjakmpkfniangaaDoor
