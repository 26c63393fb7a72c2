/- 'sameRecords', where they are. -/
import Derived.Test.YtcgamaponeglhaaTaped
namespace Go.Proofs.Ytcgamaponeglhaa
open Go.RowKit

theorem rec_neq_same (a b c d e f g h i j : Int) (w : World) :
    (binOp .neq 29 (.agg #[.int .i64 a, .int .i64 b, .int .i64 c, .int .i64 d, .int .i64 e, .int .i64 f, .int .i64 g, .int .i64 h, .int .i64 i, .int .i64 j]) (.agg #[.int .i64 a, .int .i64 b, .int .i64 c, .int .i64 d, .int .i64 e, .int .i64 f, .int .i64 g, .int .i64 h, .int .i64 i, .int .i64 j])).run Try.prog w = .ok (.bool false) w := by
  have h1 : Try.prog.underlying 29 = some (.struct (Try.prog.fieldsOf 29)) := by kernel_rfl
  have h2 : Try.prog.stoodInHeld 29 = false := by kernel_rfl
  rw [run_neq_struct, run_equalIn_struct _ _ _ _ _ h1 h2]
  simp [go_sem]

def Rc.list (r : Rc) : List Int := [r.kind, r.queue, r.epoch, r.peer, r.ev.kind, r.ev.prod, r.ev.id, r.ev.body, r.ev.hep, r.ev.hno]
theorem rcRow_rows (rs : List Rc) : rcRow rs = rowCells (rs.map Rc.list) := by
  induction rs with
  | nil => rfl
  | cons r rs ih => simp only [rcRow, rowCells, List.flatMap_cons, List.map_cons] at ih ⊢; rw [ih]; rfl

theorem rcAt {w : World} {B n k : Nat} {A : Option Addr} {rs : List Rc} (hl : rs.length = n) (h : Reads w B 10 A n (rcRow rs)) (hk : k < n) :
    ∃ b off, A = some ⟨b, off, none⟩ ∧ b < B ∧ ∃ r : Rc, w.cell? ⟨b, off + k * 10, none⟩ = some (.int .i64 r.kind) ∧ w.cell? ⟨b, off + k * 10 + 1, none⟩ = some (.int .i64 r.queue) ∧ w.cell? ⟨b, off + k * 10 + 2, none⟩ = some (.int .i64 r.epoch) ∧ w.cell? ⟨b, off + k * 10 + 3, none⟩ = some (.int .i64 r.peer) ∧
      w.cell? ⟨b, off + k * 10 + 4, none⟩ = some (.int .i64 r.ev.kind) ∧ w.cell? ⟨b, off + k * 10 + 5, none⟩ = some (.int .i64 r.ev.prod) ∧ w.cell? ⟨b, off + k * 10 + 6, none⟩ = some (.int .i64 r.ev.id) ∧ w.cell? ⟨b, off + k * 10 + 7, none⟩ = some (.int .i64 r.ev.body) ∧
      w.cell? ⟨b, off + k * 10 + 8, none⟩ = some (.int .i64 r.ev.hep) ∧ w.cell? ⟨b, off + k * 10 + 9, none⟩ = some (.int .i64 r.ev.hno) ∧ rs[k]? = some r := by
  obtain ⟨b, off, rfl, hb, hc⟩ := h.plain (by omega) (by omega)
  have hr : rs[k]? = some rs[k] := List.getElem?_eq_getElem (by omega)
  have hat : ∀ j u, j < 10 → (rs[k]).list[j]? = some u → w.cell? ⟨b, off + k * 10 + j, none⟩ = some (.int .i64 u) := fun j u hj hu => by
    rw [Nat.add_assoc]
    refine hc _ _ ?_
    rw [rcRow_rows, rowCells_at 10 _ (fun r hr => by obtain ⟨x, _, rfl⟩ := List.mem_map.1 hr; rfl) k j (rs[k]).list (by rw [List.getElem?_map, hr]; rfl) hj, hu]
    rfl
  exact ⟨b, off, rfl, hb, rs[k], hat 0 _ (by omega) rfl, hat 1 _ (by omega) rfl, hat 2 _ (by omega) rfl, hat 3 _ (by omega) rfl, hat 4 _ (by omega) rfl, hat 5 _ (by omega) rfl, hat 6 _ (by omega) rfl, hat 7 _ (by omega) rfl, hat 8 _ (by omega) rfl, hat 9 _ (by omega) rfl, hr⟩

set_option maxRecDepth 100000 in
set_option maxHeartbeats 1000000 in
theorem same_yes (A A' : Option Addr) (n c c' B : Nat) (rs : List Rc) (w : World) (hl : rs.length = n) (hn : n ≤ 1000) (h : Reads w B 10 A n (rcRow rs)) (h' : Reads w B 10 A' n (rcRow rs)) :
    Calls Try.prog 24 #[.slice A n c, .slice A' n c'] w (fun e w' => e = .returned (.bool true) ∧ ∃ q, w' = w.drewN q) := by
  have hg : Try.prog.eqGuardType Try.prog.depth 29 = false := by kernel_rfl
  have hne := rec_neq_same
  have FIN := Lib.hid (fun q => (show (fun e w' => e = .returned (.bool true) ∧ ∃ q, w' = w.drewN q) (Ending.returned (.bool true)) (w.drewN q) from ⟨rfl, q, rfl⟩))
  generalize (fun e w' => e = Ending.returned (.bool true) ∧ ∃ q, w' = w.drewN q) = POST at *
  go_enter Try.func24, Try.ntmps24
  go_wp2
  go_loopw [5] (fun s3 wr => ∃ k : Nat, k ≤ n ∧ s3 = .int .i64 k ∧ ∃ q, wr = w.drewN q) (fun s3 _ => n - (intOf s3).toNat)
  case atStart => exact ⟨0, Nat.zero_le _, rfl, 0, rfl⟩
  case round =>
    obtain ⟨k, hk, rfl, q, rfl⟩ := hrel
    by_cases hlt : k < n
    · obtain ⟨b, off, rfl, hb, r, x0, x1, x2, x3, x4, x5, x6, x7, x8, x9, hr⟩ := rcAt hl h hlt
      obtain ⟨b', off', rfl, hb', r', y0, y1, y2, y3, y4, y5, y6, y7, y8, y9, hr'⟩ := rcAt hl h' hlt
      obtain rfl : r = r' := by rw [hr] at hr'; injection hr'
      have hI : (k : Int) < (n : Int) := by omega
      have i1 : IntKind.i64.wrap ((k : Int) + 1) = (k : Int) + 1 := IntWalk.i64_in _ (by omega)
      clear h h' hr hr'
      go_wp2_with fail
      go_quiet (fail)
      go_wp2
      go_roundw
      case rel => exact ⟨k + 1, by omega, by go_num, _, rfl⟩
      case measure => simp [intOf]; omega
    · obtain rfl : k = n := by omega
      clear h h'
      go_wp2
      exact FIN.out _

end Go.Proofs.Ytcgamaponeglhaa
