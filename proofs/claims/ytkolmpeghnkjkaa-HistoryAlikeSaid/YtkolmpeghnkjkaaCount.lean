/- Queues: 'count'. -/
import Derived.Test.YtkolmpeghnkjkaaPl
namespace Go.Proofs.Ytkolmpeghnkjkaa
open Go.RowKit

def Ev.zero0 : Ev := ⟨0, 0, 0, 0, 0, 0⟩
theorem qevAt {w : World} {B n i : Nat} {A : Option Addr} {es : List Ev} (hr : Reads w B 6 A n (qevCells es)) (hl : es.length = n) (hi : i < n) :
    ∃ b off, A = some ⟨b, off, none⟩ ∧ b < B ∧ w.cell? ⟨b, off + i * 6, none⟩ = some (.int .i64 (es.getD i .zero0).kind) ∧ w.cell? ⟨b, off + i * 6 + 1, none⟩ = some (.int .i64 (es.getD i .zero0).prod) ∧
      w.cell? ⟨b, off + i * 6 + 2, none⟩ = some (.int .i64 (es.getD i .zero0).id) ∧ w.cell? ⟨b, off + i * 6 + 3, none⟩ = some (.int .i64 (es.getD i .zero0).body) ∧
      w.cell? ⟨b, off + i * 6 + 4, none⟩ = some (.int .i64 (es.getD i .zero0).hep) ∧ w.cell? ⟨b, off + i * 6 + 5, none⟩ = some (.int .i64 (es.getD i .zero0).hno) := by
  have hr1 : es[i]? = some (es.getD i .zero0) := by rw [List.getElem?_eq_getElem (show i < es.length by omega)]; simp [List.getD, List.getElem?_eq_getElem (show i < es.length by omega)]
  obtain ⟨b, off, h1, h2, h3⟩ := rowAt hr (by simpa using hl) (fun r hr => by obtain ⟨x, _, rfl⟩ := List.mem_map.1 hr; rfl) (by omega) hi (r := qevRow (es.getD i .zero0)) (by rw [List.getElem?_map, hr1]; rfl)
  exact ⟨b, off, h1, h2, h3 0 _ rfl, h3 1 _ rfl, h3 2 _ rfl, h3 3 _ rfl, h3 4 _ rfl, h3 5 _ rfl⟩
def isKind (k : Int) (e : Ev) : Bool := e.kind == k
theorem count_take (es : List Ev) (k : Int) (i : Nat) (hi : i < es.length) : (es.take (i + 1)).countP (isKind k) = (es.take i).countP (isKind k) + (if (es.getD i .zero0).kind = k then 1 else 0) := by
  have hr1 : es[i]? = some (es.getD i .zero0) := by rw [List.getElem?_eq_getElem hi]; simp [List.getD, List.getElem?_eq_getElem hi]
  rw [List.take_add_one, List.countP_append, hr1]
  simp [List.countP_cons, isKind]

set_option maxHeartbeats 1000000 in
theorem count_any (es : List Ev) (A : Option Addr) (n c B : Nat) (k : Int) (w : World) (hr : Reads w B 6 A n (qevCells es)) (hl : es.length = n) (hn : n ≤ 1000) :
    Calls Try.prog 16 #[.slice A n c, .int .i64 k] w fun e w' => e = .returned (.int .i64 (es.countP (isKind k) : Nat)) ∧ w' = w := by
  go_enter Try.func16, Try.ntmps16
  go_wp2_with fail
  go_loopw [5, 6] (fun s5 s6 wr => ∃ i : Nat, i ≤ n ∧ s6 = .int .i64 i ∧ s5 = .int .i64 ((es.take i).countP (isKind k) : Nat) ∧ wr = w) (fun _ s6 _ => n - (intOf s6).toNat)
  case atStart => exact ⟨0, by omega, rfl, by simp, rfl⟩
  case round =>
    obtain ⟨i, hi, rfl, rfl, rfl⟩ := hrel
    have hle : (es.take i).countP (isKind k) ≤ 1000 := Nat.le_trans List.countP_le_length (by simp; omega)
    by_cases hlt : i < n
    · obtain ⟨b, off, rfl, hb, q0, _⟩ := qevAt hr hl hlt
      have hT := Lib.hid (count_take es k i (by omega))
      have hI1 : (i : Int) < (n : Int) := by omega
      have hI0 : (0 : Int) ≤ (i : Int) := by omega
      have i1 : IntKind.i64.wrap ((i : Int) + 1) = (i : Int) + 1 := IntWalk.i64_in _ (by omega)
      obtain ⟨m, hm⟩ : ∃ m, (es.take i).countP (isKind k) = m := ⟨_, rfl⟩
      have HT := Lib.hid (show (es.take (i + 1)).countP (isKind k) = m + (if (es.getD i .zero0).kind = k then 1 else 0) from by rw [hT.out, hm])
      rw [hm] at hle ⊢
      have i2 : IntKind.i64.wrap ((m : Int) + 1) = (m : Int) + 1 := IntWalk.i64_in _ (by omega)
      generalize (es.getD i .zero0).kind = x at *
      clear hT hm hr
      by_cases hx : x = k
      · have hx1 : (x == k) = true := by simp [hx]
        subst hx
        go_wp2_with fail
        go_roundw
        case rel => exact ⟨i + 1, by omega, by go_num, by rw [HT.out, if_pos rfl]; go_num, trivial⟩
        case measure => simp [intOf]; omega
      · have hx1 : (x == k) = false := by simp [hx]
        go_wp2_with fail
        go_roundw
        case rel => exact ⟨i + 1, by omega, by go_num, by rw [HT.out, if_neg hx]; rfl, trivial⟩
        case measure => simp [intOf]; omega
    · have hin : i = n := by omega
      have htk : es.take i = es := List.take_of_length_le (by omega)
      have hI1 : ¬ (i : Int) < (n : Int) := by omega
      rw [htk]
      clear hr
      go_wp2_with fail
      go_ret
      exact ⟨rfl, rfl⟩

end Go.Proofs.Ytkolmpeghnkjkaa
