/- Queues: 'count'. -/
import Derived.Test.YtjgbkicnagcmdaaPl
namespace Go.Proofs.Ytjgbkicnagcmdaa
open Go.RowKit

def Ev.zero0 : Ev := ⟨0, 0, 0, 0, 0, 0⟩
theorem qevAt {w : World} {B n i : Nat} {A : Option Addr} {es : List Ev} (hr : Reads w B 6 A n (qevCells es)) (hl : es.length = n) (hi : i < n) :
    ∃ b off, A = some ⟨b, off, none⟩ ∧ b < B ∧ w.cell? ⟨b, off + i * 6, none⟩ = some (.int .i64 (es.getD i .zero0).kind) ∧ w.cell? ⟨b, off + i * 6 + 1, none⟩ = some (.int .i64 (es.getD i .zero0).prod) ∧
      w.cell? ⟨b, off + i * 6 + 2, none⟩ = some (.int .i64 (es.getD i .zero0).id) ∧ w.cell? ⟨b, off + i * 6 + 3, none⟩ = some (.int .i64 (es.getD i .zero0).body) ∧
      w.cell? ⟨b, off + i * 6 + 4, none⟩ = some (.int .i64 (es.getD i .zero0).hep) ∧ w.cell? ⟨b, off + i * 6 + 5, none⟩ = some (.int .i64 (es.getD i .zero0).hno) := by
  have hr1 : es[i]? = some (es.getD i .zero0) := by rw [List.getElem?_eq_getElem (show i < es.length by omega)]; simp [List.getD, List.getElem?_eq_getElem (show i < es.length by omega)]
  obtain ⟨b, off, h1, h2, h3⟩ := rowAt hr (by simpa using hl) (fun r hr => by obtain ⟨x, _, rfl⟩ := List.mem_map.1 hr; rfl) (by omega) hi (r := qevRow (es.getD i .zero0)) (by rw [List.getElem?_map, hr1]; rfl)
  exact ⟨b, off, h1, h2, h3 0 _ rfl, h3 1 _ rfl, h3 2 _ rfl, h3 3 _ rfl, h3 4 _ rfl, h3 5 _ rfl⟩
def isKind (k : Int) (e : Ev) : Bool := e.kind == k
theorem count_take (es : List Ev) (k : Int) (i : Nat) (hi : i < es.length) : (es.take (i + 1)).countP (isKind k) = (es.take i).countP (isKind k) + (if (es.getD i .zero0).kind = k then 1 else 0) := by
  have hr1 : es[i]? = some (es.getD i .zero0) := by rw [List.getElem?_eq_getElem hi]; simp [List.getD, List.getElem?_eq_getElem hi]
  rw [List.take_add_one, List.countP_append, hr1]
  simp [List.countP_cons, isKind]

end Go.Proofs.Ytjgbkicnagcmdaa
