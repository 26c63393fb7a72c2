/- Closed facts on the types that queues are made of. -/
import Derived.Test.YtjakmpkfniangaaDoorProg
import Derived.Test.YtjakmpkfniangaaDoorSt
namespace Go.Proofs.YtjakmpkfniangaaDoor
open Go.RowKit

def isRowB : Option TypeDesc → Bool
  | some (.struct _) => true
  | some (.array _ _) => true
  | _ => false
def isScB : Option TypeDesc → Bool
  | some (.struct _) => false
  | some (.array _ _) => false
  | none => false
  | _ => true
section
variable {P : Program} {ops : Array Oper} {rest : List Oper} {o : Oper} {a : Act} {w0 w : World} {I J : List It} {Q : Exit → Act → World → Prop}
theorem isRow_to (d : Option TypeDesc) : isRowB d = true → (match d with | some (.struct _) | some (.array _ _) => true | _ => false) = true := by
  intro h
  cases d with
  | none => cases h
  | some d => cases d <;> first | rfl | cases h
theorem isSc_to (d : Option TypeDesc) : isScB d = true → (match d with | some (.struct _) | some (.array _ _) | none => true | _ => false) = false := by
  intro h
  cases d with
  | none => cases h
  | some d => cases d <;> first | rfl | cases h
theorem ldRb {g n : Nat} {t : TypeId} {cs : Array Value} (H : St w0 w I) (hgd : o.guard = none) (ty : TypeId) (x : Operand) (ho : o.op = .load ty x) (hx : a.eval x = .pointer (some ⟨g, 0, none⟩)) [hm : HasB I g t cs] (hu : isRowB (P.underlying ty) = true) (hi : (P.info? ty).map (·.size) = some n) (hs : cs.size = n)
    (h : wpList P ops Q rest (a.put o.dst (.agg cs)) w) : wpList P ops Q (o :: rest) a w :=
  wpList_load_st H hgd ty x ho hx (isRow_to _ hu) (by rw [hi, hs]) h
theorem ldRGb {g n : Nat} {t : TypeId} {cs : Array Value} (H : St w0 w I) (hw : Region.wanted o (yielded ops a.tmps) = true) (ty : TypeId) (x : Operand) (ho : o.op = .load ty x) (hx : a.eval x = .pointer (some ⟨g, 0, none⟩)) [hm : HasB I g t cs] (hu : isRowB (P.underlying ty) = true) (hi : (P.info? ty).map (·.size) = some n) (hs : cs.size = n)
    (h : wpList P ops Q rest (a.put o.dst (.agg cs)) w) : wpList P ops Q (o :: rest) a w :=
  wpList_loadPart_stG H hw ty x ho hx (isRow_to _ hu) hi (by rw [Nat.ble_eq]; omega) cs (by rw [Nat.zero_add, ← hs]; exact Array.extract_size) h
theorem ldSb {g j : Nat} {t : TypeId} {cs : Array Value} {v : Value} (H : St w0 w I) (hgd : o.guard = none) (ty : TypeId) (x : Operand) (ho : o.op = .load ty x) (hx : a.eval x = .pointer (some ⟨g, j, none⟩)) [hm : HasB I g t cs] (hu : isScB (P.underlying ty) = true) (hv : cs.toList[j]? = some v)
    (h : wpList P ops Q rest (a.put o.dst v) w) : wpList P ops Q (o :: rest) a w :=
  wpList_load1_st H hgd ty x ho hx (isSc_to _ hu) hv h
theorem ldSGb {g j : Nat} {t : TypeId} {cs : Array Value} {v : Value} (H : St w0 w I) (hw : Region.wanted o (yielded ops a.tmps) = true) (ty : TypeId) (x : Operand) (ho : o.op = .load ty x) (hx : a.eval x = .pointer (some ⟨g, j, none⟩)) [hm : HasB I g t cs] (hu : isScB (P.underlying ty) = true) (hv : cs.toList[j]? = some v)
    (h : wpList P ops Q rest (a.put o.dst v) w) : wpList P ops Q (o :: rest) a w :=
  wpList_load1_stG H hw ty x ho hx (isSc_to _ hu) hv h
end
/-- a type that is laid as a row of n cells -/
class RowTy (t : TypeId) (n : outParam Nat) : Prop where
  u : isRowB (Tryd.prog.underlying t) = true
  s : (Tryd.prog.info? t).map (·.size) = some n
/-- a type of one cell -/
class ScTy (t : TypeId) : Prop where
  u : isScB (Tryd.prog.underlying t) = true
  s : (Tryd.prog.info? t).map (·.size) = some 1
section
variable {ops : Array Oper} {rest : List Oper} {o : Oper} {a : Act} {w0 w : World} {I J : List It} {Q : Exit → Act → World → Prop}
theorem ldR {g n : Nat} {t : TypeId} {cs : Array Value} (H : St w0 w I) (hgd : o.guard = none) (ty : TypeId) (x : Operand) (ho : o.op = .load ty x) (hx : a.eval x = .pointer (some ⟨g, 0, none⟩)) [hm : HasB I g t cs] [r : RowTy ty n] (hs : cs.size = n)
    (h : wpList Tryd.prog ops Q rest (a.put o.dst (.agg cs)) w) : wpList Tryd.prog ops Q (o :: rest) a w :=
  ldRb H hgd ty x ho hx r.u r.s hs h
theorem ldRG {g n : Nat} {t : TypeId} {cs : Array Value} (H : St w0 w I) (hw : Region.wanted o (yielded ops a.tmps) = true) (ty : TypeId) (x : Operand) (ho : o.op = .load ty x) (hx : a.eval x = .pointer (some ⟨g, 0, none⟩)) [hm : HasB I g t cs] [r : RowTy ty n] (hs : cs.size = n)
    (h : wpList Tryd.prog ops Q rest (a.put o.dst (.agg cs)) w) : wpList Tryd.prog ops Q (o :: rest) a w :=
  ldRGb H hw ty x ho hx r.u r.s hs h
theorem ldS {g j : Nat} {t : TypeId} {cs : Array Value} {v : Value} (H : St w0 w I) (hgd : o.guard = none) (ty : TypeId) (x : Operand) (ho : o.op = .load ty x) (hx : a.eval x = .pointer (some ⟨g, j, none⟩)) [hm : HasB I g t cs] [r : ScTy ty] (hv : cs.toList[j]? = some v)
    (h : wpList Tryd.prog ops Q rest (a.put o.dst v) w) : wpList Tryd.prog ops Q (o :: rest) a w :=
  ldSb H hgd ty x ho hx r.u hv h
theorem ldSG {g j : Nat} {t : TypeId} {cs : Array Value} {v : Value} (H : St w0 w I) (hw : Region.wanted o (yielded ops a.tmps) = true) (ty : TypeId) (x : Operand) (ho : o.op = .load ty x) (hx : a.eval x = .pointer (some ⟨g, j, none⟩)) [hm : HasB I g t cs] [r : ScTy ty] (hv : cs.toList[j]? = some v)
    (h : wpList Tryd.prog ops Q rest (a.put o.dst v) w) : wpList Tryd.prog ops Q (o :: rest) a w :=
  ldSGb H hw ty x ho hx r.u hv h
theorem stR {g n : Nat} {t : TypeId} {old cells : Array Value} (H : St w0 w I) (hgd : o.guard = none) (ty : TypeId) (x y : Operand) (ho : o.op = .store ty x y) (hx : a.eval x = .pointer (some ⟨g, 0, none⟩)) (hy : a.eval y = .agg cells) [U : UpdB I g t old cells J] [r : RowTy ty n] (hs : cells.size = n)
    (hold : old.size = cells.size) (h1 : cells.all (·.oneCell') = true) (h : ∀ w', St w0 w' J → wpList Tryd.prog ops Q rest (a.put o.dst undef) w') : wpList Tryd.prog ops Q (o :: rest) a w :=
  wpList_store_st H hgd ty x y ho hx hy (by rw [r.s, hs]) hold h1 h
theorem stS {g j : Nat} {t : TypeId} {old : Array Value} (H : St w0 w I) (hgd : o.guard = none) (ty : TypeId) (x y : Operand) (ho : o.op = .store ty x y) (hx : a.eval x = .pointer (some ⟨g, j, none⟩)) (v : Value) (hy : a.eval y = v) (hv : v.cells = #[v]) [U : UpdB I g t old (old.setIfInBounds j v) J] [r : ScTy ty]
    (hold : Nat.blt j old.size = true) (h1 : v.oneCell' = true) (h : ∀ w', St w0 w' J → wpList Tryd.prog ops Q rest (a.put o.dst undef) w') : wpList Tryd.prog ops Q (o :: rest) a w :=
  wpList_store1_st H hgd ty x y ho hx v hy hv r.s hold h1 h
end
theorem row_Event : (match Tryd.prog.underlying 39 with | some (.struct _) | some (.array _ _) => true | _ => false) = true := by kernel_rfl
instance rowTy_Event : RowTy 39 6 := ⟨by kernel_rfl, by kernel_rfl⟩
theorem row_Deed : (match Tryd.prog.underlying 76 with | some (.struct _) | some (.array _ _) => true | _ => false) = true := by kernel_rfl
instance rowTy_Deed : RowTy 76 4 := ⟨by kernel_rfl, by kernel_rfl⟩
theorem sc_int : (match Tryd.prog.underlying 3 with | some (.struct _) | some (.array _ _) | none => true | _ => false) = false := by kernel_rfl
theorem s1_int : (Tryd.prog.info? 3).map (·.size) = some 1 := by kernel_rfl
instance scTy_int : ScTy 3 := ⟨by kernel_rfl, s1_int⟩
theorem sc_bool : (match Tryd.prog.underlying 4 with | some (.struct _) | some (.array _ _) | none => true | _ => false) = false := by kernel_rfl
theorem s1_bool : (Tryd.prog.info? 4).map (·.size) = some 1 := by kernel_rfl
instance scTy_bool : ScTy 4 := ⟨by kernel_rfl, s1_bool⟩
theorem sc_Errno : (match Tryd.prog.underlying 23 with | some (.struct _) | some (.array _ _) | none => true | _ => false) = false := by kernel_rfl
theorem s1_Errno : (Tryd.prog.info? 23).map (·.size) = some 1 := by kernel_rfl
instance scTy_Errno : ScTy 23 := ⟨by kernel_rfl, s1_Errno⟩
end Go.Proofs.YtjakmpkfniangaaDoor
