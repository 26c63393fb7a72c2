/- Queues: cells, what a queue must be, 'message'. -/
import Derived.Test.YtjgbkicnagcmdaaWq
import Derived.Test.YtjgbkicnagcmdaaView
import Derived.Laws.Rows
import Derived.Maps.OwnSet
namespace Go.Proofs.Ytjgbkicnagcmdaa
open Go.RowKit

/-- the cells of a queue -/
def qCells (ep nx gv : Int) (vr vl : Value) (t : Nat → Int) (f : Nat → Nat → Bool) : Array Value :=
  #[.int .i64 ep, .int .i64 nx, .int .i64 gv, vr, vl,
    .int .i64 (t 0), .bool (f 0 0), .bool (f 0 1), .bool (f 0 2), .bool (f 0 3), .bool (f 0 4), .bool (f 0 5), .bool (f 0 6), .bool (f 0 7),
    .int .i64 (t 1), .bool (f 1 0), .bool (f 1 1), .bool (f 1 2), .bool (f 1 3), .bool (f 1 4), .bool (f 1 5), .bool (f 1 6), .bool (f 1 7),
    .int .i64 (t 2), .bool (f 2 0), .bool (f 2 1), .bool (f 2 2), .bool (f 2 3), .bool (f 2 4), .bool (f 2 5), .bool (f 2 6), .bool (f 2 7),
    .int .i64 (t 3), .bool (f 3 0), .bool (f 3 1), .bool (f 3 2), .bool (f 3 3), .bool (f 3 4), .bool (f 3 5), .bool (f 3 6), .bool (f 3 7)]
/-- the windows of a queue -/
def wCells (t : Nat → Int) (f : Nat → Nat → Bool) : Array Value := ((qCells 0 0 0 (.bool true) (.bool true) t f).toList.drop 5).toArray
theorem q_size : (Try.prog.info? 46).map (·.size) = some 41 := by kernel_rfl
theorem q_under : Try.prog.underlying 46 = some (.struct (Try.prog.fieldsOf 46)) := by kernel_rfl

theorem msg_ok (cs : Array Value) (nx no body : Int) (w : World) (hx : cs[1]? = some (.int .i64 nx)) (h0 : 0 ≤ no) (h1 : no < nx) (h2 : 0 ≤ body) (h3 : body ≤ 1000000) :
    Calls Try.prog 51 #[.agg cs, .agg #[.int .i64 no, .int .i64 body]] w (Puts w (.bool true)) := by
  have E := (Blk.new w 46 cs).alloc (.cells #[.int .i64 no, .int .i64 body] 91)
  have x1 := (E.cell 1).trans hx
  have bel := ((Below.refl w.heap.size w).alloc (Nat.le_refl _) (.cells cs 46)).alloc (by simp) (.cells #[.int .i64 no, .int .i64 body] 91)
  have hx' := Lib.hid hx
  clear hx
  go_enter Try.func51, Try.ntmps51
  go_wp2_with fail
  go_ret
  exact ⟨rfl, bel⟩

/-- a part of a row is read as a whole -/
theorem wp_load_part {P : Program} {o : Oper} {a : Act} {w : World} {K : Act → World → Prop} {Q : Exit → Act → World → Prop} (ty : TypeId) (x : Operand) (ho : o.op = .load ty x)
    (g p m : Nat) (hx : a.eval x = .pointer (some ⟨g, p, none⟩)) (t : TypeId) (cs : Array Value) (d : TypeDesc) (hg : Blk w g t cs)
    (hu : P.underlying ty = some d) (hd : (match d with | .struct _ | .array _ _ => true | _ => false) = true) (hi : (P.info? ty).map (·.size) = some m) (hm : p + m ≤ cs.size)
    (h : K (a.put o.dst (.agg (cs.extract p (p + m)))) w) : o.wp P a w K Q := by
  have hl : (loadCells ⟨g, p, none⟩ (cs.extract p (p + m)).toList.length).run P w = .ok (cs.extract p (p + m)).toList.toArray w :=
    run_loadCells_list (P := P) w ⟨g, p, none⟩ (cs.extract p (p + m)).toList (fun j v hv => by
      have hadd : (⟨g, p, none⟩ : Addr).add j = ⟨g, p + j, none⟩ := by unfold Addr.add; split <;> simp_all
      rw [hadd, hg.cell]
      have hv2 : (cs.extract p (p + m))[j]? = some v := by rw [← Array.getElem?_toList]; exact hv
      rw [Array.getElem?_extract] at hv2
      split at hv2
      · exact hv2
      · cases hv2)
  have hz : (cs.extract p (p + m)).toList.length = m := by simp; omega
  rw [hz] at hl
  cases hq : P.info? ty with
  | none => simp [hq] at hi
  | some i =>
    have hs : i.size = m := by simpa [hq] using hi
    have hagg : (isAgg ty).run P w = .ok true w := by
      unfold isAgg
      rw [Sem.run_bind, run_underlying hu w]
      cases d <;> simp_all
    have hrun : (loadVar ty ⟨g, p, none⟩).run P w = .ok (.agg (cs.extract p (p + m))) w := by
      simp only [Array.toArray_toList] at hl
      simp [loadVar, Sem.run_bind, hagg, sizeOf, typeInfo, hq, hs, hl]
    unfold Oper.wp execOp
    simp only [ho, hx, Instr.loadAt, Instr.sureAddr, Sem.run_bind, Sem.run_pure, Result.andThen_ok, hrun]
    exact h
theorem wpList_load_part {P : Program} {ops : Array Oper} {rest : List Oper} {o : Oper} {a : Act} {w : World} {Q : Exit → Act → World → Prop} (hgd : o.guard = none) (ty : TypeId) (x : Operand) (ho : o.op = .load ty x)
    (g p m : Nat) (hx : a.eval x = .pointer (some ⟨g, p, none⟩)) (t : TypeId) (cs : Array Value) (d : TypeDesc) (hg : Blk w g t cs)
    (hu : P.underlying ty = some d) (hd : (match d with | .struct _ | .array _ _ => true | _ => false) = true) (hi : (P.info? ty).map (·.size) = some m) (hm : p + m ≤ cs.size)
    (h : wpList P ops Q rest (a.put o.dst (.agg (cs.extract p (p + m)))) w) : wpList P ops Q (o :: rest) a w :=
  wpList_plain hgd fun _ hK => wp_load_part ty x ho g p m hx t cs d hg hu hd hi hm (hK _ _ h)

/-- messages, leases in memory -/
def msgCells (rd : List (Int × Int)) : List Value := rowCells (rd.map fun m => [m.1, m.2])
def lsCells (ep : Int) (ls : List (Int × Int × Int)) : List Value := rowCells (ls.map fun l => [ep, l.1, l.2.1, l.2.2])
def prevN {α : Type} (no : α → Int) (l : List α) (d : α) (i : Nat) : Int := if i = 0 then -1 else no (l.getD (i - 1) d)
theorem rowAt {w : World} {B n s i : Nat} {A : Option Addr} {rows : List (List Int)} (hr : Reads w B s A n (rowCells rows)) (hl : rows.length = n) (hs : ∀ r ∈ rows, r.length = s) (h0 : 0 < s) (hi : i < n) {r : List Int} (hri : rows[i]? = some r) :
    ∃ b off, A = some ⟨b, off, none⟩ ∧ b < B ∧ ∀ j z, r[j]? = some z → w.cell? ⟨b, off + i * s + j, none⟩ = some (.int .i64 z) := by
  obtain ⟨b, off, rfl, hb, hc⟩ := hr.plain (by omega) h0
  refine ⟨b, off, rfl, hb, fun j z hz => ?_⟩
  have hj : j < s := by
    have := hs r (List.mem_of_getElem? hri)
    rcases Nat.lt_or_ge j r.length with h | h
    · omega
    · rw [List.getElem?_eq_none h] at hz; cases hz
  rw [Nat.add_assoc]
  refine hc _ _ ?_
  rw [rowCells_at s rows hs i j r hri hj, hz]
  rfl
theorem msgAt {w : World} {B n i : Nat} {A : Option Addr} {rd : List (Int × Int)} (hr : Reads w B 2 A n (msgCells rd)) (hl : rd.length = n) (hi : i < n) :
    ∃ b off, A = some ⟨b, off, none⟩ ∧ b < B ∧ w.cell? ⟨b, off + i * 2, none⟩ = some (.int .i64 (rd.getD i (0, 0)).1) ∧ w.cell? ⟨b, off + i * 2 + 1, none⟩ = some (.int .i64 (rd.getD i (0, 0)).2) := by
  have hr1 : rd[i]? = some (rd.getD i (0, 0)) := by rw [List.getElem?_eq_getElem (show i < rd.length by omega)]; simp [List.getD, List.getElem?_eq_getElem (show i < rd.length by omega)]
  obtain ⟨b, off, h1, h2, h3⟩ := rowAt hr (by simpa using hl) (fun r hr => by obtain ⟨x, _, rfl⟩ := List.mem_map.1 hr; rfl) (by omega) hi (r := [(rd.getD i (0, 0)).1, (rd.getD i (0, 0)).2]) (by rw [List.getElem?_map, hr1]; rfl)
  exact ⟨b, off, h1, h2, h3 0 _ rfl, h3 1 _ rfl⟩
theorem lsAt {w : World} {B n i : Nat} {A : Option Addr} {ep : Int} {ls : List (Int × Int × Int)} (hr : Reads w B 4 A n (lsCells ep ls)) (hl : ls.length = n) (hi : i < n) :
    ∃ b off, A = some ⟨b, off, none⟩ ∧ b < B ∧ w.cell? ⟨b, off + i * 4, none⟩ = some (.int .i64 ep) ∧ w.cell? ⟨b, off + i * 4 + 1, none⟩ = some (.int .i64 (ls.getD i (0, 0, 0)).1) ∧
      w.cell? ⟨b, off + i * 4 + 2, none⟩ = some (.int .i64 (ls.getD i (0, 0, 0)).2.1) ∧ w.cell? ⟨b, off + i * 4 + 3, none⟩ = some (.int .i64 (ls.getD i (0, 0, 0)).2.2) := by
  have hr1 : ls[i]? = some (ls.getD i (0, 0, 0)) := by rw [List.getElem?_eq_getElem (show i < ls.length by omega)]; simp [List.getD, List.getElem?_eq_getElem (show i < ls.length by omega)]
  obtain ⟨b, off, h1, h2, h3⟩ := rowAt hr (by simpa using hl) (fun r hr => by obtain ⟨x, _, rfl⟩ := List.mem_map.1 hr; rfl) (by omega) hi (r := [ep, (ls.getD i (0, 0, 0)).1, (ls.getD i (0, 0, 0)).2.1, (ls.getD i (0, 0, 0)).2.2]) (by rw [List.getElem?_map, hr1]; rfl)
  exact ⟨b, off, h1, h2, h3 0 _ rfl, h3 1 _ rfl, h3 2 _ rfl, h3 3 _ rfl⟩

/-- a queue that may be -/
structure QOk (ep nx gv : Int) (rd : List (Int × Int)) (ls : List (Int × Int × Int)) (t : Nat → Int) (S : Nat → Int → Bool) : Prop where
  e0 : 0 ≤ ep
  e1 : ep ≤ 1048576
  n0 : 0 ≤ nx
  n1 : nx ≤ 1073741824
  g0 : 0 ≤ gv
  g1 : gv ≤ 1073741824
  len : rd.length + ls.length ≤ 500
  win : ∀ i, i < 4 → WOk (t i) (S i)
  rds : ∀ i, i < rd.length → prevN Prod.fst rd (0, 0) i < (rd.getD i (0, 0)).1 ∧ 0 ≤ (rd.getD i (0, 0)).1 ∧ (rd.getD i (0, 0)).1 < nx ∧ 0 ≤ (rd.getD i (0, 0)).2 ∧ (rd.getD i (0, 0)).2 ≤ 1000000
  lss : ∀ i, i < ls.length → prevN Prod.fst ls (0, 0, 0) i < (ls.getD i (0, 0, 0)).1 ∧ (ls.getD i (0, 0, 0)).1 < gv ∧ 0 ≤ (ls.getD i (0, 0, 0)).2.1 ∧ (ls.getD i (0, 0, 0)).2.1 < nx ∧ 0 ≤ (ls.getD i (0, 0, 0)).2.2 ∧ (ls.getD i (0, 0, 0)).2.2 ≤ 1000000
  apart : (rd.map Prod.fst ++ ls.map fun l => l.2.1).Nodup

/-- a set that a map holds -/
structure SetIs (D : DataW Unit) (keys : List Int) : Prop where
  tidy : Maps.Tidy D
  size : Maps.size D = keys.length
  has : ∀ x, Maps.has D (.int .i64 x) = decide (x ∈ keys)
theorem int_key (x : Int) : WideAt.IsKeyLit (.int .i64 x) := by unfold WideAt.IsKeyLit; trivial
theorem SetIs.nil : SetIs (.map []) [] := ⟨Maps.tidy_empty, rfl, fun x => by simp [Maps.has_eq]⟩
theorem SetIs.add {D : DataW Unit} {keys : List Int} (h : SetIs D keys) (x : Int) (hx : x ∉ keys) : SetIs (D.put (.int .i64 x) (.agg [])) (keys ++ [x]) := by
  refine ⟨h.tidy.put (int_key x) _, ?_, fun y => ?_⟩
  · rw [Maps.size_put h.tidy, h.has, if_neg (by simpa using hx), h.size]
    simp
  · by_cases e : y = x
    · subst e
      rw [Maps.has_put_same h.tidy.isMap (int_key y)]
      simp
    · rw [Maps.has_put_other (fun e2 => e (by injection e2)), h.has]
      simp [e]

end Go.Proofs.Ytjgbkicnagcmdaa
