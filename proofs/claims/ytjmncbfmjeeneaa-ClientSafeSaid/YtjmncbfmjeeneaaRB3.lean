/- Regions in whatever order: one operation at a time; whole rows. No program in sight. And more of what the proof stands on. -/
import Derived.Deep.RegionHeld3
import Derived.Laws.Rows
import Derived.Laws.Tables
import Derived.Deep.QuietTactic
import Derived.BigQuiet
import Derived.Test.YtjmncbfmjeeneaaProg
import Derived.Maps.OwnSet
import Derived.OwnWalk
import Derived.Deep.DeepCutAuto
import Derived.BigRegion
import Derived.Deep.RegionLaw
import Derived.Test.YtjmncbfmjeeneaaRB2

namespace Go.Proofs.Ytjmncbfmjeeneaa
open Go.RowKit

section
variable {P : Program} {l : List Oper} {Q : Exit → Act → World → Prop} {md : Region.Mode} {S : World → Prop}

theorem at_of_drop {i : Nat} {oi : Oper} {rest : List Oper} (hi : l.drop i = oi :: rest) : l.toArray[i]? = some oi := by
  have h : (l.drop i)[0]? = some oi := by rw [hi]; rfl
  simpa using h

/-- Operation number i is taken first. -/
theorem takeH {i fuel : Nat} {oi : Oper} {rest : List Oper} {v : Value} {listed : Array Bool} {a : Act} {w : World} (hi : l.drop i = oi :: rest)
    (hs : Region.noSelect l.toArray = true) (hf : Region.free md l.toArray listed i = true) (hr : (Region.ready md l.toArray listed).contains i = true)
    (hQ : ∀ c a w, Q (.panic c) (a.put oi.dst v) w → Q (.panic c) a w) (hy : YieldsIf P l.toArray S oi v a) (hS : S w)
    (h : wpAnyH P md l.toArray Q S fuel (listed.setIfInBounds i true) (a.put oi.dst v) w) : wpAnyH P md l.toArray Q S (fuel + 1) listed a w :=
  wpAnyH_take (at_of_drop hi) hs hf hr hQ hy hS h

/-- Operation number i alone may come up. -/
theorem oneH {i fuel : Nat} {oi : Oper} {rest : List Oper} {listed : Array Bool} {a : Act} {w : World} (hi : l.drop i = oi :: rest) (hr : Region.ready md l.toArray listed = [i]) (hg : oi.guard = none)
    (h : ∀ K' : Act → World → Prop, (∀ a w, S w → (S w → wpAnyH P md l.toArray Q S fuel (listed.setIfInBounds i true) a w) → K' a w) → Oper.wp P oi a w K' Q) : wpAnyH P md l.toArray Q S (fuel + 1) listed a w :=
  wpAnyH_ready hr (by simp) (AllReadyH.cons (at_of_drop hi) (fun K' hK => by
    rw [if_pos (by simp [Region.wanted, hg])]
    exact h K' hK.out) AllReadyH.nil)
end

section
variable {P : Program} {ops : Array Oper} {S : World → Prop}
/-- a whole row is read -/
theorem yieldsIf_load_row {op : Oper} {a : Act} (hw : Region.wanted op (yielded ops a.tmps) = true) (ty : TypeId) (x : Operand) (ho : op.op = .load ty x)
    (g : Nat) (hx : a.eval x = .pointer (some ⟨g, 0, none⟩)) (t : TypeId) (cs : Array Value) (d : TypeDesc) (hS : ∀ w, S w → Blk w g t cs)
    (hu : P.underlying ty = some d) (hd : (match d with | .struct _ | .array _ _ => true | _ => false) = true) (hi : (P.info? ty).map (·.size) = some cs.size) : YieldsIf P ops S op (.agg cs) a :=
  .inl ⟨hw, fun w h => by
    have hr := run_loadVar_row w g t ty cs (0, 0) d (hS w h) hu hd hi
    unfold execOp
    simp only [ho, hx, Instr.loadAt, Instr.sureAddr, Sem.run_bind, Sem.run_pure, Result.andThen_ok, hr]⟩
end

theorem Blk.setRow_ {w : World} {g : Nat} {t : TypeId} {old cs : Array Value} (h : Blk w g t old) : Blk (w.setRow g cs) g t cs := setRow_heap w g old cs t (0, 0) h
theorem Blk.setRow_far {w : World} {g g' : Nat} {t : TypeId} {cs ds : Array Value} (h : Blk w g' t cs) (hne : g' ≠ g) : Blk (w.setRow g ds) g' t cs := (setRow_other w g g' ds hne).trans h
theorem below_setRow {B g : Nat} {a w : World} {cs : Array Value} (h : Below B a w) (hg : B ≤ g) : Below B a (w.setRow g cs) := h.trans ⟨rfl, rfl, rfl, by simp, fun k hk => setRow_other _ _ _ _ (by omega)⟩

end Go.Proofs.Ytjmncbfmjeeneaa

namespace Go.Proofs.Ytjmncbfmjeeneaa
open Go.RowKit

section
variable {P : Program}
theorem run_alloc_row (ty : TypeId) (zs : Array Value) (w : World) (hz : (P.info? ty).bind (·.zero) = some (.agg zs)) :
    (Instr.alloc ty true (.tuple #[])).run P w = .ok (.pointer (some ⟨w.heap.size, 0, none⟩)) (w.alloc (.cells zs ty)) := by
  cases hq : P.info? ty with
  | none => simp [hq] at hz
  | some i =>
    have hz' : i.zero = some (.agg zs) := by simpa [hq] using hz
    have hv : (Go.zeroValue ty).run P w = .ok (.agg zs) w := by simp [Go.zeroValue, Sem.run_bind, typeInfo, hq, hz']
    unfold Instr.alloc
    simp [Sem.run_bind, hv, newVar, newRow, Value.cells, go_sem]
theorem wp_alloc_row {o : Oper} {a : Act} {w : World} {K : Act → World → Prop} {Q : Exit → Act → World → Prop} (ty : TypeId) (ho : o.op = .alloc ty) (zs : Array Value) (hz : (P.info? ty).bind (·.zero) = some (.agg zs))
    (h : ∀ w', Blk w' w.heap.size ty zs → w.grownBy w' none → w'.heap.size = w.heap.size + 1 → K (a.put o.dst (.pointer (some ⟨w.heap.size, 0, none⟩))) w') : o.wp P a w K Q := by
  unfold Oper.wp execOp
  simp only [ho, Sem.run_bind, run_alloc_row ty zs w hz, Result.andThen_ok, Sem.run_pure]
  exact h _ (Blk.new w ty zs) ⟨rfl, rfl, rfl, by simp, fun k hk _ => Below.heap_alloc w _ k hk⟩ (by simp)
theorem wpList_alloc_row {ops : Array Oper} {rest : List Oper} {o : Oper} {a : Act} {w : World} {Q : Exit → Act → World → Prop} (hgd : o.guard = none) (ty : TypeId) (ho : o.op = .alloc ty) (zs : Array Value) (hz : (P.info? ty).bind (·.zero) = some (.agg zs))
    (h : ∀ w', Blk w' w.heap.size ty zs → w.grownBy w' none → w'.heap.size = w.heap.size + 1 → wpList P ops Q rest (a.put o.dst (.pointer (some ⟨w.heap.size, 0, none⟩))) w') : wpList P ops Q (o :: rest) a w :=
  wpList_plain hgd fun _ hK => wp_alloc_row ty ho zs hz fun w' h1 h2 h3 => hK _ _ (h w' h1 h2 h3)
theorem setRow_grown {w : World} {g : Nat} {cs : Array Value} : w.grownBy (w.setRow g cs) (some g) := ⟨rfl, rfl, rfl, by simp, fun k _ hk => setRow_other _ _ _ _ (fun e => hk (by rw [e]))⟩
theorem wp_store_rowQ {o : Oper} {a : Act} {w : World} {K : Act → World → Prop} {Q : Exit → Act → World → Prop} (ty : TypeId) (x y : Operand) (ho : o.op = .store ty x y)
    (g : Nat) (cells : Array Value) (hx : a.eval x = .pointer (some ⟨g, 0, none⟩)) (hy : a.eval y = .agg cells) (t : TypeId) (old : Array Value) (hg : Blk w g t old) (hi : (P.info? ty).map (·.size) = some cells.size)
    (hold : old.size = cells.size) (h1 : cells.all (·.oneCell') = true)
    (h : ∀ w', Blk w' g t cells → w.grownBy w' (some g) → w'.heap.size = w.heap.size → K (a.put o.dst undef) w') : o.wp P a w K Q :=
  wp_store_row ty x y ho g cells hx hy t old hg hi hold h1 (h _ hg.setRow_ setRow_grown (by simp))
theorem wpList_store_rowQ {ops : Array Oper} {rest : List Oper} {o : Oper} {a : Act} {w : World} {Q : Exit → Act → World → Prop} (hgd : o.guard = none) (ty : TypeId) (x y : Operand) (ho : o.op = .store ty x y)
    (g : Nat) (cells : Array Value) (hx : a.eval x = .pointer (some ⟨g, 0, none⟩)) (hy : a.eval y = .agg cells) (t : TypeId) (old : Array Value) (hg : Blk w g t old) (hi : (P.info? ty).map (·.size) = some cells.size)
    (hold : old.size = cells.size) (h1 : cells.all (·.oneCell') = true)
    (h : ∀ w', Blk w' g t cells → w.grownBy w' (some g) → w'.heap.size = w.heap.size → wpList P ops Q rest (a.put o.dst undef) w') : wpList P ops Q (o :: rest) a w :=
  wpList_plain hgd fun _ hK => wp_store_rowQ ty x y ho g cells hx hy t old hg hi hold h1 fun w' h1 h2 h3 => hK _ _ (h w' h1 h2 h3)
end

end Go.Proofs.Ytjmncbfmjeeneaa

namespace Go.Proofs.Ytjmncbfmjeeneaa
open Go.RowKit

inductive It where
  | bl (g : Nat) (t : TypeId) (cs : Array Value)
  | ow (e : TypeId) (size : Nat) (v : Value) (n : Nat) (xs : List Value)
  | rd (size : Nat) (A : Option Addr) (n : Nat) (xs : List Value)
  | raw (g : Nat) (o : Obj)
def It.area : It → Option Nat
  | .bl g _ _ => some g
  | .ow _ _ v _ _ => v.ownBlock
  | .rd _ A n _ => if n = 0 then none else A.map (·.block)
  | .raw g _ => some g
def It.wr : It → Bool
  | .rd .. => false
  | _ => true
def It.holds (b0 : Nat) (w : World) : It → Prop
  | .bl g t cs => b0 ≤ g ∧ Blk w g t cs
  | .ow e s v n xs => w.ownsRow b0 e s v n xs
  | .rd s A n xs => Reads w w.heap.size s A n xs
  | .raw g o => b0 ≤ g ∧ w.heap[g]? = some o
def It.off (a b : It) : Prop := (a.wr = true ∨ b.wr = true) → ∀ g, a.area = some g → b.area ≠ some g
structure St (w0 w : World) (I : List It) : Prop where
  bel : Below w0.heap.size w0 w
  all : ∀ x ∈ I, x.holds w0.heap.size w
  apart : I.Pairwise It.off

theorem It.lt {b0 g : Nat} {w : World} {x : It} (h : x.holds b0 w) (ha : x.area = some g) : g < w.heap.size := by
  cases x with
  | bl g' t cs => cases ha; exact h.2.lt
  | ow e s v n xs => exact (World.ownsRow.lt h _ ha).2
  | rd s A n xs =>
    simp only [It.area] at ha
    split at ha
    · cases ha
    · next hn =>
      obtain ⟨ad, rfl, hb, _⟩ := h.2 (by omega)
      cases ha
      exact hb
  | raw g' o =>
    cases ha
    rcases Nat.lt_or_ge g w.heap.size with h' | h'
    · exact h'
    · have h2 := h.2
      rw [Array.getElem?_eq_none h'] at h2
      cases h2
theorem It.ge {b0 g : Nat} {w : World} {x : It} (h : x.holds b0 w) (hw : x.wr = true) (ha : x.area = some g) : b0 ≤ g := by
  cases x with
  | bl g' t cs => cases ha; exact h.1
  | ow e s v n xs => exact (World.ownsRow.lt h _ ha).1
  | rd s A n xs => cases hw
  | raw g' o => cases ha; exact h.1
theorem own_grownS {w w' : World} {base size n : Nat} {e : TypeId} {v : Value} {xs : List Value} {row : Option Nat} (h : w.ownsRow base e size v n xs) (hg : w.grownBy w' row) (hne : ∀ g, v.ownBlock = some g → row ≠ some g) : w'.ownsRow base e size v n xs := by
  refine ⟨h.1, ?_⟩
  rcases h.2 with hn | ⟨g, cap, cur, rfl, hb, hh, r⟩
  · exact .inl hn
  · have hlt : g < w.heap.size := by
      rcases Nat.lt_or_ge g w.heap.size with h' | h'
      · exact h'
      · rw [Array.getElem?_eq_none h'] at hh; cases hh
    exact .inr ⟨g, cap, cur, rfl, hb, by rw [hg.block g hlt (fun h => hne g rfl h.symm)]; exact hh, r⟩
theorem It.grown {b0 : Nat} {w w' : World} {x : It} {row : Option Nat} (h : x.holds b0 w) (hg : w.grownBy w' row) (hne : ∀ g, x.area = some g → row ≠ some g) : x.holds b0 w' := by
  cases x with
  | bl g' t cs => exact ⟨h.1, h.2.grown hg (fun e => hne _ rfl e.symm)⟩
  | ow e s v n xs => exact own_grownS h hg hne
  | rd s A n xs =>
    refine ⟨h.1, fun hn => ?_⟩
    obtain ⟨ad, rfl, hb, hc⟩ := h.2 hn
    refine ⟨ad, rfl, Nat.lt_of_lt_of_le hb hg.size, fun j u hu => ?_⟩
    rw [← hc j u hu]
    have h1 : row ≠ some ad.block := hne _ (by simp only [It.area]; rw [if_neg (by omega)]; rfl)
    exact World.cell?_of_block (hg.block _ (by rw [block_of_add]; exact hb) (by rw [block_of_add]; exact fun e => h1 e.symm))
  | raw g o =>
    refine ⟨h.1, ?_⟩
    rw [hg.block g (It.lt (x := .raw g o) h rfl) (fun e => hne g rfl e.symm)]
    exact h.2
theorem grown_of_below {w w' : World} (h : Below w.heap.size w w') : w.grownBy w' none := ⟨h.os, h.tape, h.output, h.size, fun k hk _ => h.block k hk⟩

section
variable {w0 w w' : World} {I J : List It} {x y : It}
theorem St.start (w : World) : St w w [] := ⟨Below.refl _ _, fun _ h => (by cases h), List.Pairwise.nil⟩
theorem St.grown (H : St w0 w I) (hg : w.grownBy w' none) : St w0 w' I :=
  ⟨H.bel.grown hg H.bel.size (fun _ h => by cases h), fun x hx => It.grown (H.all x hx) hg (fun _ _ h => by cases h), H.apart⟩
theorem St.below (H : St w0 w I) (hb : Below w.heap.size w w') : St w0 w' I := H.grown (grown_of_below hb)
theorem St.drew (H : St w0 w I) : St w0 w.drew I := H.below (Below.refl _ _).drew
theorem St.drewN (H : St w0 w I) (n : Nat) : St w0 (w.drewN n) I := ⟨below_drewN0 H.bel n, fun x hx => It.grown (H.all x hx) ⟨rfl, rfl, rfl, Nat.le_refl _, fun _ _ _ => rfl⟩ (row := none) (fun _ _ h => by cases h), H.apart⟩
where below_drewN0 {B : Nat} {a w : World} (h : Below B a w) (n : Nat) : Below B a (w.drewN n) := ⟨h.os, h.tape, h.output, h.size, h.block⟩
theorem St.tail (H : St w0 w (x :: I)) : St w0 w I := ⟨H.bel, fun y hy => H.all y (List.mem_cons_of_mem _ hy), (List.pairwise_cons.1 H.apart).2⟩
/-- something new -/
theorem St.push (H : St w0 w I) (hg : w.grownBy w' none) (hh : y.holds w0.heap.size w') (ha : ∀ g, y.area = some g → w.heap.size ≤ g) : St w0 w' (y :: I) := by
  have H' := H.grown hg
  refine ⟨H'.bel, fun x hx => ?_, List.pairwise_cons.2 ⟨fun z hz _ g h1 h2 => ?_, H.apart⟩⟩
  · rcases List.mem_cons.1 hx with rfl | hx
    · exact hh
    · exact H'.all x hx
  · have := ha g h1
    have := It.lt (H.all z hz) h2
    omega
/-- several new things -/
theorem St.pushes (H : St w0 w I) (hg : Below w.heap.size w w') (Y : List It) (hh : ∀ y ∈ Y, y.holds w0.heap.size w' ∧ ∀ g, y.area = some g → w.heap.size ≤ g) (hp : Y.Pairwise It.off) : St w0 w' (Y ++ I) := by
  have H' := H.below hg
  refine ⟨H'.bel, fun x hx => ?_, List.pairwise_append.2 ⟨hp, H.apart, fun y hy z hz _ g h1 h2 => ?_⟩⟩
  · rcases List.mem_append.1 hx with hx | hx
    · exact (hh x hx).1
    · exact H'.all x hx
  · have := (hh y hy).2 g h1
    have := It.lt (H.all z hz) h2
    omega
theorem off_rd {s s' : Nat} {A A' : Option Addr} {n n' : Nat} {xs xs' : List Value} : (It.rd s A n xs).off (.rd s' A' n' xs') := fun h => by rcases h with h | h <;> cases h
theorem rd_pair {s s' : Nat} {A A' : Option Addr} {n n' : Nat} {xs xs' : List Value} : [It.rd s A n xs, It.rd s' A' n' xs'].Pairwise It.off := List.pairwise_cons.2 ⟨fun _ h => by rw [List.mem_singleton.1 h]; exact off_rd, List.pairwise_singleton _ _⟩
/-- a slice that was there at the beginning -/
theorem St.old {s n : Nat} {A : Option Addr} {xs : List Value} (H : St w0 w I) (hr : Reads w0 w0.heap.size s A n xs) : St w0 w (.rd s A n xs :: I) := by
  have hlt : ∀ g, (It.rd s A n xs).area = some g → g < w0.heap.size := fun g h => It.lt (b0 := 0) (w := w0) (x := .rd s A n xs) hr h
  refine ⟨H.bel, fun x hx => ?_, List.pairwise_cons.2 ⟨fun z hz hw g h1 h2 => ?_, H.apart⟩⟩
  · rcases List.mem_cons.1 hx with rfl | hx
    · exact (hr.below H.bel).more H.bel.size
    · exact H.all x hx
  · have := hlt g h1
    rcases hw with hw | hw
    · cases hw
    · have := It.ge (H.all z hz) hw h2
      omega
/-- one thing becomes another one -/
class Upd (I : List It) (x y : It) (J : outParam (List It)) : Prop where
  out : ∃ P R, I = P ++ x :: R ∧ J = P ++ y :: R
instance (priority := high) Upd.here : Upd (x :: I) x y (y :: I) := ⟨[], I, rfl, rfl⟩
instance (priority := low) Upd.there {u : It} [h : Upd I x y J] : Upd (u :: I) x y (u :: J) := by
  obtain ⟨P, R, rfl, rfl⟩ := h.out
  exact ⟨u :: P, R, rfl, rfl⟩
theorem It.off.symm {a b : It} (h : a.off b) : b.off a := fun hw g h1 h2 => h hw.symm g h2 h1
theorem St.upd (H : St w0 w I) [U : Upd I x y J] (hx : x.wr = true) (hg : w.grownBy w' x.area) (hh : y.holds w0.heap.size w') (ha : ∀ g, y.area = some g → x.area = some g ∨ w.heap.size ≤ g) : St w0 w' J := by
  obtain ⟨P, R, rfl, rfl⟩ := U.out
  obtain ⟨p1, p2, p3⟩ := List.pairwise_append.1 H.apart
  obtain ⟨q1, q2⟩ := List.pairwise_cons.1 p2
  have hP : ∀ z ∈ P, z.off x := fun z hz => p3 z hz x (List.mem_cons_self ..)
  have hxh := H.all x (by simp)
  have hkeep : ∀ z, z ∈ P ∨ z ∈ R → z.holds w0.heap.size w' := fun z hz => by
    have hz1 : z.holds w0.heap.size w := H.all z (by rcases hz with h | h <;> simp [h])
    have hz2 : z.off x := by
      rcases hz with h | h
      · exact hP z h
      · exact (q1 z h).symm
    exact It.grown hz1 hg (fun g h1 h2 => hz2 (.inr hx) g h1 h2)
  have hy : ∀ z, z ∈ P ∨ z ∈ R → y.off z := fun z hz _ g h1 h2 => by
    have hz1 : z.holds w0.heap.size w := H.all z (by rcases hz with h | h <;> simp [h])
    have hz2 : z.off x := by
      rcases hz with h | h
      · exact hP z h
      · exact (q1 z h).symm
    rcases ha g h1 with h | h
    · exact hz2 (.inr hx) g h2 h
    · have := It.lt hz1 h2
      omega
  refine ⟨H.bel.grown hg H.bel.size (fun g h => It.ge hxh hx h), fun z hz => ?_, ?_⟩
  · rcases List.mem_append.1 hz with h | h
    · exact hkeep z (.inl h)
    · rcases List.mem_cons.1 h with rfl | h
      · exact hh
      · exact hkeep z (.inr h)
  · refine List.pairwise_append.2 ⟨p1, List.pairwise_cons.2 ⟨fun z hz => hy z (.inr hz), q2⟩, fun a haP b hb => ?_⟩
    rcases List.mem_cons.1 hb with rfl | hb
    · exact (hy a (.inl haP)).symm
    · exact p3 a haP b (List.mem_cons_of_mem _ hb)
/-- something is known -/
class Has (I : List It) (x : It) : Prop where
  mem : x ∈ I
class HasB (I : List It) (g : Nat) (t : outParam TypeId) (cs : outParam (Array Value)) : Prop where
  mem : It.bl g t cs ∈ I
instance (priority := high) HasB.here {g : Nat} {t : TypeId} {cs : Array Value} : HasB (.bl g t cs :: I) g t cs := ⟨List.mem_cons_self ..⟩
instance (priority := low) HasB.there {g : Nat} {t : TypeId} {cs : Array Value} [h : HasB I g t cs] : HasB (x :: I) g t cs := ⟨List.mem_cons_of_mem _ h.mem⟩
instance (priority := high) Has.here : Has (x :: I) x := ⟨List.mem_cons_self ..⟩
instance (priority := low) Has.there [h : Has I x] : Has (y :: I) x := ⟨List.mem_cons_of_mem _ h.mem⟩
/-- a block turns -/
class UpdB (I : List It) (g : Nat) (t : outParam TypeId) (cs : outParam (Array Value)) (ds : Array Value) (J : outParam (List It)) : Prop where
  out : Upd I (.bl g t cs) (.bl g t ds) J
instance (priority := high) UpdB.here {g : Nat} {t : TypeId} {cs ds : Array Value} : UpdB (.bl g t cs :: I) g t cs ds (.bl g t ds :: I) := ⟨Upd.here⟩
instance (priority := low) UpdB.there {g : Nat} {t : TypeId} {cs ds : Array Value} [h : UpdB I g t cs ds J] : UpdB (x :: I) g t cs ds (x :: J) := ⟨@Upd.there _ _ _ _ _ h.out⟩
/-- less is known -/
class Sub (J I : List It) : Prop where
  out : J.Sublist I
instance (priority := high) Sub.self : Sub I I := ⟨List.Sublist.refl _⟩
instance (priority := low) Sub.cut [h : Sub J I] : Sub J (x :: I) := ⟨h.out.cons _⟩
instance Sub.both [h : Sub J I] : Sub (x :: J) (x :: I) := ⟨h.out.cons_cons _⟩
theorem St.sub (H : St w0 w I) [h : Sub J I] : St w0 w J := ⟨H.bel, fun x hx => H.all x (h.out.mem hx), H.apart.sublist h.out⟩
theorem St.get (H : St w0 w I) (x : It) [h : Has I x] : x.holds w0.heap.size w := H.all x h.mem
theorem St.blk (H : St w0 w I) (g : Nat) {t : TypeId} {cs : Array Value} [h : HasB I g t cs] : Blk w g t cs := (H.all _ h.mem).2
theorem St.blk_ge (H : St w0 w I) (g : Nat) {t : TypeId} {cs : Array Value} [h : HasB I g t cs] : w0.heap.size ≤ g := (H.all _ h.mem).1
theorem St.updB {g : Nat} {t : TypeId} {cs ds : Array Value} (H : St w0 w I) [U : UpdB I g t cs ds J] (hg : w.grownBy w' (some g)) (hh : Blk w' g t ds) : St w0 w' J := by
  have hU := U.out
  have hin : It.bl g t cs ∈ I := by
    obtain ⟨P, R, rfl, _⟩ := hU.out
    simp
  exact St.upd (U := hU) H rfl hg ⟨(H.all _ hin).1, hh⟩ (fun _ h => .inl h)
theorem St.allocd {g : Nat} {t : TypeId} {cs : Array Value} (H : St w0 w I) (E : Blk w' w.heap.size t cs) (hg : w.grownBy w' none) (hgg : w.heap.size = g) : St w0 w' (.bl g t cs :: I) := by
  subst hgg
  exact H.push hg ⟨H.bel.size, E⟩ (fun _ h => by cases h; exact Nat.le_refl _)
/-- a block that the walk has spelled -/
theorem St.box (H : St w0 w I) (t : TypeId) (cs : Array Value) : St w0 (w.alloc (.cells cs t)) (.bl w.heap.size t cs :: I) :=
  H.allocd (Blk.new w t cs) ⟨rfl, rfl, rfl, by simp, fun k hk _ => Below.heap_alloc w _ k hk⟩ rfl
end

/-! ### Operations -/
/-- the goal is a list of operations, and the first of them is .. -/
theorem here_load {P : Program} {ops : Array Oper} {rest : List Oper} {d : Option Tmp} {ty : TypeId} {x : Operand} {t : TypeId} {p : String} {af : Array Edge} {gd : Option (Nat × Bool)} {a : Act} {w : World} {Q : Exit → Act → World → Prop} (h : wpList P ops Q (⟨d, .load ty x, t, p, af, gd⟩ :: rest) a w) : wpList P ops Q (⟨d, .load ty x, t, p, af, gd⟩ :: rest) a w := h
theorem here_store {P : Program} {ops : Array Oper} {rest : List Oper} {d : Option Tmp} {ty : TypeId} {x y : Operand} {t : TypeId} {p : String} {af : Array Edge} {gd : Option (Nat × Bool)} {a : Act} {w : World} {Q : Exit → Act → World → Prop} (h : wpList P ops Q (⟨d, .store ty x y, t, p, af, gd⟩ :: rest) a w) : wpList P ops Q (⟨d, .store ty x y, t, p, af, gd⟩ :: rest) a w := h
theorem here_alloc {P : Program} {ops : Array Oper} {rest : List Oper} {d : Option Tmp} {ty : TypeId} {t : TypeId} {p : String} {af : Array Edge} {gd : Option (Nat × Bool)} {a : Act} {w : World} {Q : Exit → Act → World → Prop} (h : wpList P ops Q (⟨d, .alloc ty, t, p, af, gd⟩ :: rest) a w) : wpList P ops Q (⟨d, .alloc ty, t, p, af, gd⟩ :: rest) a w := h
theorem here_box {P : Program} {ops : Array Oper} {rest : List Oper} {d : Option Tmp} {ty : TypeId} {x : Operand} {t : TypeId} {p : String} {af : Array Edge} {gd : Option (Nat × Bool)} {a : Act} {w : World} {Q : Exit → Act → World → Prop} (h : wpList P ops Q (⟨d, .box ty x, t, p, af, gd⟩ :: rest) a w) : wpList P ops Q (⟨d, .box ty x, t, p, af, gd⟩ :: rest) a w := h
theorem here_buildSlice {P : Program} {ops : Array Oper} {rest : List Oper} {d : Option Tmp} {ty : TypeId} {n : Nat} {ps : Array (Nat × Operand)} {t : TypeId} {p : String} {af : Array Edge} {gd : Option (Nat × Bool)} {a : Act} {w : World} {Q : Exit → Act → World → Prop} (h : wpList P ops Q (⟨d, .buildSlice ty n ps, t, p, af, gd⟩ :: rest) a w) : wpList P ops Q (⟨d, .buildSlice ty n ps, t, p, af, gd⟩ :: rest) a w := h
theorem here_call {P : Program} {ops : Array Oper} {rest : List Oper} {d : Option Tmp} {c : Call} {t : TypeId} {p : String} {af : Array Edge} {gd : Option (Nat × Bool)} {a : Act} {w : World} {Q : Exit → Act → World → Prop} (h : wpList P ops Q (⟨d, .call c, t, p, af, gd⟩ :: rest) a w) : wpList P ops Q (⟨d, .call c, t, p, af, gd⟩ :: rest) a w := h
/-- a part of a row is read as a whole -/
theorem wp_load_partS {P : Program} {o : Oper} {a : Act} {w : World} {K : Act → World → Prop} {Q : Exit → Act → World → Prop} (ty : TypeId) (x : Operand) (ho : o.op = .load ty x)
    (g p m : Nat) (hx : a.eval x = .pointer (some ⟨g, p, none⟩)) (t : TypeId) (cs : Array Value) (d : TypeDesc) (hg : Blk w g t cs)
    (hu : P.underlying ty = some d) (hd : (match d with | .struct _ | .array _ _ => true | _ => false) = true) (hi : (P.info? ty).map (·.size) = some m) (hm : p + m ≤ cs.size)
    (h : K (a.put o.dst (.agg (cs.extract p (p + m)))) w) : o.wp P a w K Q := by
  have hl : (loadCells ⟨g, p, none⟩ (cs.extract p (p + m)).toList.length).run P w = .ok (cs.extract p (p + m)).toList.toArray w :=
    run_loadCells_list (P := P) w ⟨g, p, none⟩ (cs.extract p (p + m)).toList (fun j v hv => by
      have hadd : (⟨g, p, none⟩ : Addr).add j = ⟨g, p + j, none⟩ := by unfold Addr.add; split <;> simp_all
      rw [hadd, hg.cell]
      have hv2 : (cs.extract p (p + m))[j]? = some v := by rw [← Array.getElem?_toList]; exact hv
      rw [Array.getElem?_extract] at hv2
      split at hv2
      · exact hv2
      · cases hv2)
  have hz : (cs.extract p (p + m)).toList.length = m := by simp; omega
  rw [hz] at hl
  cases hq : P.info? ty with
  | none => simp [hq] at hi
  | some i =>
    have hs : i.size = m := by simpa [hq] using hi
    have hagg : (isAgg ty).run P w = .ok true w := by
      unfold isAgg
      rw [Sem.run_bind, run_underlying hu w]
      cases d <;> simp_all
    have hrun : (loadVar ty ⟨g, p, none⟩).run P w = .ok (.agg (cs.extract p (p + m))) w := by
      simp only [Array.toArray_toList] at hl
      simp [loadVar, Sem.run_bind, hagg, sizeOf, typeInfo, hq, hs, hl]
    unfold Oper.wp execOp
    simp only [ho, hx, Instr.loadAt, Instr.sureAddr, Sem.run_bind, Sem.run_pure, Result.andThen_ok, hrun]
    exact h
theorem wpList_load_partS {P : Program} {ops : Array Oper} {rest : List Oper} {o : Oper} {a : Act} {w : World} {Q : Exit → Act → World → Prop} (hgd : o.guard = none) (ty : TypeId) (x : Operand) (ho : o.op = .load ty x)
    (g p m : Nat) (hx : a.eval x = .pointer (some ⟨g, p, none⟩)) (t : TypeId) (cs : Array Value) (d : TypeDesc) (hg : Blk w g t cs)
    (hu : P.underlying ty = some d) (hd : (match d with | .struct _ | .array _ _ => true | _ => false) = true) (hi : (P.info? ty).map (·.size) = some m) (hm : p + m ≤ cs.size)
    (h : wpList P ops Q rest (a.put o.dst (.agg (cs.extract p (p + m)))) w) : wpList P ops Q (o :: rest) a w :=
  wpList_plain hgd fun _ hK => wp_load_partS ty x ho g p m hx t cs d hg hu hd hi hm (hK _ _ h)

section
variable {P : Program} {ops : Array Oper} {rest : List Oper} {o : Oper} {a : Act} {w0 w : World} {I J : List It} {Q : Exit → Act → World → Prop}
theorem wpList_alloc_st (H : St w0 w I) (hgd : o.guard = none) (ty : TypeId) (ho : o.op = .alloc ty) (zs : Array Value) (hz : (P.info? ty).bind (·.zero) = some (.agg zs))
    (h : ∀ g w', St w0 w' (.bl g ty zs :: I) → wpList P ops Q rest (a.put o.dst (.pointer (some ⟨g, 0, none⟩))) w') : wpList P ops Q (o :: rest) a w :=
  wpList_alloc_row hgd ty ho zs hz fun w' E hg _ => h _ w' (H.allocd E hg rfl)
theorem run_alloc_one (ty : TypeId) (z : Value) (w : World) (hz : (P.info? ty).bind (·.zero) = some z) (h1 : z.cells = #[z]) :
    (Instr.alloc ty true (.tuple #[])).run P w = .ok (.pointer (some ⟨w.heap.size, 0, none⟩)) (w.alloc (.cells #[z] ty)) := by
  cases hq : P.info? ty with
  | none => simp [hq] at hz
  | some i =>
    have hz' : i.zero = some z := by simpa [hq] using hz
    have hv : (Go.zeroValue ty).run P w = .ok z w := by simp [Go.zeroValue, Sem.run_bind, typeInfo, hq, hz']
    unfold Instr.alloc
    simp [Sem.run_bind, hv, newVar, newRow, go_sem]
    exact congrArg (fun c => w.alloc (.cells c ty)) h1
theorem wpList_alloc1_st (H : St w0 w I) (hgd : o.guard = none) (ty : TypeId) (ho : o.op = .alloc ty) (z : Value) (hz : (P.info? ty).bind (·.zero) = some z) (h1 : z.cells = #[z])
    (h : ∀ g w', St w0 w' (.bl g ty #[z] :: I) → wpList P ops Q rest (a.put o.dst (.pointer (some ⟨g, 0, none⟩))) w') : wpList P ops Q (o :: rest) a w :=
  wpList_plain hgd fun _ hK => by
    unfold Oper.wp execOp
    simp only [ho, Sem.run_bind, run_alloc_one ty z w hz h1, Result.andThen_ok, Sem.run_pure]
    exact hK _ _ (h _ _ (H.box ty #[z]))
theorem wpList_box_st (H : St w0 w I) (hgd : o.guard = none) (ty : TypeId) (x : Operand) (ho : o.op = .box ty x) (cs : Array Value) (hx : a.eval x = .agg cs)
    (h : ∀ g w', St w0 w' (.bl g ty cs :: I) → wpList P ops Q rest (a.put o.dst (.pointer (some ⟨g, 0, none⟩))) w') : wpList P ops Q (o :: rest) a w :=
  wpList_plain hgd fun _ hK => by
    have hrun : (Instr.box ty (.agg cs)).run P w = .ok (.pointer (some ⟨w.heap.size, 0, none⟩)) (w.alloc (.cells cs ty)) := by
      unfold Instr.box
      simp [newVar, newRow, Value.cells, go_sem]
    unfold Oper.wp execOp
    simp only [ho, hx, Sem.run_bind, hrun, Result.andThen_ok, Sem.run_pure]
    exact hK _ _ (h _ _ (H.box ty cs))
theorem wpList_box1_st (H : St w0 w I) (hgd : o.guard = none) (ty : TypeId) (x : Operand) (ho : o.op = .box ty x) (v : Value) (hx : a.eval x = v) (hv : v.cells = #[v])
    (h : ∀ g w', St w0 w' (.bl g ty #[v] :: I) → wpList P ops Q rest (a.put o.dst (.pointer (some ⟨g, 0, none⟩))) w') : wpList P ops Q (o :: rest) a w :=
  wpList_plain hgd fun _ hK => by
    have hrun : (Instr.box ty v).run P w = .ok (.pointer (some ⟨w.heap.size, 0, none⟩)) (w.alloc (.cells #[v] ty)) := by
      have hn : newVar ty v = newRow ty #[v] := by unfold newVar; rw [hv]
      unfold Instr.box
      rw [hn]
      simp [newRow, go_sem]
    unfold Oper.wp execOp
    simp only [ho, hx, Sem.run_bind, hrun, Result.andThen_ok, Sem.run_pure]
    exact hK _ _ (h _ _ (H.box ty #[v]))
theorem wpList_store_st {g : Nat} {t : TypeId} {old cells : Array Value} (H : St w0 w I) (hgd : o.guard = none) (ty : TypeId) (x y : Operand) (ho : o.op = .store ty x y)
    (hx : a.eval x = .pointer (some ⟨g, 0, none⟩)) (hy : a.eval y = .agg cells) [U : UpdB I g t old cells J] (hi : (P.info? ty).map (·.size) = some cells.size)
    (hold : old.size = cells.size) (h1 : cells.all (·.oneCell') = true)
    (h : ∀ w', St w0 w' J → wpList P ops Q rest (a.put o.dst undef) w') : wpList P ops Q (o :: rest) a w := by
  have hin : It.bl g t old ∈ I := by
    obtain ⟨P, R, rfl, _⟩ := U.out.out
    simp
  exact wpList_store_rowQ hgd ty x y ho g cells hx hy t old (H.all _ hin).2 hi hold h1 fun w' E hg _ => h w' (H.updB hg E)
theorem wpList_load_st {g : Nat} {t : TypeId} {cs : Array Value} (H : St w0 w I) (hgd : o.guard = none) (ty : TypeId) (x : Operand) (ho : o.op = .load ty x)
    (hx : a.eval x = .pointer (some ⟨g, 0, none⟩)) [hm : HasB I g t cs] (hu : (match P.underlying ty with | some (.struct _) | some (.array _ _) => true | _ => false) = true) (hi : (P.info? ty).map (·.size) = some cs.size)
    (h : wpList P ops Q rest (a.put o.dst (.agg cs)) w) : wpList P ops Q (o :: rest) a w := by
  cases hd : P.underlying ty with
  | none => simp [hd] at hu
  | some d =>
    rw [hd] at hu
    exact wpList_load_row hgd ty x ho g hx t cs (0, 0) d (H.blk g) hd (by cases d <;> simp_all) hi h
/-! a part of a block -/
/-- cells put into an array, one behind the other -/
def spl (cur : Array Value) : Nat → List Value → Array Value
  | _, [] => cur
  | p, v :: vs => spl (cur.setIfInBounds p v) (p + 1) vs
theorem spl_size : ∀ (vs : List Value) (cur : Array Value) (p : Nat), (spl cur p vs).size = cur.size
  | [], _, _ => rfl
  | v :: vs, cur, p => by rw [spl, spl_size vs]; simp
theorem spl_list : ∀ (vs : List Value) (cur : Array Value) (p : Nat), p + vs.length ≤ cur.size → (spl cur p vs).toList = cur.toList.take p ++ vs ++ cur.toList.drop (p + vs.length)
  | [], cur, p, _ => by simp [spl]
  | v :: vs, cur, p, h => by
    simp only [List.length_cons] at h
    rw [spl, spl_list vs _ _ (by simp; omega)]
    apply List.ext_getElem?
    intro k
    simp only [Array.toList_setIfInBounds, List.getElem?_append, List.length_append, List.length_take, List.length_set, Array.length_toList, List.length_cons, List.getElem?_take, List.getElem?_drop, List.getElem?_set, List.getElem?_cons]
    have e1 : min (p + 1) cur.size = p + 1 := by omega
    have e2 : min p cur.size = p := by omega
    rw [e1, e2]
    by_cases h1 : k < p
    · simp [h1, show k < p + 1 by omega, show k < p + 1 + vs.length by omega, show k < p + (vs.length + 1) by omega, show p ≠ k by omega]
    · by_cases h2 : k = p
      · subst h2
        simp [show k < k + 1 + vs.length by omega, show k < cur.size by omega]
      · by_cases h3 : k < p + 1 + vs.length
        · simp [h1, h3, show ¬ k < p + 1 by omega, show k < p + (vs.length + 1) by omega, show k - p ≠ 0 by omega, show k - p - 1 = k - (p + 1) by omega]
        · simp [h3, show ¬ k < p + (vs.length + 1) by omega, show p + 1 + vs.length + (k - (p + 1 + vs.length)) = p + (vs.length + 1) + (k - (p + (vs.length + 1))) by omega, show p ≠ p + (vs.length + 1) + (k - (p + (vs.length + 1))) by omega]
/-- the first part of a block -/
theorem spl_front (A B T : Array Value) (h : A.size = B.size) : spl (A ++ T) 0 B.toList = B ++ T := by
  apply Array.toList_inj.1
  rw [spl_list _ _ _ (by simp; omega)]
  have hl : B.toList.length = A.toList.length := by simp [h]
  rw [Nat.zero_add, hl]
  simp
theorem run_storeCells_spl (g p : Nat) (t : TypeId) : ∀ (vs : List Value) (i : Nat) (cur : Array Value) (w : World), w.heap[g]? = some (.cells cur t (0, 0)) → p + i + vs.length ≤ cur.size → (∀ v ∈ vs, v.oneCell' = true) →
    (storeCells ⟨g, p, none⟩ vs i).run P w = .ok () (w.setRow g (spl cur (p + i) vs))
  | [], i, cur, w, hg, _, _ => by
    have h := run_storeCells_from (P := P) g t [] cur.size cur w hg (by simp) (by simp)
    rw [show cur.toList.take cur.size = cur.toList from List.take_of_length_le (by simp)] at h
    simpa [spl, storeCells] using h
  | v :: rest, i, cur, w, hg, hl, h1 => by
    simp only [List.length_cons] at hl
    have hi : p + i < cur.size := by omega
    have hadd : (⟨g, p, none⟩ : Addr).add i = ⟨g, p + i, none⟩ := by unfold Addr.add; split <;> simp_all
    have hcell : w.cell? ⟨g, p + i, none⟩ = some cur[p + i] := by simp [World.cell?, hg, hi]
    have hfro : w.frozen? ⟨g, p + i, none⟩ = false := by simp [World.frozen?, hg]
    have hst : (store ((⟨g, p, none⟩ : Addr).add i) v).run P w = .ok () (w.setRow g (cur.setIfInBounds (p + i) v)) := by
      rw [hadd, run_store P w _ v _ (h1 v (by simp)), hcell]
      simp [hfro, setCell_eq_setRow w g (p + i) cur t (0, 0) v hg]
    have ih := run_storeCells_spl g p t rest (i + 1) (cur.setIfInBounds (p + i) v) (w.setRow g (cur.setIfInBounds (p + i) v)) (setRow_heap w g cur _ t _ hg) (by simp; omega) (fun x hx => h1 x (by simp [hx]))
    simp only [storeCells, Sem.run_bind, hst, Result.andThen_ok, ih, setRow_setRow, spl]
    rfl
/-- a struct, an array into a part of a block -/
theorem wpList_storePart_st {g p : Nat} {t : TypeId} {old cells : Array Value} (H : St w0 w I) (hgd : o.guard = none) (ty : TypeId) (x y : Operand) (ho : o.op = .store ty x y)
    (hx : a.eval x = .pointer (some ⟨g, p, none⟩)) (hy : a.eval y = .agg cells) [U : UpdB I g t old (spl old p cells.toList) J] (hi : (P.info? ty).map (·.size) = some cells.size)
    (hold : Nat.ble (p + cells.size) old.size = true) (h1 : cells.all (·.oneCell') = true)
    (h : ∀ w', St w0 w' J → wpList P ops Q rest (a.put o.dst undef) w') : wpList P ops Q (o :: rest) a w := by
  have hin : It.bl g t old ∈ I := by
    obtain ⟨P, R, rfl, _⟩ := U.out.out
    simp
  have hb := (H.all _ hin).2
  replace hold := Nat.le_of_ble_eq_true hold
  refine wpList_plain hgd fun _ hK => ?_
  have hrun : (storeVar ty ⟨g, p, none⟩ (.agg cells)).run P w = .ok () (w.setRow g (spl old p cells.toList)) := by
    have := run_storeCells_spl (P := P) g p t cells.toList 0 old w hb (by simp; omega) (fun v hv => (Array.all_eq_true_iff_forall_mem.1 h1) v (by simpa using hv))
    cases hq : P.info? ty with
    | none => simp [hq] at hi
    | some i =>
      have hs : cells.size = i.size := by simp [hq] at hi; omega
      simp only [Nat.add_zero] at this
      simp [storeVar, sizeOf, typeInfo, hq, Value.cells, hs, this]
  unfold Oper.wp execOp
  simp only [ho, hx, hy, Instr.storeAt, Instr.sureAddr, Sem.run_bind, Sem.run_pure, Result.andThen_ok, hrun]
  exact hK _ _ (h _ (H.updB setRow_grown hb.setRow_))
/-- one cell -/
theorem wpList_store1_st {g j : Nat} {t : TypeId} {old : Array Value} (H : St w0 w I) (hgd : o.guard = none) (ty : TypeId) (x y : Operand) (ho : o.op = .store ty x y)
    (hx : a.eval x = .pointer (some ⟨g, j, none⟩)) (v : Value) (hy : a.eval y = v) (hv : v.cells = #[v]) [U : UpdB I g t old (old.setIfInBounds j v) J] (hi : (P.info? ty).map (·.size) = some 1)
    (hold : Nat.blt j old.size = true) (h1 : v.oneCell' = true)
    (h : ∀ w', St w0 w' J → wpList P ops Q rest (a.put o.dst undef) w') : wpList P ops Q (o :: rest) a w := by
  have hin : It.bl g t old ∈ I := by
    obtain ⟨P, R, rfl, _⟩ := U.out.out
    simp
  have hb := (H.all _ hin).2
  replace hold : j < old.size := by simpa [Nat.blt_eq] using hold
  refine wpList_plain hgd fun _ hK => ?_
  have hrun : (storeVar ty ⟨g, j, none⟩ v).run P w = .ok () (w.setRow g (old.setIfInBounds j v)) := by
    have := run_storeCells_spl (P := P) g j t [v] 0 old w hb (by simp; omega) (by simpa using h1)
    cases hq : P.info? ty with
    | none => simp [hq] at hi
    | some i =>
      have hs : i.size = 1 := by simp [hq] at hi; omega
      simp only [Nat.add_zero, spl] at this
      simp [storeVar, sizeOf, typeInfo, hq, hv, hs, this]
  unfold Oper.wp execOp
  simp only [ho, hx, hy, Instr.storeAt, Instr.sureAddr, Sem.run_bind, Sem.run_pure, Result.andThen_ok, hrun]
  exact hK _ _ (h _ (H.updB setRow_grown hb.setRow_))
theorem wpList_loadPart_st {g p m : Nat} {t : TypeId} {cs : Array Value} (H : St w0 w I) (hgd : o.guard = none) (ty : TypeId) (x : Operand) (ho : o.op = .load ty x)
    (hx : a.eval x = .pointer (some ⟨g, p, none⟩)) [hm : HasB I g t cs] (hu : (match P.underlying ty with | some (.struct _) | some (.array _ _) => true | _ => false) = true) (hi : (P.info? ty).map (·.size) = some m) (hsz : Nat.ble (p + m) cs.size = true)
    (ds : Array Value) (hds : cs.extract p (p + m) = ds) (h : wpList P ops Q rest (a.put o.dst (.agg ds)) w) : wpList P ops Q (o :: rest) a w := by
  subst hds
  cases hd : P.underlying ty with
  | none => simp [hd] at hu
  | some d =>
    rw [hd] at hu
    exact wpList_load_partS hgd ty x ho g p m hx t cs d (H.blk g) hd (by cases d <;> simp_all) hi (Nat.le_of_ble_eq_true hsz) h
theorem wpList_load1_st {g j : Nat} {t : TypeId} {cs : Array Value} {v : Value} (H : St w0 w I) (hgd : o.guard = none) (ty : TypeId) (x : Operand) (ho : o.op = .load ty x)
    (hx : a.eval x = .pointer (some ⟨g, j, none⟩)) [hm : HasB I g t cs] (hu : (match P.underlying ty with | some (.struct _) | some (.array _ _) | none => true | _ => false) = false) (hv : cs.toList[j]? = some v)
    (h : wpList P ops Q rest (a.put o.dst v) w) : wpList P ops Q (o :: rest) a w := by
  cases hd : P.underlying ty with
  | none => simp [hd] at hu
  | some d =>
    rw [hd] at hu
    refine wpList_plain hgd fun _ hK => ?_
    have hagg : (isAgg ty).run P w = .ok false w := by
      unfold isAgg
      rw [Sem.run_bind, run_underlying hd w]
      cases d <;> simp_all
    have hc : w.cell? ⟨g, j, none⟩ = some v := ((H.blk g).cell j).trans (by rw [← Array.getElem?_toList]; exact hv)
    have hrun : (loadVar ty ⟨g, j, none⟩).run P w = .ok v w := by
      simp [loadVar, Sem.run_bind, hagg, hc]
    unfold Oper.wp execOp
    simp only [ho, hx, Instr.loadAt, Instr.sureAddr, Sem.run_bind, Sem.run_pure, Result.andThen_ok, hrun]
    exact hK _ _ h
end

/-! .. under a guard -/
section
variable {P : Program} {ops : Array Oper} {rest : List Oper} {o : Oper} {a : Act} {w0 w : World} {I J : List It} {Q : Exit → Act → World → Prop}
theorem run_load1_ {g j : Nat} {t : TypeId} {cs : Array Value} {v : Value} (hg : Blk w g t cs) (ty : TypeId) (x : Operand) (ho : o.op = .load ty x)
    (hx : a.eval x = .pointer (some ⟨g, j, none⟩)) (hu : (match P.underlying ty with | some (.struct _) | some (.array _ _) | none => true | _ => false) = false) (hv : cs.toList[j]? = some v) : (execOp a.eval o).run P w = .ok (.value v) w := by
  cases hd : P.underlying ty with
  | none => simp [hd] at hu
  | some d =>
    rw [hd] at hu
    have hagg : (isAgg ty).run P w = .ok false w := by
      unfold isAgg
      rw [Sem.run_bind, run_underlying hd w]
      cases d <;> simp_all
    have hc : w.cell? ⟨g, j, none⟩ = some v := (hg.cell j).trans (by rw [← Array.getElem?_toList]; exact hv)
    have hrun : (loadVar ty ⟨g, j, none⟩).run P w = .ok v w := by
      simp [loadVar, Sem.run_bind, hagg, hc]
    unfold execOp
    simp only [ho, hx, Instr.loadAt, Instr.sureAddr, Sem.run_bind, Sem.run_pure, Result.andThen_ok, hrun]
theorem wpList_load1_stG {g j : Nat} {t : TypeId} {cs : Array Value} {v : Value} (H : St w0 w I) (hw : Region.wanted o (yielded ops a.tmps) = true) (ty : TypeId) (x : Operand) (ho : o.op = .load ty x)
    (hx : a.eval x = .pointer (some ⟨g, j, none⟩)) [hm : HasB I g t cs] (hu : (match P.underlying ty with | some (.struct _) | some (.array _ _) | none => true | _ => false) = false) (hv : cs.toList[j]? = some v)
    (h : wpList P ops Q rest (a.put o.dst v) w) : wpList P ops Q (o :: rest) a w :=
  Go.BigFrame.wpList_want hw fun _ hK => by
    unfold Oper.wp
    rw [run_load1_ (H.blk g) ty x ho hx hu hv]
    exact hK _ _ h
theorem wpList_loadPart_stG {g p m : Nat} {t : TypeId} {cs : Array Value} (H : St w0 w I) (hw : Region.wanted o (yielded ops a.tmps) = true) (ty : TypeId) (x : Operand) (ho : o.op = .load ty x)
    (hx : a.eval x = .pointer (some ⟨g, p, none⟩)) [hm : HasB I g t cs] (hu : (match P.underlying ty with | some (.struct _) | some (.array _ _) => true | _ => false) = true) (hi : (P.info? ty).map (·.size) = some m) (hsz : Nat.ble (p + m) cs.size = true)
    (ds : Array Value) (hds : cs.extract p (p + m) = ds) (h : wpList P ops Q rest (a.put o.dst (.agg ds)) w) : wpList P ops Q (o :: rest) a w := by
  subst hds
  cases hd : P.underlying ty with
  | none => simp [hd] at hu
  | some d =>
    rw [hd] at hu
    exact Go.BigFrame.wpList_want hw fun _ hK => wp_load_partS ty x ho g p m hx t cs d (H.blk g) hd (by cases d <;> simp_all) hi (Nat.le_of_ble_eq_true hsz) (hK _ _ h)
end

/-! ### Rows of the call's own -/
/-- one of them becomes something else -/
class RepO (I : List It) (e : TypeId) (v : Value) (size n : outParam Nat) (xs : outParam (List Value)) (J : outParam (It → List It)) : Prop where
  out : ∃ P R, I = P ++ .ow e size v n xs :: R ∧ ∀ y, J y = P ++ y :: R
section
variable {w0 w w' : World} {I : List It} {x : It} {J : It → List It} {e : TypeId} {v : Value} {size n : Nat} {xs : List Value}
instance (priority := high) RepO.here : RepO (.ow e size v n xs :: I) e v size n xs (fun y => y :: I) := ⟨[], I, rfl, fun _ => rfl⟩
instance (priority := low) RepO.there [h : RepO I e v size n xs J] : RepO (x :: I) e v size n xs (fun y => x :: J y) := by
  obtain ⟨P, R, h1, h2⟩ := h.out
  exact ⟨x :: P, R, by rw [h1]; rfl, fun y => by rw [h2]; rfl⟩
theorem RepO.upd (h : RepO I e v size n xs J) (y : It) : Upd I (.ow e size v n xs) y (J y) := by
  obtain ⟨P, R, h1, h2⟩ := h.out
  exact ⟨P, R, h1, h2 y⟩
theorem RepO.mem (h : RepO I e v size n xs J) : It.ow e size v n xs ∈ I := by
  obtain ⟨P, R, h1, _⟩ := h.out
  rw [h1]
  simp
theorem St.own (H : St w0 w I) (e : TypeId) (v : Value) [h : RepO I e v size n xs J] : w.ownsRow w0.heap.size e size v n xs := H.all _ h.mem
theorem St.nilOwn (H : St w0 w I) (e : TypeId) (size : Nat) : St w0 w (.ow e size (.slice none 0 0) 0 [] :: I) :=
  H.push ⟨rfl, rfl, rfl, Nat.le_refl _, fun _ _ _ => rfl⟩ (World.ownsRow_nil _ _ _ _) (fun _ h => by cases h)
theorem St.newOwn {v : Value} (H : St w0 w I) (hb : Below w.heap.size w w') (ho : w'.ownsRow w.heap.size e size v n xs) : St w0 w' (.ow e size v n xs :: I) :=
  H.push (grown_of_below hb) (own_base ho H.bel.size) (fun g h => (World.ownsRow.lt ho g h).1)
theorem St.newRd {A : Option Addr} (H : St w0 w I) (hb : Below w.heap.size w w') (ho : Reads w' w'.heap.size size A n xs) (hA : ∀ ad, A = some ad → w.heap.size ≤ ad.block) : St w0 w' (.rd size A n xs :: I) :=
  H.push (grown_of_below hb) ho (fun g h => by
    simp only [It.area] at h
    split at h
    · cases h
    · cases hA' : A with
      | none => rw [hA'] at h; cases h
      | some ad => rw [hA'] at h; cases h; exact hA ad hA')
theorem rd_area {A : Option Addr} {B : Nat} (hA : ∀ ad, A = some ad → B ≤ ad.block) (g : Nat) (h : (It.rd size A n xs).area = some g) : B ≤ g := by
  simp only [It.area] at h
  split at h
  · cases h
  · cases hA' : A with
    | none => rw [hA'] at h; cases h
    | some ad => rw [hA'] at h; cases h; exact hA ad hA'
theorem St.newRds (H : St w0 w I) (l : List It) (hb : Below w.heap.size w w') (hl : ∀ y ∈ l, ∃ s A n xs, y = .rd s A n xs ∧ Reads w' w'.heap.size s A n xs ∧ ∀ ad, A = some ad → w.heap.size ≤ ad.block) : St w0 w' (l ++ I) :=
  H.pushes hb l (fun y hy => by
    obtain ⟨s, A, n, xs, rfl, h1, h2⟩ := hl y hy
    exact ⟨h1, fun g hg => rd_area h2 g hg⟩) (List.pairwise_of_forall_mem_list (fun a ha b hb => by
    obtain ⟨s, A, n, xs, rfl, _⟩ := hl a ha
    obtain ⟨s', A', n', xs', rfl, _⟩ := hl b hb
    exact off_rd))
theorem St.appended (H : St w0 w I) [h : RepO I e v size n xs J] {v' : Value} {n' : Nat} {xs' : List Value} (ho : w'.ownsRow w0.heap.size e size v' n' xs') (hg : w.grownBy w' v.ownBlock) (hv : v'.ownBlock = v.ownBlock ∨ v'.ownBlock = some w.heap.size) : St w0 w' (J (.ow e size v' n' xs')) :=
  St.upd (U := h.upd _) H rfl hg ho (fun g h => by
    rcases hv with hv | hv
    · exact .inl (hv.symm.trans h)
    · have h2 : v'.ownBlock = some g := h
      rw [hv] at h2
      cases h2
      exact .inr (Nat.le_refl _))
/-- .. is only read from here on -/
theorem St.freeze {A : Option Addr} {c : Nat} (H : St w0 w I) [h : RepO I e (.slice A n c) size n xs J] : St w0 w (J (.rd size A n xs)) :=
  St.upd (U := h.upd _) H rfl ⟨rfl, rfl, rfl, Nat.le_refl _, fun _ _ _ => rfl⟩ (Reads.of_own (H.all _ h.mem)) (fun g hg => .inl (by
    simp only [It.area] at hg ⊢
    split at hg
    · cases hg
    · cases A with
      | none => cases hg
      | some a => exact hg))
end
section
variable {P : Program} {ops : Array Oper} {rest : List Oper} {o : Oper} {a : Act} {w0 w : World} {I : List It} {J : It → List It} {Q : Exit → Act → World → Prop}
/-- one element more, that has just been laid -/
theorem wpList_appendNew_st {v : Value} {e : TypeId} {size n : Nat} {xs : List Value} {cs : Array Value} (H : St w0 w I) (hgd : o.guard = none) (s x : Operand) (t : TypeId)
    (ho : o.op = .call { callee := .builtin .append, args := #[s, x], argTypes := #[t, t] }) (hs : a.eval s = v) (hx : a.eval x = .slice (some ⟨w.heap.size, 0, none⟩) 1 1)
    (ht : P.underlying t = some (.slice e)) [h : RepO I e v size n xs J] (z : Value) (bytes : Nat) (hi : (P.info? e).map (fun i => (i.zero, i.size, i.bytes)) = some (some z, size, bytes))
    (hzs : z.cells.size = size) (hsz : 0 < size) (hcs : cs.size = size) (h1 : cs.all (·.oneCell') = true)
    (h63 : n + 1 ≤ maxLen) (hbytes : (n + 1) * bytes ≤ 140737488355328)
    (hk : ∀ A c w', St w0 w' (J (.ow e size (.slice A (n + 1) c) (n + 1) (xs ++ cs.toList))) → wpList P ops Q rest (a.put o.dst (.slice A (n + 1) c)) w') : wpList P ops Q (o :: rest) a (w.alloc (.cells cs e)) := by
  cases hq : P.info? e with
  | none => simp [hq] at hi
  | some i =>
    simp only [hq, Option.map_some, Option.some.injEq, Prod.mk.injEq] at hi
    have hg : w.grownBy (w.alloc (.cells cs e)) none := ⟨rfl, rfl, rfl, by simp, fun k hk _ => Below.heap_alloc w _ k hk⟩
    have H' := H.grown hg
    have hr : Reads (w.alloc (.cells cs e)) (w.alloc (.cells cs e)).heap.size size (some ⟨w.heap.size, 0, none⟩) 1 cs.toList :=
      ⟨by simp [hcs], fun _ => ⟨_, rfl, by simp, fun j u hu => by
        have hadd : (⟨w.heap.size, 0, none⟩ : Addr).add j = ⟨w.heap.size, j, none⟩ := by unfold Addr.add; split <;> simp_all
        rw [hadd, (Blk.new w e cs).cell, ← Array.getElem?_toList, hu]⟩⟩
    refine wpList_append_any _ hgd s x t ho w0.heap.size e i z size bytes ht hq hi.1 hi.2.1 hi.2.2 hzs hsz v n xs hs (H'.own e v) _ _ 1 1 cs.toList hx hr (fun u hu => (Array.all_eq_true_iff_forall_mem.1 h1) u (by simpa using hu)) h63 hbytes (Nat.le_trans H.bel.size (by simp)) fun v' w' ho' hg' hv' => ?_
    obtain ⟨A', c', rfl, _⟩ := own_shape ho'
    exact hk A' c' w' (H'.appended ho' hg' hv')
/-- all that another slice holds -/
theorem wpList_append_st {v : Value} {e : TypeId} {size n m c : Nat} {A : Option Addr} {xs news : List Value} (H : St w0 w I) (hgd : o.guard = none) (s x : Operand) (t : TypeId)
    (ho : o.op = .call { callee := .builtin .append, args := #[s, x], argTypes := #[t, t] }) (hs : a.eval s = v) (hx : a.eval x = .slice A m c)
    (ht : P.underlying t = some (.slice e)) [h : RepO I e v size n xs J] (z : Value) (bytes : Nat) (hi : (P.info? e).map (fun i => (i.zero, i.size, i.bytes)) = some (some z, size, bytes))
    (hzs : z.cells.size = size) (hsz : 0 < size) (hr : Reads w w.heap.size size A m news) (h1 : ∀ u ∈ news, u.oneCell' = true)
    (h63 : n + m ≤ maxLen) (hbytes : (n + m) * bytes ≤ 140737488355328)
    (hk : ∀ A c w', n + m ≤ c → c ≤ maxLen → St w0 w' (J (.ow e size (.slice A (n + m) c) (n + m) (xs ++ news))) → wpList P ops Q rest (a.put o.dst (.slice A (n + m) c)) w') : wpList P ops Q (o :: rest) a w := by
  cases hq : P.info? e with
  | none => simp [hq] at hi
  | some i =>
    simp only [hq, Option.map_some, Option.some.injEq, Prod.mk.injEq] at hi
    refine wpList_append_any _ hgd s x t ho w0.heap.size e i z size bytes ht hq hi.1 hi.2.1 hi.2.2 hzs hsz v n xs hs (H.own e v) _ _ m c news hx hr h1 h63 hbytes H.bel.size fun v' w' ho' hg' hv' => ?_
    obtain ⟨A', c', rfl, hc1, hc2⟩ := own_shape ho'
    exact hk A' c' w' hc1 hc2 (H.appended ho' hg' hv')
end

/-! ### Loads in a region that draws its order -/
section
variable {P : Program} {ops : Array Oper} {rest : List Oper} {o : Oper} {a : Act} {w0 w : World} {I : List It} {Q : Act → Prop}
theorem still_of {v : Value} (hw : Region.wanted o (yielded ops a.tmps) = true) (hrun : (execOp a.eval o).run P w = .ok (.value v) w) (h : wpStill P ops w Q rest (a.put o.dst v)) : wpStill P ops w Q (o :: rest) a :=
  wpStill_step fun K hK => by
    rw [if_pos hw]
    unfold Oper.still
    rw [hrun, Oper.stillUpon_value]
    exact hK _ h
theorem quiet_of {C : World → Prop} {v : Value} (hw : Region.wanted o (yielded ops a.tmps) = true) (hrun : ∀ w, C w → (execOp a.eval o).run P w = .ok (.value v) w) (h : wpQuiet P ops C Q rest (a.put o.dst v)) : wpQuiet P ops C Q (o :: rest) a :=
  wpQuiet_step fun K hK => by
    rw [if_pos hw]
    exact ⟨v, fun w hC => by unfold Oper.quietAt; rw [hrun w hC]; exact ⟨rfl, rfl⟩, hK _ h⟩
theorem run_loadPart {g p m : Nat} {t : TypeId} {cs : Array Value} (hg : Blk w g t cs) (ty : TypeId) (x : Operand) (ho : o.op = .load ty x)
    (hx : a.eval x = .pointer (some ⟨g, p, none⟩)) (hu : (match P.underlying ty with | some (.struct _) | some (.array _ _) => true | _ => false) = true) (hi : (P.info? ty).map (·.size) = some m) (hsz : p + m ≤ cs.size) : (execOp a.eval o).run P w = .ok (.value (.agg (cs.extract p (p + m)))) w := by
  have hl : (loadCells ⟨g, p, none⟩ (cs.extract p (p + m)).toList.length).run P w = .ok (cs.extract p (p + m)).toList.toArray w :=
    run_loadCells_list (P := P) w ⟨g, p, none⟩ (cs.extract p (p + m)).toList (fun j v hv => by
      have hadd : (⟨g, p, none⟩ : Addr).add j = ⟨g, p + j, none⟩ := by unfold Addr.add; split <;> simp_all
      rw [hadd, hg.cell]
      have hv2 : (cs.extract p (p + m))[j]? = some v := by rw [← Array.getElem?_toList]; exact hv
      rw [Array.getElem?_extract] at hv2
      split at hv2
      · exact hv2
      · cases hv2)
  have hz : (cs.extract p (p + m)).toList.length = m := by simp; omega
  rw [hz] at hl
  cases hd : P.underlying ty with
  | none => simp [hd] at hu
  | some d =>
    rw [hd] at hu
    cases hq : P.info? ty with
    | none => simp [hq] at hi
    | some i =>
      have hs : i.size = m := by simpa [hq] using hi
      have hagg : (isAgg ty).run P w = .ok true w := by
        unfold isAgg
        rw [Sem.run_bind, run_underlying hd w]
        cases d <;> simp_all
      have hrun : (loadVar ty ⟨g, p, none⟩).run P w = .ok (.agg (cs.extract p (p + m))) w := by
        simp only [Array.toArray_toList] at hl
        simp [loadVar, Sem.run_bind, hagg, sizeOf, typeInfo, hq, hs, hl]
      unfold execOp
      simp only [ho, hx, Instr.loadAt, Instr.sureAddr, Sem.run_bind, Sem.run_pure, Result.andThen_ok, hrun]
theorem run_load1 {g j : Nat} {t : TypeId} {cs : Array Value} {v : Value} (hg : Blk w g t cs) (ty : TypeId) (x : Operand) (ho : o.op = .load ty x)
    (hx : a.eval x = .pointer (some ⟨g, j, none⟩)) (hu : (match P.underlying ty with | some (.struct _) | some (.array _ _) | none => true | _ => false) = false) (hv : cs.toList[j]? = some v) : (execOp a.eval o).run P w = .ok (.value v) w := by
  cases hd : P.underlying ty with
  | none => simp [hd] at hu
  | some d =>
    rw [hd] at hu
    have hagg : (isAgg ty).run P w = .ok false w := by
      unfold isAgg
      rw [Sem.run_bind, run_underlying hd w]
      cases d <;> simp_all
    have hc : w.cell? ⟨g, j, none⟩ = some v := (hg.cell j).trans (by rw [← Array.getElem?_toList]; exact hv)
    have hrun : (loadVar ty ⟨g, j, none⟩).run P w = .ok v w := by
      simp [loadVar, Sem.run_bind, hagg, hc]
    unfold execOp
    simp only [ho, hx, Instr.loadAt, Instr.sureAddr, Sem.run_bind, Sem.run_pure, Result.andThen_ok, hrun]
theorem wpStill_loadPart_st {g p m : Nat} {t : TypeId} {cs : Array Value} (H : St w0 w I) (hw : Region.wanted o (yielded ops a.tmps) = true) (ty : TypeId) (x : Operand) (ho : o.op = .load ty x)
    (hx : a.eval x = .pointer (some ⟨g, p, none⟩)) [hm : HasB I g t cs] (hu : (match P.underlying ty with | some (.struct _) | some (.array _ _) => true | _ => false) = true) (hi : (P.info? ty).map (·.size) = some m) (hsz : Nat.ble (p + m) cs.size = true)
    (ds : Array Value) (hds : cs.extract p (p + m) = ds) (h : wpStill P ops w Q rest (a.put o.dst (.agg ds))) : wpStill P ops w Q (o :: rest) a := by
  subst hds
  exact still_of hw (run_loadPart (H.blk g) ty x ho hx hu hi (Nat.le_of_ble_eq_true hsz)) h
theorem wpStill_load1_st {g j : Nat} {t : TypeId} {cs : Array Value} {v : Value} (H : St w0 w I) (hw : Region.wanted o (yielded ops a.tmps) = true) (ty : TypeId) (x : Operand) (ho : o.op = .load ty x)
    (hx : a.eval x = .pointer (some ⟨g, j, none⟩)) [hm : HasB I g t cs] (hu : (match P.underlying ty with | some (.struct _) | some (.array _ _) | none => true | _ => false) = false) (hv : cs.toList[j]? = some v)
    (h : wpStill P ops w Q rest (a.put o.dst v)) : wpStill P ops w Q (o :: rest) a :=
  still_of hw (run_load1 (H.blk g) ty x ho hx hu hv) h
theorem wpQuiet_loadPart_st {g p m : Nat} {t : TypeId} {cs : Array Value} (H : St w0 w I) (hw : Region.wanted o (yielded ops a.tmps) = true) (ty : TypeId) (x : Operand) (ho : o.op = .load ty x)
    (hx : a.eval x = .pointer (some ⟨g, p, none⟩)) [hm : HasB I g t cs] (hu : (match P.underlying ty with | some (.struct _) | some (.array _ _) => true | _ => false) = true) (hi : (P.info? ty).map (·.size) = some m) (hsz : Nat.ble (p + m) cs.size = true)
    (ds : Array Value) (hds : cs.extract p (p + m) = ds) (h : wpQuiet P ops (fun w' => ∃ n, w' = w.drewN n) Q rest (a.put o.dst (.agg ds))) : wpQuiet P ops (fun w' => ∃ n, w' = w.drewN n) Q (o :: rest) a := by
  subst hds
  exact quiet_of hw (fun w' ⟨n, e⟩ => by subst e; exact run_loadPart ((H.blk g).drewN n) ty x ho hx hu hi (Nat.le_of_ble_eq_true hsz)) h
theorem wpQuiet_load1_st {g j : Nat} {t : TypeId} {cs : Array Value} {v : Value} (H : St w0 w I) (hw : Region.wanted o (yielded ops a.tmps) = true) (ty : TypeId) (x : Operand) (ho : o.op = .load ty x)
    (hx : a.eval x = .pointer (some ⟨g, j, none⟩)) [hm : HasB I g t cs] (hu : (match P.underlying ty with | some (.struct _) | some (.array _ _) | none => true | _ => false) = false) (hv : cs.toList[j]? = some v)
    (h : wpQuiet P ops (fun w' => ∃ n, w' = w.drewN n) Q rest (a.put o.dst v)) : wpQuiet P ops (fun w' => ∃ n, w' = w.drewN n) Q (o :: rest) a :=
  quiet_of hw (fun w' ⟨n, e⟩ => by subst e; exact run_load1 ((H.blk g).drewN n) ty x ho hx hu hv) h
end

/-! ### Less is known, in another order -/
/-- one thing is taken out -/
class Rem (I : List It) (x : It) (J : outParam (List It)) : Prop where
  out : I.Perm (x :: J)
class Subm (J I : List It) : Prop where
  out : ∃ R, I.Perm (J ++ R)
section
variable {w0 w w' : World} {I J K : List It} {x y : It}
instance (priority := high) Rem.here : Rem (x :: I) x I := ⟨List.Perm.refl _⟩
instance (priority := low) Rem.there [h : Rem I x J] : Rem (y :: I) x (y :: J) := ⟨(h.out.cons y).trans (List.Perm.swap x y J)⟩
instance (priority := high) Subm.self : Subm I I := ⟨[], by simp⟩
instance Subm.take [h : Rem I x K] [k : Subm J K] : Subm (x :: J) I := by
  obtain ⟨R, hR⟩ := k.out
  exact ⟨R, h.out.trans (hR.cons x)⟩
instance (priority := low) Subm.cut [h : Subm J I] : Subm J (x :: I) := by
  obtain ⟨R, hR⟩ := h.out
  exact ⟨x :: R, (hR.cons x).trans List.perm_middle.symm⟩
theorem St.subm (H : St w0 w I) (J : List It) [h : Subm J I] : St w0 w J := by
  obtain ⟨R, hR⟩ := h.out
  refine ⟨H.bel, fun x hx => H.all x (hR.mem_iff.2 (List.mem_append_left _ hx)), ?_⟩
  have := (hR.pairwise_iff (fun {a b} h => It.off.symm h)).1 H.apart
  exact (List.pairwise_append.1 this).1
end

/-- as before, at another world -/
theorem St.of {w0 w w' : World} {I J : List It} (_ : St w0 w J) (H : St w0 w' I) [Subm J I] : St w0 w' J := H.subm J

/-! ### Regions in whatever order -/
section
variable {P : Program} {l : List Oper} {Q : Exit → Act → World → Prop} {md : Region.Mode} {S : World → Prop} {fuel : Nat} {listed : Array Bool} {a : Act} {w : World}
def StepH (P : Program) (md : Region.Mode) (l : List Oper) (Q : Exit → Act → World → Prop) (S : World → Prop) (fuel : Nat) (listed : Array Bool) (a : Act) (w : World) (i : Nat) : Prop :=
  (Region.ready md l.toArray listed).contains i = true → wpOp P l.toArray Q i (fun a' w' => S w' ∧ wpAnyH P md l.toArray Q S fuel (listed.setIfInBounds i true) a' w') a w
def AllStep (P : Program) (md : Region.Mode) (l : List Oper) (Q : Exit → Act → World → Prop) (S : World → Prop) (fuel : Nat) (listed : Array Bool) (a : Act) (w : World) (hs : List Nat) : Prop := ∀ i ∈ hs, StepH P md l Q S fuel listed a w i
theorem AllStep.nil : AllStep P md l Q S fuel listed a w [] := fun _ h => by cases h
theorem AllStep.cons {i : Nat} {hs : List Nat} (h : StepH P md l Q S fuel listed a w i) (k : AllStep P md l Q S fuel listed a w hs) : AllStep P md l Q S fuel listed a w (i :: hs) := fun j hj => by
  rcases List.mem_cons.1 hj with rfl | hj
  · exact h
  · exact k j hj
theorem branchH (hs : List Nat) (hsub : (Region.ready md l.toArray listed).all (hs.contains ·) = true) (hne : (Region.ready md l.toArray listed).isEmpty = false) (h : AllStep P md l Q S fuel listed a w hs) : wpAnyH P md l.toArray Q S (fuel + 1) listed a w := by
  refine ⟨fun h0 => (by rw [h0] at hne; cases hne), fun i hi => ?_⟩
  have h1 : i ∈ hs := by simpa using List.all_eq_true.1 hsub i hi
  exact h i h1 (by simpa using hi)
theorem stepH_skip {i : Nat} (h : (Region.ready md l.toArray listed).contains i = false) : StepH P md l Q S fuel listed a w i := fun h' => by rw [h] at h'; cases h'
theorem stepH_do {i : Nat} {o : Oper} {rest : List Oper} (hi : l.drop i = o :: rest) (hg : Region.wanted o (yielded l.toArray a.tmps) = true) (h : o.wp P a w (fun a' w' => S w' ∧ wpAnyH P md l.toArray Q S fuel (listed.setIfInBounds i true) a' w') Q) : StepH P md l Q S fuel listed a w i := fun _ => by
  unfold wpOp
  rw [at_of_drop hi]
  simp only [hg, if_true]
  exact .inl h
theorem doneH (hr : Region.ready md l.toArray listed = []) (h : Q .normal a w) : wpAnyH P md l.toArray Q S fuel listed a w := wpAnyH_done hr h fuel
theorem startH {id : Nat} (hm : P.follows .mixedOrders = true) (h : wpAnyH P .any l.toArray Q S l.length (Array.replicate l.length false) a w.drew) : (Code.region id l.toArray true).wp P Q a w := wp_region_held (S := S) hm (by simpa using h)
/-- what is taken first: nothing is read -/
theorem takeV {i : Nat} {oi : Oper} {rest : List Oper} {v : Value} (hi : l.drop i = oi :: rest)
    (hs : Region.noSelect l.toArray = true) (hf : Region.free md l.toArray listed i = true) (hr : (Region.ready md l.toArray listed).contains i = true)
    (hQ : ∀ c a w, Q (.panic c) (a.put oi.dst v) w → Q (.panic c) a w) (hw : Region.wanted oi (yielded l.toArray a.tmps) = true) (hy : ∀ w, S w → (execOp a.eval oi).run P w = .ok (.value v) w) (hS : S w)
    (h : wpAnyH P md l.toArray Q S fuel (listed.setIfInBounds i true) (a.put oi.dst v) w) : wpAnyH P md l.toArray Q S (fuel + 1) listed a w :=
  wpAnyH_take (at_of_drop hi) hs hf hr hQ (.inl ⟨hw, hy⟩) hS h
theorem eval_tmp {t : Nat} {v : Value} (h : a.tmps.toList[t]? = some v) : a.eval (.tmp t) = v := by
  have h' : a.tmps[t]? = some v := by rw [← Array.getElem?_toList]; exact h
  simp [Act.eval, h']
theorem run_extract_st {o : Oper} {x : Operand} {k : Nat} {vs : List Value} {v : Value} {W : World} (ho : o.op = .extract x k) (hx : a.eval x = .tuple vs.toArray) (hv : vs[k]? = some v) : (execOp a.eval o).run P W = .ok (.value v) W := by
  unfold execOp
  simp only [ho, hx]
  simp [Instr.extract, hv]
theorem takeMove {i t : Nat} {oi : Oper} {rest : List Oper} (hi : l.drop i = oi :: rest) (ho : oi.op = .move (.tmp t)) (v : Value) (hv : a.tmps.toList[t]? = some v)
    (hs : Region.noSelect l.toArray = true) (hf : Region.free md l.toArray listed i = true) (hr : (Region.ready md l.toArray listed).contains i = true)
    (hQ : ∀ c a v w, Q (.panic c) (a.put oi.dst v) w → Q (.panic c) a w) (hw : Region.wanted oi (yielded l.toArray a.tmps) = true) (hS : S w)
    (h : wpAnyH P md l.toArray Q S fuel (listed.setIfInBounds i true) (a.put oi.dst v) w) : wpAnyH P md l.toArray Q S (fuel + 1) listed a w :=
  takeV hi hs hf hr (fun c a w => hQ c a _ w) hw (fun _ _ => by unfold execOp; rw [ho]; simp only [eval_tmp hv]; rfl) hS h
theorem takeAssign {i t : Nat} {oi : Oper} {rest : List Oper} (hi : l.drop i = oi :: rest) (ho : oi.op = .assign (.tmp t)) (v : Value) (hv : a.tmps.toList[t]? = some v)
    (hs : Region.noSelect l.toArray = true) (hf : Region.free md l.toArray listed i = true) (hr : (Region.ready md l.toArray listed).contains i = true)
    (hQ : ∀ c a v w, Q (.panic c) (a.put oi.dst v) w → Q (.panic c) a w) (hw : Region.wanted oi (yielded l.toArray a.tmps) = true) (hS : S w)
    (h : wpAnyH P md l.toArray Q S fuel (listed.setIfInBounds i true) (a.put oi.dst v) w) : wpAnyH P md l.toArray Q S (fuel + 1) listed a w :=
  takeV hi hs hf hr (fun c a w => hQ c a _ w) hw (fun _ _ => by unfold execOp; rw [ho]; simp only [eval_tmp hv]; rfl) hS h
theorem takeExtract {i t k : Nat} {oi : Oper} {rest : List Oper} (hi : l.drop i = oi :: rest) (ho : oi.op = .extract (.tmp t) k) (vs : List Value) (v : Value) (hx : a.tmps.toList[t]? = some (.tuple vs.toArray)) (hv : vs[k]? = some v)
    (hs : Region.noSelect l.toArray = true) (hf : Region.free md l.toArray listed i = true) (hr : (Region.ready md l.toArray listed).contains i = true)
    (hQ : ∀ c a v w, Q (.panic c) (a.put oi.dst v) w → Q (.panic c) a w) (hw : Region.wanted oi (yielded l.toArray a.tmps) = true) (hS : S w)
    (h : wpAnyH P md l.toArray Q S fuel (listed.setIfInBounds i true) (a.put oi.dst v) w) : wpAnyH P md l.toArray Q S (fuel + 1) listed a w :=
  takeV hi hs hf hr (fun c a w => hQ c a _ w) hw (fun _ _ => run_extract_st ho (eval_tmp hx) hv) hS h
end
section
variable {P : Program} {l : List Oper} {o : Oper} {a : Act} {w0 w : World} {I J : List It} {Q : Exit → Act → World → Prop} {K : Act → World → Prop} {md : Region.Mode} {fuel : Nat} {listed : Array Bool}
theorem takePart_st {i g p m : Nat} {oi : Oper} {rest : List Oper} {t : TypeId} {cs : Array Value} (ty : TypeId) (x : Operand) (hi : l.drop i = oi :: rest) (ho : oi.op = .load ty x) (hx : a.eval x = .pointer (some ⟨g, p, none⟩)) [hm : HasB I g t cs]
    (hu : (match P.underlying ty with | some (.struct _) | some (.array _ _) => true | _ => false) = true) (hii : (P.info? ty).map (·.size) = some m) (hsz : Nat.ble (p + m) cs.size = true) (ds : Array Value) (hds : cs.extract p (p + m) = ds)
    (hs : Region.noSelect l.toArray = true) (hf : Region.free md l.toArray listed i = true) (hr : (Region.ready md l.toArray listed).contains i = true)
    (hQ : ∀ c a v w, Q (.panic c) (a.put oi.dst v) w → Q (.panic c) a w) (hw : Region.wanted oi (yielded l.toArray a.tmps) = true) (hS : St w0 w I)
    (h : wpAnyH P md l.toArray Q (fun W => St w0 W I) fuel (listed.setIfInBounds i true) (a.put oi.dst (.agg ds)) w) : wpAnyH P md l.toArray Q (fun W => St w0 W I) (fuel + 1) listed a w := by
  subst hds
  exact takeV hi hs hf hr (fun c a w => hQ c a _ w) hw (fun _ h => run_loadPart (h.blk g) ty x ho hx hu hii (Nat.le_of_ble_eq_true hsz)) hS h
theorem take1_st {i g j : Nat} {oi : Oper} {rest : List Oper} {t : TypeId} {cs : Array Value} (ty : TypeId) (x : Operand) (hi : l.drop i = oi :: rest) (ho : oi.op = .load ty x) (hx : a.eval x = .pointer (some ⟨g, j, none⟩)) [hm : HasB I g t cs]
    (hu : (match P.underlying ty with | some (.struct _) | some (.array _ _) | none => true | _ => false) = false) (v : Value) (hv : cs.toList[j]? = some v)
    (hs : Region.noSelect l.toArray = true) (hf : Region.free md l.toArray listed i = true) (hr : (Region.ready md l.toArray listed).contains i = true)
    (hQ : ∀ c a v w, Q (.panic c) (a.put oi.dst v) w → Q (.panic c) a w) (hw : Region.wanted oi (yielded l.toArray a.tmps) = true) (hS : St w0 w I)
    (h : wpAnyH P md l.toArray Q (fun W => St w0 W I) fuel (listed.setIfInBounds i true) (a.put oi.dst v) w) : wpAnyH P md l.toArray Q (fun W => St w0 W I) (fuel + 1) listed a w :=
  takeV hi hs hf hr (fun c a w => hQ c a _ w) hw (fun _ h => run_load1 (h.blk g) ty x ho hx hu hv) hS h
/-! the operations that make or write memory, one at a time -/
theorem wp_alloc_st (H : St w0 w I) (ty : TypeId) (ho : o.op = .alloc ty) (zs : Array Value) (hz : (P.info? ty).bind (·.zero) = some (.agg zs))
    (h : ∀ g w', St w0 w' (.bl g ty zs :: I) → K (a.put o.dst (.pointer (some ⟨g, 0, none⟩))) w') : o.wp P a w K Q :=
  wp_alloc_row ty ho zs hz fun w' E hg _ => h _ w' (H.allocd E hg rfl)
theorem wp_alloc1_st (H : St w0 w I) (ty : TypeId) (ho : o.op = .alloc ty) (z : Value) (hz : (P.info? ty).bind (·.zero) = some z) (h1 : z.cells = #[z])
    (h : ∀ g w', St w0 w' (.bl g ty #[z] :: I) → K (a.put o.dst (.pointer (some ⟨g, 0, none⟩))) w') : o.wp P a w K Q := by
  unfold Oper.wp execOp
  simp only [ho, Sem.run_bind, run_alloc_one ty z w hz h1, Result.andThen_ok, Sem.run_pure]
  exact h _ _ (H.box ty #[z])
theorem wp_store_st {g : Nat} {t : TypeId} {old cells : Array Value} (H : St w0 w I) (ty : TypeId) (x y : Operand) (ho : o.op = .store ty x y)
    (hx : a.eval x = .pointer (some ⟨g, 0, none⟩)) (hy : a.eval y = .agg cells) [U : UpdB I g t old cells J] (hi : (P.info? ty).map (·.size) = some cells.size)
    (hold : old.size = cells.size) (h1 : cells.all (·.oneCell') = true)
    (h : ∀ w', St w0 w' J → K (a.put o.dst undef) w') : o.wp P a w K Q := by
  have hin : It.bl g t old ∈ I := by
    obtain ⟨P, R, rfl, _⟩ := U.out.out
    simp
  exact wp_store_rowQ ty x y ho g cells hx hy t old (H.all _ hin).2 hi hold h1 fun w' E hg _ => h w' (H.updB hg E)
/-- a call of a Go function -/
theorem wp_call_st {f : FuncId} {fn : Func} {xs : Array Operand} {ats : Array TypeId} (ho : o.op = .call { callee := .value (.func f), args := xs, argTypes := ats }) (hf : P.funcs[f]? = some fn) (hname : (fn.name == "runtime.NumGoroutine") = false) (hb : fn.body.isSome = true)
    (vl : List Value) (hxs : xs.toList.map a.eval = vl) (h : Calls P f vl.toArray w fun e w' => ∃ v, e = .returned v ∧ K (a.put o.dst v) w') : o.wp P a w K Q := by
  have hxs : xs.map a.eval = vl.toArray := by
    subst hxs
    cases xs
    simp
  have h1 : ¬ fn.name = "runtime.NumGoroutine" := by simpa using hname
  have h2 : ¬ fn.body = none := by cases hx : fn.body <;> simp_all
  have hrun : (execOp a.eval o).run P w = .ok (.enter f (xs.map a.eval)) w := by
    unfold execOp
    simp [ho, resolve, Deferred.ofValue, invoke, callFunc, hf, h1, h2, Act.eval]
  unfold Oper.wp
  rw [hrun, hxs]
  refine h.mono fun e w' he => ?_
  obtain ⟨v, rfl, hk⟩ := he
  exact hk
end

section
variable {P : Program} {l : List Oper} {a : Act} {w0 w : World} {I : List It} {Q : Exit → Act → World → Prop} {md : Region.Mode} {fuel : Nat} {listed : Array Bool}
theorem startS {id : Nat} (H : St w0 w I) (hm : P.follows .mixedOrders = true) (h : St w0 w.drew I → wpAnyH P .any l.toArray Q (fun W => St w0 W I) l.length (Array.replicate l.length false) a w.drew) : (Code.region id l.toArray true).wp P Q a w := startH hm (h H.drew)
theorem takeRow_st {i g : Nat} {oi : Oper} {rest : List Oper} {t : TypeId} {cs : Array Value} (ty : TypeId) (x : Operand) (hi : l.drop i = oi :: rest) (ho : oi.op = .load ty x) (hx : a.eval x = .pointer (some ⟨g, 0, none⟩)) [hm : HasB I g t cs]
    (hu : (match P.underlying ty with | some (.struct _) | some (.array _ _) => true | _ => false) = true) (hii : (P.info? ty).map (·.size) = some cs.size)
    (hs : Region.noSelect l.toArray = true) (hf : Region.free md l.toArray listed i = true) (hr : (Region.ready md l.toArray listed).contains i = true)
    (hQ : ∀ c a v w, Q (.panic c) (a.put oi.dst v) w → Q (.panic c) a w) (hw : Region.wanted oi (yielded l.toArray a.tmps) = true) (hS : St w0 w I)
    (h : wpAnyH P md l.toArray Q (fun W => St w0 W I) fuel (listed.setIfInBounds i true) (a.put oi.dst (.agg cs)) w) : wpAnyH P md l.toArray Q (fun W => St w0 W I) (fuel + 1) listed a w := by
  refine takePart_st (p := 0) (m := cs.size) ty x hi ho hx hu hii (by simp) cs ?_ hs hf hr hQ hw hS h
  simp
end

/-! ### A slice of one element, that is laid; append -/
theorem fold_spl : ∀ (vs : List Value) (k off : Nat) (cs : Array Value), (vs.zipIdx k).foldl (fun cs (c, j) => cs.setIfInBounds (off + j) c) cs = spl cs (off + k) vs
  | [], _, _, _ => rfl
  | v :: vs, k, off, cs => by
    rw [List.zipIdx_cons, List.foldl_cons, fold_spl vs (k + 1) off]
    rfl
theorem spl_all (A B : Array Value) (h : A.size = B.size) : spl A 0 B.toList = B := by
  have := spl_front A B #[] h
  simpa using this
section
variable {P : Program} {o : Oper} {a : Act} {w0 w : World} {I : List It} {J : It → List It} {Q : Exit → Act → World → Prop} {K : Act → World → Prop}
theorem run_buildSlice1 (t e : TypeId) (z : Value) (cs : Array Value) (ht : P.underlying t = some (.slice e)) (hi : (P.info? e).map (fun i => (i.zero, i.size)) = some (some z, cs.size)) (h0 : 0 < cs.size) (hsm : cs.size ≤ 1000) (v : Value) (hv : v.cells = cs) :
    (Instr.buildSlice t 1 #[(0, v)]).run P w = .ok (.slice (some ⟨w.heap.size, 0, none⟩) 1 1) (w.alloc (.cells cs e)) := by
  cases hq : P.info? e with
  | none => simp [hq] at hi
  | some i =>
    simp only [hq, Option.map_some, Option.some.injEq, Prod.mk.injEq] at hi
    obtain ⟨hz, hs⟩ := hi
    have hzv : (Go.zeroValue e).run P w = .ok z w := by simp [Go.zeroValue, Sem.run_bind, typeInfo, hq, hz]
    have hfill : ∀ A : Array Value, A.size = cs.size → Instr.fill (fun i => some (i * cs.size, cs.size)) A [(0, v)] = some cs := by
      intro A hA
      unfold Instr.fill
      simp only [hv, Nat.zero_mul, Nat.zero_add, hA]
      rw [if_neg (by simp)]
      unfold Instr.fill
      have := fold_spl cs.toList 0 0 A
      rw [spl_all A cs hA] at this
      simp only [Nat.zero_add] at this
      rw [← Array.foldl_toList, Array.toList_zipIdx]
      exact congrArg some this
    have hso : (sizeOf e).run P w = .ok cs.size w := by simp [sizeOf, typeInfo, hq, hs]
    have hne : ¬ cs.size = 0 := by omega
    have hle : ¬ 16777216 < cs.size := by omega
    have hF := hfill (Array.map (fun x => z.cells[x % z.cells.size]!) (Array.range cs.size)) (by simp)
    have hF' : ∀ pl : Nat → Option (Nat × Nat), (∀ i, pl i = some (i * cs.size, cs.size)) → Instr.fill pl (Array.map (fun x => z.cells[x % z.cells.size]!) (Array.range cs.size)) [(0, v)] = some cs := fun pl h => by
      rw [show pl = fun i => some (i * cs.size, cs.size) from funext h]
      exact hF
    unfold Instr.buildSlice
    simp [Sem.run_bind, run_underlying ht, hso, hzv, hne, hle, hF']
    simp [newRow, go_sem]
theorem wp_buildSlice1_st (H : St w0 w I) (t : TypeId) (x : Operand) (ho : o.op = .buildSlice t 1 #[(0, x)]) (e : TypeId) (ht : P.underlying t = some (.slice e)) (cs : Array Value) (hx : a.eval x = .agg cs) (z : Value) (hi : (P.info? e).map (fun i => (i.zero, i.size)) = some (some z, cs.size)) (h0 : Nat.blt 0 cs.size = true) (hsm : Nat.ble cs.size 1000 = true)
    (h : ∀ g w', St w0 w' (.bl g e cs :: I) → K (a.put o.dst (.slice (some ⟨g, 0, none⟩) 1 1)) w') : o.wp P a w K Q := by
  have hrun := run_buildSlice1 (P := P) (w := w) t e z cs ht hi (by simpa [Nat.blt_eq] using h0) (Nat.le_of_ble_eq_true hsm) (.agg cs) rfl
  unfold Oper.wp execOp
  simp only [ho, List.map_toArray, List.map_cons, List.map_nil, hx, Sem.run_bind, hrun, Result.andThen_ok, Sem.run_pure]
  exact h _ _ (H.box e cs)
/-- append of what a block holds -/
theorem wp_appendB_st {g : Nat} {v : Value} {e : TypeId} {size n : Nat} {xs : List Value} {cs : Array Value} (H : St w0 w I) (s x : Operand) (t : TypeId)
    (ho : o.op = .call { callee := .builtin .append, args := #[s, x], argTypes := #[t, t] }) (hs : a.eval s = v) (hx : a.eval x = .slice (some ⟨g, 0, none⟩) 1 1)
    (ht : P.underlying t = some (.slice e)) [hb : HasB I g e cs] [h : RepO I e v size n xs J] (z : Value) (bytes : Nat) (hi : (P.info? e).map (fun i => (i.zero, i.size, i.bytes)) = some (some z, size, bytes))
    (hzs : z.cells.size = size) (hsz : Nat.blt 0 size = true) (hcs : cs.size = size) (h1 : cs.all (·.oneCell') = true)
    (h63 : n + 1 ≤ maxLen) (hbytes : (n + 1) * bytes ≤ 140737488355328)
    (hk : ∀ A c w', n + 1 ≤ c → c ≤ maxLen → St w0 w' (J (.ow e size (.slice A (n + 1) c) (n + 1) (xs ++ cs.toList))) → K (a.put o.dst (.slice A (n + 1) c)) w') : o.wp P a w K Q := by
  cases hq : P.info? e with
  | none => simp [hq] at hi
  | some i =>
    simp only [hq, Option.map_some, Option.some.injEq, Prod.mk.injEq] at hi
    have hB := H.blk g (t := e) (cs := cs)
    have hr : Reads w w.heap.size size (some ⟨g, 0, none⟩) 1 cs.toList :=
      ⟨by simp [hcs], fun _ => ⟨_, rfl, hB.lt, fun j u hu => by
        have hadd : (⟨g, 0, none⟩ : Addr).add j = ⟨g, j, none⟩ := by unfold Addr.add; split <;> simp_all
        rw [hadd, hB.cell, ← Array.getElem?_toList, hu]⟩⟩
    refine wp_append_any _ s x t ho w0.heap.size e i z size bytes ht hq hi.1 hi.2.1 hi.2.2 hzs (by simpa [Nat.blt_eq] using hsz) v n xs hs (H.own e v) _ _ 1 1 cs.toList hx hr (fun u hu => (Array.all_eq_true_iff_forall_mem.1 h1) u (by simpa using hu)) h63 hbytes H.bel.size fun v' w' ho' hg' hv' => ?_
    obtain ⟨A', c', rfl, hc1, hc2⟩ := own_shape ho'
    exact hk A' c' w' hc1 hc2 (H.appended ho' hg' hv')
/-- one cell is stored -/
theorem wp_store1_st {g j : Nat} {t : TypeId} {old : Array Value} {I' : List It} (H : St w0 w I) (ty : TypeId) (x y : Operand) (ho : o.op = .store ty x y)
    (hx : a.eval x = .pointer (some ⟨g, j, none⟩)) (v : Value) (hy : a.eval y = v) (hv : v.cells = #[v]) (new : Array Value) [U : UpdB I g t old new I'] (hnew : old.setIfInBounds j v = new) (hi : (P.info? ty).map (·.size) = some 1)
    (hold : Nat.blt j old.size = true) (h1 : v.oneCell' = true)
    (h : ∀ w', St w0 w' I' → K (a.put o.dst undef) w') : o.wp P a w K Q := by
  subst hnew
  have hin : It.bl g t old ∈ I := by
    obtain ⟨P, R, rfl, _⟩ := U.out.out
    simp
  have hb := (H.all _ hin).2
  replace hold : j < old.size := by simpa [Nat.blt_eq] using hold
  have hrun : (storeVar ty ⟨g, j, none⟩ v).run P w = .ok () (w.setRow g (old.setIfInBounds j v)) := by
    have := run_storeCells_spl (P := P) g j t [v] 0 old w hb (by simp; omega) (by simpa using h1)
    cases hq : P.info? ty with
    | none => simp [hq] at hi
    | some i =>
      have hs : i.size = 1 := by simp [hq] at hi; omega
      simp only [Nat.add_zero, spl] at this
      simp [storeVar, sizeOf, typeInfo, hq, hv, hs, this]
  unfold Oper.wp execOp
  simp only [ho, hx, hy, Instr.storeAt, Instr.sureAddr, Sem.run_bind, Sem.run_pure, Result.andThen_ok, hrun]
  exact h _ (H.updB setRow_grown hb.setRow_)
/-- a struct, an array into a part of a block -/
theorem wp_storePart_st {g p : Nat} {t : TypeId} {old cells : Array Value} {I' : List It} (H : St w0 w I) (ty : TypeId) (x y : Operand) (ho : o.op = .store ty x y)
    (hx : a.eval x = .pointer (some ⟨g, p, none⟩)) (hy : a.eval y = .agg cells) (new : Array Value) [U : UpdB I g t old new I'] (hnew : spl old p cells.toList = new) (hi : (P.info? ty).map (·.size) = some cells.size)
    (hold : Nat.ble (p + cells.size) old.size = true) (h1 : cells.all (·.oneCell') = true)
    (h : ∀ w', St w0 w' I' → K (a.put o.dst undef) w') : o.wp P a w K Q := by
  subst hnew
  have hin : It.bl g t old ∈ I := by
    obtain ⟨P, R, rfl, _⟩ := U.out.out
    simp
  have hb := (H.all _ hin).2
  replace hold := Nat.le_of_ble_eq_true hold
  have hrun : (storeVar ty ⟨g, p, none⟩ (.agg cells)).run P w = .ok () (w.setRow g (spl old p cells.toList)) := by
    have := run_storeCells_spl (P := P) g p t cells.toList 0 old w hb (by simp; omega) (fun v hv => (Array.all_eq_true_iff_forall_mem.1 h1) v (by simpa using hv))
    cases hq : P.info? ty with
    | none => simp [hq] at hi
    | some i =>
      have hs : cells.size = i.size := by simp [hq] at hi; omega
      simp only [Nat.add_zero] at this
      simp [storeVar, sizeOf, typeInfo, hq, Value.cells, hs, this]
  unfold Oper.wp execOp
  simp only [ho, hx, hy, Instr.storeAt, Instr.sureAddr, Sem.run_bind, Sem.run_pure, Result.andThen_ok, hrun]
  exact h _ (H.updB setRow_grown hb.setRow_)
end

section
variable {P : Program} {l : List Oper} {o : Oper} {a : Act} {w0 w : World} {I : List It} {Q : Exit → Act → World → Prop} {K : Act → World → Prop}
theorem startT {id : Nat} (hm : P.follows .mixedOrders = true) (h : wpAnyH P .any l.toArray Q (fun _ => True) l.length (Array.replicate l.length false) a w.drew) : (Code.region id l.toArray true).wp P Q a w := startH hm h
theorem wp_load1_st {g j : Nat} {t : TypeId} {cs : Array Value} {v : Value} (H : St w0 w I) (ty : TypeId) (x : Operand) (ho : o.op = .load ty x)
    (hx : a.eval x = .pointer (some ⟨g, j, none⟩)) [hm : HasB I g t cs] (hu : (match P.underlying ty with | some (.struct _) | some (.array _ _) | none => true | _ => false) = false) (hv : cs.toList[j]? = some v)
    (h : K (a.put o.dst v) w) : o.wp P a w K Q := by
  unfold Oper.wp
  rw [run_load1 (H.blk g) ty x ho hx hu hv]
  exact h
theorem wp_loadPart_st {g p m : Nat} {t : TypeId} {cs : Array Value} (H : St w0 w I) (ty : TypeId) (x : Operand) (ho : o.op = .load ty x)
    (hx : a.eval x = .pointer (some ⟨g, p, none⟩)) [hm : HasB I g t cs] (hu : (match P.underlying ty with | some (.struct _) | some (.array _ _) => true | _ => false) = true) (hi : (P.info? ty).map (·.size) = some m) (hsz : Nat.ble (p + m) cs.size = true)
    (ds : Array Value) (hds : cs.extract p (p + m) = ds) (h : K (a.put o.dst (.agg ds)) w) : o.wp P a w K Q := by
  subst hds
  unfold Oper.wp
  rw [run_loadPart (H.blk g) ty x ho hx hu hi (Nat.le_of_ble_eq_true hsz)]
  exact h
theorem wp_loadRow_st {g : Nat} {t : TypeId} {cs : Array Value} (H : St w0 w I) (ty : TypeId) (x : Operand) (ho : o.op = .load ty x)
    (hx : a.eval x = .pointer (some ⟨g, 0, none⟩)) [hm : HasB I g t cs] (hu : (match P.underlying ty with | some (.struct _) | some (.array _ _) => true | _ => false) = true) (hi : (P.info? ty).map (·.size) = some cs.size)
    (h : K (a.put o.dst (.agg cs)) w) : o.wp P a w K Q :=
  wp_loadPart_st (p := 0) (m := cs.size) H ty x ho hx hu hi (by simp) cs (by simp) h
end

section
variable {P : Program} {ops : Array Oper} {rest : List Oper} {o : Oper} {a : Act} {w0 w : World} {I I' : List It} {Q : Exit → Act → World → Prop}
theorem wpList_storePart2_st {g p : Nat} {t : TypeId} {old cells : Array Value} (H : St w0 w I) (hgd : o.guard = none) (ty : TypeId) (x y : Operand) (ho : o.op = .store ty x y)
    (hx : a.eval x = .pointer (some ⟨g, p, none⟩)) (hy : a.eval y = .agg cells) (new : Array Value) [U : UpdB I g t old new I'] (hnew : spl old p cells.toList = new) (hi : (P.info? ty).map (·.size) = some cells.size)
    (hold : Nat.ble (p + cells.size) old.size = true) (h1 : cells.all (·.oneCell') = true)
    (h : ∀ w', St w0 w' I' → wpList P ops Q rest (a.put o.dst undef) w') : wpList P ops Q (o :: rest) a w :=
  wpList_plain hgd fun _ hK => wp_storePart_st H ty x y ho hx hy new hnew hi hold h1 fun w' h' => hK _ _ (h w' h')
end

theorem St.loadRow {P : Program} {w0 w : World} {I : List It} (H : St w0 w I) (ty : TypeId) (g : Nat) {t : TypeId} {cs : Array Value} [hm : HasB I g t cs] (hu : (match P.underlying ty with | some (.struct _) | some (.array _ _) => true | _ => false) = true) (hi : (P.info? ty).map (·.size) = some cs.size) :
    (loadVar ty ⟨g, 0, none⟩).run P w = .ok (.agg cs) w := by
  cases hd : P.underlying ty with
  | none => simp [hd] at hu
  | some d =>
    rw [hd] at hu
    exact run_loadVar_row w g t ty cs (0, 0) d (H.blk g) hd (by cases d <;> simp_all) hi

section
variable {P : Program} {ops : Array Oper} {rest : List Oper} {o : Oper} {a : Act} {w0 w : World} {I : List It} {J : It → List It} {Q : Exit → Act → World → Prop}
theorem wpList_buildSlice1_st (H : St w0 w I) (hgd : o.guard = none) (t : TypeId) (x : Operand) (ho : o.op = .buildSlice t 1 #[(0, x)]) (e : TypeId) (ht : P.underlying t = some (.slice e)) (cs : Array Value) (hx : a.eval x = .agg cs) (z : Value) (hi : (P.info? e).map (fun i => (i.zero, i.size)) = some (some z, cs.size)) (h0 : Nat.blt 0 cs.size = true) (hsm : Nat.ble cs.size 1000 = true)
    (h : ∀ g w', St w0 w' (.bl g e cs :: I) → wpList P ops Q rest (a.put o.dst (.slice (some ⟨g, 0, none⟩) 1 1)) w') : wpList P ops Q (o :: rest) a w :=
  wpList_plain hgd fun _ hK => wp_buildSlice1_st H t x ho e ht cs hx z hi h0 hsm fun g w' H' => hK _ _ (h g w' H')
theorem wpList_appendB_st {g : Nat} {v : Value} {e : TypeId} {size n : Nat} {xs : List Value} {cs : Array Value} (H : St w0 w I) (hgd : o.guard = none) (s x : Operand) (t : TypeId)
    (ho : o.op = .call { callee := .builtin .append, args := #[s, x], argTypes := #[t, t] }) (hs : a.eval s = v) (hx : a.eval x = .slice (some ⟨g, 0, none⟩) 1 1)
    (ht : P.underlying t = some (.slice e)) [hb : HasB I g e cs] [hr : RepO I e v size n xs J] (z : Value) (bytes : Nat) (hi : (P.info? e).map (fun i => (i.zero, i.size, i.bytes)) = some (some z, size, bytes))
    (hzs : z.cells.size = size) (hsz : Nat.blt 0 size = true) (hcs : cs.size = size) (h1 : cs.all (·.oneCell') = true)
    (h63 : n + 1 ≤ maxLen) (hbytes : (n + 1) * bytes ≤ 140737488355328)
    (hk : ∀ A c w', n + 1 ≤ c → c ≤ maxLen → St w0 w' (J (.ow e size (.slice A (n + 1) c) (n + 1) (xs ++ cs.toList))) → wpList P ops Q rest (a.put o.dst (.slice A (n + 1) c)) w') : wpList P ops Q (o :: rest) a w :=
  wpList_plain hgd fun _ hK => wp_appendB_st H s x t ho hs hx ht z bytes hi hzs hsz hcs h1 h63 hbytes fun A c w' k1 k2 H' => hK _ _ (hk A c w' k1 k2 H')
end
theorem off_of_mem {x z : It} : ∀ {I : List It}, I.Pairwise It.off → x ∈ I → z ∈ I → x ≠ z → x.off z
  | [], _, hx, _, _ => by cases hx
  | a :: I, hp, hx, hz, hne => by
    obtain ⟨h1, h2⟩ := List.pairwise_cons.1 hp
    cases hx with
    | head => cases hz with
      | head => exact absurd rfl hne
      | tail _ hz' => exact h1 z hz'
    | tail _ hx' => cases hz with
      | head => exact (h1 x hx').symm
      | tail _ hz' => exact off_of_mem h2 hx' hz' hne
/-- a part of what is read -/
theorem St.again {w0 w : World} {I : List It} {s s' n n' : Nat} {A A' : Option Addr} {xs xs' : List Value} (H : St w0 w I) [h : Has I (.rd s A n xs)] (hy : Reads w w.heap.size s' A' n' xs') (ha : ∀ g, (It.rd s' A' n' xs').area = some g → (It.rd s A n xs).area = some g) : St w0 w (.rd s' A' n' xs' :: I) := by
  refine ⟨H.bel, fun x hx => ?_, List.pairwise_cons.2 ⟨fun z hz hw g h1 h2 => ?_, H.apart⟩⟩
  · rcases List.mem_cons.1 hx with rfl | hx
    · exact hy
    · exact H.all x hx
  · have hzw : z.wr = true := by
      rcases hw with hw | hw
      · cases hw
      · exact hw
    have hne : It.rd s A n xs ≠ z := fun e => by rw [← e] at hzw; cases hzw
    exact off_of_mem H.apart h.mem hz hne (.inr hzw) g (ha g h1) h2

section
variable {P : Program} {o : Oper} {a : Act} {w0 w : World} {I : List It} {J : It → List It} {Q : Exit → Act → World → Prop} {K : Act → World → Prop}
theorem wp_append_st {v : Value} {e : TypeId} {size n m c : Nat} {A : Option Addr} {xs news : List Value} (H : St w0 w I) (s x : Operand) (t : TypeId)
    (ho : o.op = .call { callee := .builtin .append, args := #[s, x], argTypes := #[t, t] }) (hs : a.eval s = v) (hx : a.eval x = .slice A m c)
    (ht : P.underlying t = some (.slice e)) [h : RepO I e v size n xs J] (z : Value) (bytes : Nat) (hi : (P.info? e).map (fun i => (i.zero, i.size, i.bytes)) = some (some z, size, bytes))
    (hzs : z.cells.size = size) (hsz : 0 < size) (hr : Reads w w.heap.size size A m news) (h1 : ∀ u ∈ news, u.oneCell' = true)
    (h63 : n + m ≤ maxLen) (hbytes : (n + m) * bytes ≤ 140737488355328)
    (hk : ∀ A c w', n + m ≤ c → c ≤ maxLen → St w0 w' (J (.ow e size (.slice A (n + m) c) (n + m) (xs ++ news))) → K (a.put o.dst (.slice A (n + m) c)) w') : o.wp P a w K Q := by
  cases hq : P.info? e with
  | none => simp [hq] at hi
  | some i =>
    simp only [hq, Option.map_some, Option.some.injEq, Prod.mk.injEq] at hi
    refine wp_append_any _ s x t ho w0.heap.size e i z size bytes ht hq hi.1 hi.2.1 hi.2.2 hzs hsz v n xs hs (H.own e v) _ _ m c news hx hr h1 h63 hbytes H.bel.size fun v' w' ho' hg' hv' => ?_
    obtain ⟨A', c', rfl, hc1, hc2⟩ := own_shape ho'
    exact hk A' c' w' hc1 hc2 (H.appended ho' hg' hv')
end

end Go.Proofs.Ytjmncbfmjeeneaa

namespace Go.Proofs.Ytjmncbfmjeeneaa
open Go.RowKit

def isRowB : Option TypeDesc → Bool
  | some (.struct _) => true
  | some (.array _ _) => true
  | _ => false
def isScB : Option TypeDesc → Bool
  | some (.struct _) => false
  | some (.array _ _) => false
  | none => false
  | _ => true
section
variable {P : Program} {ops : Array Oper} {rest : List Oper} {o : Oper} {a : Act} {w0 w : World} {I J : List It} {Q : Exit → Act → World → Prop}
theorem isRow_to (d : Option TypeDesc) : isRowB d = true → (match d with | some (.struct _) | some (.array _ _) => true | _ => false) = true := by
  intro h
  cases d with
  | none => cases h
  | some d => cases d <;> first | rfl | cases h
theorem isSc_to (d : Option TypeDesc) : isScB d = true → (match d with | some (.struct _) | some (.array _ _) | none => true | _ => false) = false := by
  intro h
  cases d with
  | none => cases h
  | some d => cases d <;> first | rfl | cases h
theorem ldRb {g n : Nat} {t : TypeId} {cs : Array Value} (H : St w0 w I) (hgd : o.guard = none) (ty : TypeId) (x : Operand) (ho : o.op = .load ty x) (hx : a.eval x = .pointer (some ⟨g, 0, none⟩)) [hm : HasB I g t cs] (hu : isRowB (P.underlying ty) = true) (hi : (P.info? ty).map (·.size) = some n) (hs : cs.size = n)
    (h : wpList P ops Q rest (a.put o.dst (.agg cs)) w) : wpList P ops Q (o :: rest) a w :=
  wpList_load_st H hgd ty x ho hx (isRow_to _ hu) (by rw [hi, hs]) h
theorem ldRGb {g n : Nat} {t : TypeId} {cs : Array Value} (H : St w0 w I) (hw : Region.wanted o (yielded ops a.tmps) = true) (ty : TypeId) (x : Operand) (ho : o.op = .load ty x) (hx : a.eval x = .pointer (some ⟨g, 0, none⟩)) [hm : HasB I g t cs] (hu : isRowB (P.underlying ty) = true) (hi : (P.info? ty).map (·.size) = some n) (hs : cs.size = n)
    (h : wpList P ops Q rest (a.put o.dst (.agg cs)) w) : wpList P ops Q (o :: rest) a w :=
  wpList_loadPart_stG H hw ty x ho hx (isRow_to _ hu) hi (by rw [Nat.ble_eq]; omega) cs (by rw [Nat.zero_add, ← hs]; exact Array.extract_size) h
theorem ldSb {g j : Nat} {t : TypeId} {cs : Array Value} {v : Value} (H : St w0 w I) (hgd : o.guard = none) (ty : TypeId) (x : Operand) (ho : o.op = .load ty x) (hx : a.eval x = .pointer (some ⟨g, j, none⟩)) [hm : HasB I g t cs] (hu : isScB (P.underlying ty) = true) (hv : cs.toList[j]? = some v)
    (h : wpList P ops Q rest (a.put o.dst v) w) : wpList P ops Q (o :: rest) a w :=
  wpList_load1_st H hgd ty x ho hx (isSc_to _ hu) hv h
theorem ldSGb {g j : Nat} {t : TypeId} {cs : Array Value} {v : Value} (H : St w0 w I) (hw : Region.wanted o (yielded ops a.tmps) = true) (ty : TypeId) (x : Operand) (ho : o.op = .load ty x) (hx : a.eval x = .pointer (some ⟨g, j, none⟩)) [hm : HasB I g t cs] (hu : isScB (P.underlying ty) = true) (hv : cs.toList[j]? = some v)
    (h : wpList P ops Q rest (a.put o.dst v) w) : wpList P ops Q (o :: rest) a w :=
  wpList_load1_stG H hw ty x ho hx (isSc_to _ hu) hv h
end
/-- a type that is laid as a row of n cells -/
class RowTy (t : TypeId) (n : outParam Nat) : Prop where
  u : isRowB (Try.prog.underlying t) = true
  s : (Try.prog.info? t).map (·.size) = some n
/-- a type of one cell -/
class ScTy (t : TypeId) : Prop where
  u : isScB (Try.prog.underlying t) = true
  s : (Try.prog.info? t).map (·.size) = some 1
section
variable {ops : Array Oper} {rest : List Oper} {o : Oper} {a : Act} {w0 w : World} {I J : List It} {Q : Exit → Act → World → Prop}
theorem ldR {g n : Nat} {t : TypeId} {cs : Array Value} (H : St w0 w I) (hgd : o.guard = none) (ty : TypeId) (x : Operand) (ho : o.op = .load ty x) (hx : a.eval x = .pointer (some ⟨g, 0, none⟩)) [hm : HasB I g t cs] [r : RowTy ty n] (hs : cs.size = n)
    (h : wpList Try.prog ops Q rest (a.put o.dst (.agg cs)) w) : wpList Try.prog ops Q (o :: rest) a w :=
  ldRb H hgd ty x ho hx r.u r.s hs h
theorem ldRG {g n : Nat} {t : TypeId} {cs : Array Value} (H : St w0 w I) (hw : Region.wanted o (yielded ops a.tmps) = true) (ty : TypeId) (x : Operand) (ho : o.op = .load ty x) (hx : a.eval x = .pointer (some ⟨g, 0, none⟩)) [hm : HasB I g t cs] [r : RowTy ty n] (hs : cs.size = n)
    (h : wpList Try.prog ops Q rest (a.put o.dst (.agg cs)) w) : wpList Try.prog ops Q (o :: rest) a w :=
  ldRGb H hw ty x ho hx r.u r.s hs h
theorem ldS {g j : Nat} {t : TypeId} {cs : Array Value} {v : Value} (H : St w0 w I) (hgd : o.guard = none) (ty : TypeId) (x : Operand) (ho : o.op = .load ty x) (hx : a.eval x = .pointer (some ⟨g, j, none⟩)) [hm : HasB I g t cs] [r : ScTy ty] (hv : cs.toList[j]? = some v)
    (h : wpList Try.prog ops Q rest (a.put o.dst v) w) : wpList Try.prog ops Q (o :: rest) a w :=
  ldSb H hgd ty x ho hx r.u hv h
theorem ldSG {g j : Nat} {t : TypeId} {cs : Array Value} {v : Value} (H : St w0 w I) (hw : Region.wanted o (yielded ops a.tmps) = true) (ty : TypeId) (x : Operand) (ho : o.op = .load ty x) (hx : a.eval x = .pointer (some ⟨g, j, none⟩)) [hm : HasB I g t cs] [r : ScTy ty] (hv : cs.toList[j]? = some v)
    (h : wpList Try.prog ops Q rest (a.put o.dst v) w) : wpList Try.prog ops Q (o :: rest) a w :=
  ldSGb H hw ty x ho hx r.u hv h
theorem stR {g n : Nat} {t : TypeId} {old cells : Array Value} (H : St w0 w I) (hgd : o.guard = none) (ty : TypeId) (x y : Operand) (ho : o.op = .store ty x y) (hx : a.eval x = .pointer (some ⟨g, 0, none⟩)) (hy : a.eval y = .agg cells) [U : UpdB I g t old cells J] [r : RowTy ty n] (hs : cells.size = n)
    (hold : old.size = cells.size) (h1 : cells.all (·.oneCell') = true) (h : ∀ w', St w0 w' J → wpList Try.prog ops Q rest (a.put o.dst undef) w') : wpList Try.prog ops Q (o :: rest) a w :=
  wpList_store_st H hgd ty x y ho hx hy (by rw [r.s, hs]) hold h1 h
theorem stS {g j : Nat} {t : TypeId} {old : Array Value} (H : St w0 w I) (hgd : o.guard = none) (ty : TypeId) (x y : Operand) (ho : o.op = .store ty x y) (hx : a.eval x = .pointer (some ⟨g, j, none⟩)) (v : Value) (hy : a.eval y = v) (hv : v.cells = #[v]) [U : UpdB I g t old (old.setIfInBounds j v) J] [r : ScTy ty]
    (hold : Nat.blt j old.size = true) (h1 : v.oneCell' = true) (h : ∀ w', St w0 w' J → wpList Try.prog ops Q rest (a.put o.dst undef) w') : wpList Try.prog ops Q (o :: rest) a w :=
  wpList_store1_st H hgd ty x y ho hx v hy hv r.s hold h1 h
end
theorem row_Queue : (match Try.prog.underlying 37 with | some (.struct _) | some (.array _ _) => true | _ => false) = true := by kernel_rfl
instance rowTy_Queue : RowTy 37 41 := ⟨by kernel_rfl, by kernel_rfl⟩
theorem row_Answer : (match Try.prog.underlying 48 with | some (.struct _) | some (.array _ _) => true | _ => false) = true := by kernel_rfl
instance rowTy_Answer : RowTy 48 4 := ⟨by kernel_rfl, by kernel_rfl⟩
theorem row_Event : (match Try.prog.underlying 44 with | some (.struct _) | some (.array _ _) => true | _ => false) = true := by kernel_rfl
instance rowTy_Event : RowTy 44 6 := ⟨by kernel_rfl, by kernel_rfl⟩
theorem row_Deed : (match Try.prog.underlying 101 with | some (.struct _) | some (.array _ _) => true | _ => false) = true := by kernel_rfl
instance rowTy_Deed : RowTy 101 4 := ⟨by kernel_rfl, by kernel_rfl⟩
theorem sc_int : (match Try.prog.underlying 3 with | some (.struct _) | some (.array _ _) | none => true | _ => false) = false := by kernel_rfl
theorem s1_int : (Try.prog.info? 3).map (·.size) = some 1 := by kernel_rfl
instance scTy_int : ScTy 3 := ⟨by kernel_rfl, s1_int⟩
theorem sc_bool : (match Try.prog.underlying 4 with | some (.struct _) | some (.array _ _) | none => true | _ => false) = false := by kernel_rfl
theorem s1_bool : (Try.prog.info? 4).map (·.size) = some 1 := by kernel_rfl
instance scTy_bool : ScTy 4 := ⟨by kernel_rfl, s1_bool⟩
theorem sc_Errno : (match Try.prog.underlying 27 with | some (.struct _) | some (.array _ _) | none => true | _ => false) = false := by kernel_rfl
theorem s1_Errno : (Try.prog.info? 27).map (·.size) = some 1 := by kernel_rfl
instance scTy_Errno : ScTy 27 := ⟨by kernel_rfl, s1_Errno⟩
theorem sc_Msgs : (match Try.prog.underlying 30 with | some (.struct _) | some (.array _ _) | none => true | _ => false) = false := by kernel_rfl
theorem s1_Msgs : (Try.prog.info? 30).map (·.size) = some 1 := by kernel_rfl
instance scTy_Msgs : ScTy 30 := ⟨by kernel_rfl, s1_Msgs⟩
theorem sc_Lss : (match Try.prog.underlying 31 with | some (.struct _) | some (.array _ _) | none => true | _ => false) = false := by kernel_rfl
theorem s1_Lss : (Try.prog.info? 31).map (·.size) = some 1 := by kernel_rfl
instance scTy_Lss : ScTy 31 := ⟨by kernel_rfl, s1_Lss⟩
theorem sc_Evs : (match Try.prog.underlying 23 with | some (.struct _) | some (.array _ _) | none => true | _ => false) = false := by kernel_rfl
theorem s1_Evs : (Try.prog.info? 23).map (·.size) = some 1 := by kernel_rfl
instance scTy_Evs : ScTy 23 := ⟨by kernel_rfl, s1_Evs⟩
theorem sc_Anss : (match Try.prog.underlying 137 with | some (.struct _) | some (.array _ _) | none => true | _ => false) = false := by kernel_rfl
theorem s1_Anss : (Try.prog.info? 137).map (·.size) = some 1 := by kernel_rfl
instance scTy_Anss : ScTy 137 := ⟨by kernel_rfl, s1_Anss⟩

end Go.Proofs.Ytjmncbfmjeeneaa

namespace Go.Proofs.Ytjmncbfmjeeneaa
open Go.RowKit

/-- the cells of a queue -/
def qCells (ep nx gv : Int) (vr vl : Value) (t : Nat → Int) (f : Nat → Nat → Bool) : Array Value :=
  #[.int .i64 ep, .int .i64 nx, .int .i64 gv, vr, vl,
    .int .i64 (t 0), .bool (f 0 0), .bool (f 0 1), .bool (f 0 2), .bool (f 0 3), .bool (f 0 4), .bool (f 0 5), .bool (f 0 6), .bool (f 0 7),
    .int .i64 (t 1), .bool (f 1 0), .bool (f 1 1), .bool (f 1 2), .bool (f 1 3), .bool (f 1 4), .bool (f 1 5), .bool (f 1 6), .bool (f 1 7),
    .int .i64 (t 2), .bool (f 2 0), .bool (f 2 1), .bool (f 2 2), .bool (f 2 3), .bool (f 2 4), .bool (f 2 5), .bool (f 2 6), .bool (f 2 7),
    .int .i64 (t 3), .bool (f 3 0), .bool (f 3 1), .bool (f 3 2), .bool (f 3 3), .bool (f 3 4), .bool (f 3 5), .bool (f 3 6), .bool (f 3 7)]
/-- the windows of a queue -/
def wCells (t : Nat → Int) (f : Nat → Nat → Bool) : Array Value := ((qCells 0 0 0 (.bool true) (.bool true) t f).toList.drop 5).toArray
theorem q_size : (Try.prog.info? 37).map (·.size) = some 41 := by kernel_rfl
theorem q_under : Try.prog.underlying 37 = some (.struct (Try.prog.fieldsOf 37)) := by kernel_rfl

theorem msg_ok (cs : Array Value) (nx no body : Int) (w : World) (hx : cs[1]? = some (.int .i64 nx)) (h0 : 0 ≤ no) (h1 : no < nx) (h2 : 0 ≤ body) (h3 : body ≤ 1000000) :
    Calls Try.prog 50 #[.agg cs, .agg #[.int .i64 no, .int .i64 body]] w (Puts w (.bool true)) := by
  have E := (Blk.new w 37 cs).alloc (.cells #[.int .i64 no, .int .i64 body] 87)
  have x1 := (E.cell 1).trans hx
  have bel := ((Below.refl w.heap.size w).alloc (Nat.le_refl _) (.cells cs 37)).alloc (by simp) (.cells #[.int .i64 no, .int .i64 body] 87)
  have hx' := Lib.hid hx
  clear hx
  go_enter Try.func50, Try.ntmps50
  go_wp2_with fail
  go_ret
  exact ⟨rfl, bel⟩

/-- a part of a row is read as a whole -/
theorem wp_load_part {P : Program} {o : Oper} {a : Act} {w : World} {K : Act → World → Prop} {Q : Exit → Act → World → Prop} (ty : TypeId) (x : Operand) (ho : o.op = .load ty x)
    (g p m : Nat) (hx : a.eval x = .pointer (some ⟨g, p, none⟩)) (t : TypeId) (cs : Array Value) (d : TypeDesc) (hg : Blk w g t cs)
    (hu : P.underlying ty = some d) (hd : (match d with | .struct _ | .array _ _ => true | _ => false) = true) (hi : (P.info? ty).map (·.size) = some m) (hm : p + m ≤ cs.size)
    (h : K (a.put o.dst (.agg (cs.extract p (p + m)))) w) : o.wp P a w K Q := by
  have hl : (loadCells ⟨g, p, none⟩ (cs.extract p (p + m)).toList.length).run P w = .ok (cs.extract p (p + m)).toList.toArray w :=
    run_loadCells_list (P := P) w ⟨g, p, none⟩ (cs.extract p (p + m)).toList (fun j v hv => by
      have hadd : (⟨g, p, none⟩ : Addr).add j = ⟨g, p + j, none⟩ := by unfold Addr.add; split <;> simp_all
      rw [hadd, hg.cell]
      have hv2 : (cs.extract p (p + m))[j]? = some v := by rw [← Array.getElem?_toList]; exact hv
      rw [Array.getElem?_extract] at hv2
      split at hv2
      · exact hv2
      · cases hv2)
  have hz : (cs.extract p (p + m)).toList.length = m := by simp; omega
  rw [hz] at hl
  cases hq : P.info? ty with
  | none => simp [hq] at hi
  | some i =>
    have hs : i.size = m := by simpa [hq] using hi
    have hagg : (isAgg ty).run P w = .ok true w := by
      unfold isAgg
      rw [Sem.run_bind, run_underlying hu w]
      cases d <;> simp_all
    have hrun : (loadVar ty ⟨g, p, none⟩).run P w = .ok (.agg (cs.extract p (p + m))) w := by
      simp only [Array.toArray_toList] at hl
      simp [loadVar, Sem.run_bind, hagg, sizeOf, typeInfo, hq, hs, hl]
    unfold Oper.wp execOp
    simp only [ho, hx, Instr.loadAt, Instr.sureAddr, Sem.run_bind, Sem.run_pure, Result.andThen_ok, hrun]
    exact h
theorem wpList_load_part {P : Program} {ops : Array Oper} {rest : List Oper} {o : Oper} {a : Act} {w : World} {Q : Exit → Act → World → Prop} (hgd : o.guard = none) (ty : TypeId) (x : Operand) (ho : o.op = .load ty x)
    (g p m : Nat) (hx : a.eval x = .pointer (some ⟨g, p, none⟩)) (t : TypeId) (cs : Array Value) (d : TypeDesc) (hg : Blk w g t cs)
    (hu : P.underlying ty = some d) (hd : (match d with | .struct _ | .array _ _ => true | _ => false) = true) (hi : (P.info? ty).map (·.size) = some m) (hm : p + m ≤ cs.size)
    (h : wpList P ops Q rest (a.put o.dst (.agg (cs.extract p (p + m)))) w) : wpList P ops Q (o :: rest) a w :=
  wpList_plain hgd fun _ hK => wp_load_part ty x ho g p m hx t cs d hg hu hd hi hm (hK _ _ h)

/-- messages, leases in memory -/
def msgCells (rd : List (Int × Int)) : List Value := rowCells (rd.map fun m => [m.1, m.2])
def lsCells (ep : Int) (ls : List (Int × Int × Int)) : List Value := rowCells (ls.map fun l => [ep, l.1, l.2.1, l.2.2])
def prevN {α : Type} (no : α → Int) (l : List α) (d : α) (i : Nat) : Int := if i = 0 then -1 else no (l.getD (i - 1) d)
theorem rowAt {w : World} {B n s i : Nat} {A : Option Addr} {rows : List (List Int)} (hr : Reads w B s A n (rowCells rows)) (hl : rows.length = n) (hs : ∀ r ∈ rows, r.length = s) (h0 : 0 < s) (hi : i < n) {r : List Int} (hri : rows[i]? = some r) :
    ∃ b off, A = some ⟨b, off, none⟩ ∧ b < B ∧ ∀ j z, r[j]? = some z → w.cell? ⟨b, off + i * s + j, none⟩ = some (.int .i64 z) := by
  obtain ⟨b, off, rfl, hb, hc⟩ := hr.plain (by omega) h0
  refine ⟨b, off, rfl, hb, fun j z hz => ?_⟩
  have hj : j < s := by
    have := hs r (List.mem_of_getElem? hri)
    rcases Nat.lt_or_ge j r.length with h | h
    · omega
    · rw [List.getElem?_eq_none h] at hz; cases hz
  rw [Nat.add_assoc]
  refine hc _ _ ?_
  rw [rowCells_at s rows hs i j r hri hj, hz]
  rfl
theorem msgAt {w : World} {B n i : Nat} {A : Option Addr} {rd : List (Int × Int)} (hr : Reads w B 2 A n (msgCells rd)) (hl : rd.length = n) (hi : i < n) :
    ∃ b off, A = some ⟨b, off, none⟩ ∧ b < B ∧ w.cell? ⟨b, off + i * 2, none⟩ = some (.int .i64 (rd.getD i (0, 0)).1) ∧ w.cell? ⟨b, off + i * 2 + 1, none⟩ = some (.int .i64 (rd.getD i (0, 0)).2) := by
  have hr1 : rd[i]? = some (rd.getD i (0, 0)) := by rw [List.getElem?_eq_getElem (show i < rd.length by omega)]; simp [List.getD, List.getElem?_eq_getElem (show i < rd.length by omega)]
  obtain ⟨b, off, h1, h2, h3⟩ := rowAt hr (by simpa using hl) (fun r hr => by obtain ⟨x, _, rfl⟩ := List.mem_map.1 hr; rfl) (by omega) hi (r := [(rd.getD i (0, 0)).1, (rd.getD i (0, 0)).2]) (by rw [List.getElem?_map, hr1]; rfl)
  exact ⟨b, off, h1, h2, h3 0 _ rfl, h3 1 _ rfl⟩
theorem lsAt {w : World} {B n i : Nat} {A : Option Addr} {ep : Int} {ls : List (Int × Int × Int)} (hr : Reads w B 4 A n (lsCells ep ls)) (hl : ls.length = n) (hi : i < n) :
    ∃ b off, A = some ⟨b, off, none⟩ ∧ b < B ∧ w.cell? ⟨b, off + i * 4, none⟩ = some (.int .i64 ep) ∧ w.cell? ⟨b, off + i * 4 + 1, none⟩ = some (.int .i64 (ls.getD i (0, 0, 0)).1) ∧
      w.cell? ⟨b, off + i * 4 + 2, none⟩ = some (.int .i64 (ls.getD i (0, 0, 0)).2.1) ∧ w.cell? ⟨b, off + i * 4 + 3, none⟩ = some (.int .i64 (ls.getD i (0, 0, 0)).2.2) := by
  have hr1 : ls[i]? = some (ls.getD i (0, 0, 0)) := by rw [List.getElem?_eq_getElem (show i < ls.length by omega)]; simp [List.getD, List.getElem?_eq_getElem (show i < ls.length by omega)]
  obtain ⟨b, off, h1, h2, h3⟩ := rowAt hr (by simpa using hl) (fun r hr => by obtain ⟨x, _, rfl⟩ := List.mem_map.1 hr; rfl) (by omega) hi (r := [ep, (ls.getD i (0, 0, 0)).1, (ls.getD i (0, 0, 0)).2.1, (ls.getD i (0, 0, 0)).2.2]) (by rw [List.getElem?_map, hr1]; rfl)
  exact ⟨b, off, h1, h2, h3 0 _ rfl, h3 1 _ rfl, h3 2 _ rfl, h3 3 _ rfl⟩

/-- a queue that may be -/
structure QOk (ep nx gv : Int) (rd : List (Int × Int)) (ls : List (Int × Int × Int)) (t : Nat → Int) (S : Nat → Int → Bool) : Prop where
  e0 : 0 ≤ ep
  e1 : ep ≤ 1048576
  n0 : 0 ≤ nx
  n1 : nx ≤ 1073741824
  g0 : 0 ≤ gv
  g1 : gv ≤ 1073741824
  len : rd.length + ls.length ≤ 500
  win : ∀ i, i < 4 → WOk (t i) (S i)
  rds : ∀ i, i < rd.length → prevN Prod.fst rd (0, 0) i < (rd.getD i (0, 0)).1 ∧ 0 ≤ (rd.getD i (0, 0)).1 ∧ (rd.getD i (0, 0)).1 < nx ∧ 0 ≤ (rd.getD i (0, 0)).2 ∧ (rd.getD i (0, 0)).2 ≤ 1000000
  lss : ∀ i, i < ls.length → prevN Prod.fst ls (0, 0, 0) i < (ls.getD i (0, 0, 0)).1 ∧ (ls.getD i (0, 0, 0)).1 < gv ∧ 0 ≤ (ls.getD i (0, 0, 0)).2.1 ∧ (ls.getD i (0, 0, 0)).2.1 < nx ∧ 0 ≤ (ls.getD i (0, 0, 0)).2.2 ∧ (ls.getD i (0, 0, 0)).2.2 ≤ 1000000
  apart : (rd.map Prod.fst ++ ls.map fun l => l.2.1).Nodup

/-- a set that a map holds -/
structure SetIs (D : DataW Unit) (keys : List Int) : Prop where
  tidy : Maps.Tidy D
  size : Maps.size D = keys.length
  has : ∀ x, Maps.has D (.int .i64 x) = decide (x ∈ keys)
theorem int_key (x : Int) : WideAt.IsKeyLit (.int .i64 x) := by unfold WideAt.IsKeyLit; trivial
theorem SetIs.nil : SetIs (.map []) [] := ⟨Maps.tidy_empty, rfl, fun x => by simp [Maps.has_eq]⟩
theorem SetIs.add {D : DataW Unit} {keys : List Int} (h : SetIs D keys) (x : Int) (hx : x ∉ keys) : SetIs (D.put (.int .i64 x) (.agg [])) (keys ++ [x]) := by
  refine ⟨h.tidy.put (int_key x) _, ?_, fun y => ?_⟩
  · rw [Maps.size_put h.tidy, h.has, if_neg (by simpa using hx), h.size]
    simp
  · by_cases e : y = x
    · subst e
      rw [Maps.has_put_same h.tidy.isMap (int_key y)]
      simp
    · rw [Maps.has_put_other (fun e2 => e (by injection e2)), h.has]
      simp [e]

end Go.Proofs.Ytjmncbfmjeeneaa

namespace Go.Proofs.Ytjmncbfmjeeneaa
open Go.RowKit Go.Maps

theorem win_size : (Try.prog.info? 35).map (·.size) = some 36 := by kernel_rfl
theorem win_under : Try.prog.underlying 35 = some (.array 4 34) := by kernel_rfl
def wArr (t : Nat → Int) (f : Nat → Nat → Bool) : Array Value := (qCells 0 0 0 (.bool true) (.bool true) t f).extract 5 (5 + 36)
theorem wArr_eq (ep nx gv : Int) (vr vl : Value) (t : Nat → Int) (f : Nat → Nat → Bool) : (qCells ep nx gv vr vl t f).extract 5 (5 + 36) = wArr t f := by
  unfold wArr qCells
  rfl
theorem wArr_at (t : Nat → Int) (f : Nat → Nat → Bool) (i : Nat) (hi : i < 4) (W : World) : (Instr.index 35 (.agg (wArr t f)) (.int .i64 i)).run Try.prog W = .ok (.agg (winCells (t i) (f i))) W := by
  rcases (show i = 0 ∨ i = 1 ∨ i = 2 ∨ i = 3 by omega) with rfl | rfl | rfl | rfl <;> kernel_rfl
theorem four_nat : ((4 : Nat) : Int) = 4 := rfl
theorem k3 : Keyed Try.prog 3 := int_keyed Try.underlying3

theorem _root_.Go.World.ownsMap.below' {H : Type} {P : Program} {k : TypeId} {R : Value → Option (DataW H × List MemPlace)} {w w' : World} {b n : Nat} {D : DataW H} {B : Nat} (h : w.ownsMap P k R b n D) (hb : Below B w w') (hg : b < B) : w'.ownsMap P k R b n D := by
  obtain ⟨es, clock, h1, r⟩ := h
  exact ⟨es, clock, (hb.block b hg).trans h1, r⟩
theorem nodup_take {α : Type} (l : List α) (i : Nat) (x : α) (h : l[i]? = some x) (hd : l.Nodup) : x ∉ l.take i ∧ l.take (i + 1) = l.take i ++ [x] := by
  have e : l.take (i + 1) = l.take i ++ [x] := by rw [List.take_add_one, h]; rfl
  refine ⟨fun hm => ?_, e⟩
  have h2 := hd.sublist (List.take_sublist (i + 1) l)
  rw [e, List.nodup_append] at h2
  exact h2.2.2 x hm x (by simp) rfl
theorem key_take (rd : List (Int × Int)) (n i : Nat) (hn : rd.length = n) (hi : i < n) (hd : (rd.map Prod.fst).Nodup) : (rd.getD i (0, 0)).1 ∉ (rd.map Prod.fst).take i ∧ (rd.map Prod.fst).take (i + 1) = (rd.map Prod.fst).take i ++ [(rd.getD i (0, 0)).1] := by
  have e : (rd.map Prod.fst)[i]? = some (rd.getD i (0, 0)).1 := by
    rw [List.getElem?_map, List.getElem?_eq_getElem (show i < rd.length by omega)]
    simp [List.getD, List.getElem?_eq_getElem (show i < rd.length by omega)]
  exact nodup_take _ i _ e hd
theorem key_take2 (rd : List (Int × Int)) (ls : List (Int × Int × Int)) (n i : Nat) (hn : ls.length = n) (hi : i < n) (hd : (rd.map Prod.fst ++ ls.map fun l => l.2.1).Nodup) :
    (ls.getD i (0, 0, 0)).2.1 ∉ rd.map Prod.fst ++ (ls.map fun l => l.2.1).take i ∧ rd.map Prod.fst ++ (ls.map fun l => l.2.1).take (i + 1) = (rd.map Prod.fst ++ (ls.map fun l => l.2.1).take i) ++ [(ls.getD i (0, 0, 0)).2.1] := by
  have e : (ls.map fun l => l.2.1)[i]? = some (ls.getD i (0, 0, 0)).2.1 := by
    rw [List.getElem?_map, List.getElem?_eq_getElem (show i < ls.length by omega)]
    simp [List.getD, List.getElem?_eq_getElem (show i < ls.length by omega)]
  rw [List.nodup_append] at hd
  obtain ⟨h1, h2⟩ := nodup_take _ i _ e hd.2.1
  rw [h2, ← List.append_assoc]
  refine ⟨fun hm => ?_, rfl⟩
  rcases List.mem_append.1 hm with h | h
  · exact hd.2.2 _ h _ (List.mem_of_getElem? e) rfl
  · exact h1 h
theorem prev_lo (ls : List (Int × Int × Int)) (h : ∀ i, i < ls.length → prevN Prod.fst ls (0, 0, 0) i < (ls.getD i (0, 0, 0)).1) : ∀ i, i ≤ ls.length → -1 ≤ prevN Prod.fst ls (0, 0, 0) i
  | 0, _ => by simp [prevN]
  | i + 1, hi => by
    have ih := prev_lo ls h i (by omega)
    have h2 := h i (by omega)
    have e : prevN Prod.fst ls (0, 0, 0) (i + 1) = (ls.getD i (0, 0, 0)).1 := by simp [prevN]
    rw [e]
    omega
theorem wf_of_is64 {a : Int} (h : Is64 a) : (Lit.int .i64 a).wf = true := by
  obtain ⟨h1, h2⟩ := h
  simp [Lit.wf, IntKind.min, IntKind.max, IntKind.signed, IntKind.bits]
  omega

set_option maxRecDepth 100000 in
set_option maxHeartbeats 2000000 in
theorem qcheck_ok (ep nx gv : Int) (rd : List (Int × Int)) (ls : List (Int × Int × Int)) (t : Nat → Int) (S : Nat → Int → Bool) (A1 A2 : Option Addr) (n m c1 c2 B : Nat) (w : World) (h : QOk ep nx gv rd ls t S) (hn : rd.length = n) (hm : ls.length = m) (hr : Reads w B 2 A1 n (msgCells rd)) (hr2 : Reads w B 4 A2 m (lsCells ep ls)) (hB : B ≤ w.heap.size) :
    Calls Try.prog 25 #[.agg (qCells ep nx gv (.slice A1 n c1) (.slice A2 m c2) t (fun i => shows (t i) (S i)))] w (Puts w (.int .i64 0)) := by
  obtain ⟨e0, e1, n0, n1, g0, g1, hlen, hwin, hrds, hlss, hap⟩ := h
  have hmm := @run_makeMap Try.prog
  have HW := Lib.hid (fun i (hi : i < 4) W => wcheck_ok (t i) (S i) W (hwin i hi))
  have HR := Lib.hid hrds
  have HL := Lib.hid hlss
  have HA := Lib.hid hap
  have WA := Lib.hid (wArr_at t (fun i => shows (t i) (S i)))
  have hsz := rfl (a := (qCells ep nx gv (.slice A1 n c1) (.slice A2 m c2) t (fun i => shows (t i) (S i))).size)
  have hws := wArr_eq ep nx gv (.slice A1 n c1) (.slice A2 m c2) t (fun i => shows (t i) (S i))
  have q0 : (qCells ep nx gv (.slice A1 n c1) (.slice A2 m c2) t (fun i => shows (t i) (S i)))[0]? = some (.int .i64 ep) := rfl
  have q1 : (qCells ep nx gv (.slice A1 n c1) (.slice A2 m c2) t (fun i => shows (t i) (S i)))[1]? = some (.int .i64 nx) := rfl
  have q2 : (qCells ep nx gv (.slice A1 n c1) (.slice A2 m c2) t (fun i => shows (t i) (S i)))[2]? = some (.int .i64 gv) := rfl
  have q3 : (qCells ep nx gv (.slice A1 n c1) (.slice A2 m c2) t (fun i => shows (t i) (S i)))[3]? = some (.slice A1 n c1) := rfl
  have q4 : (qCells ep nx gv (.slice A1 n c1) (.slice A2 m c2) t (fun i => shows (t i) (S i)))[4]? = some (.slice A2 m c2) := rfl
  have hq41 : (qCells ep nx gv (.slice A1 n c1) (.slice A2 m c2) t (fun i => shows (t i) (S i))).size = 41 := rfl
  generalize qCells ep nx gv (.slice A1 n c1) (.slice A2 m c2) t (fun i => shows (t i) (S i)) = cs at *
  clear hsz hrds hlss hap hwin
  have E := Blk.new w 37 cs
  have x0 := (E.cell 0).trans q0
  have x1 := (E.cell 1).trans q1
  have x2 := (E.cell 2).trans q2
  have x3 := (E.cell 3).trans q3
  have x4 := (E.cell 4).trans q4
  have bel0 := (Below.refl w.heap.size w).alloc (Nat.le_refl _) (.cells cs 37)
  have HQ := Lib.hid (show cs[0]? = _ ∧ cs[1]? = _ ∧ cs[2]? = _ ∧ cs[3]? = _ ∧ cs[4]? = _ from ⟨q0, q1, q2, q3, q4⟩)
  have H41 := Lib.hid hq41
  have HWS := Lib.hid hws
  have hc1 : ¬ ep < 0 := by omega
  have hc2 : ¬ 1048576 < ep := by omega
  have hc3 : ¬ nx < 0 := by omega
  have hc4 : ¬ 1073741824 < nx := by omega
  have hc5 : ¬ gv < 0 := by omega
  have hc6 : ¬ 1073741824 < gv := by omega
  have hc7 : ¬ (500 : Int) < (n : Int) + (m : Int) := by omega
  have hc8 : ¬ 500 < n + m := by omega
  have iw : IntKind.i64.wrap ((n : Int) + (m : Int)) = (n : Int) + (m : Int) := IntWalk.i64_in _ (by omega)
  clear q0 q1 q2 q3 q4 hq41 hws
  go_enter Try.func25, Try.ntmps25
  go_wp2_with (refine wpList_load_part rfl 35 (.tmp 50) rfl w.heap.size 5 36 rfl 37 cs _ E win_under rfl win_size (by rw [H41.out]; omega) ?_; rw [HWS.out])
  go_loopw [52] (fun s52 wr => ∃ i : Nat, i ≤ 4 ∧ s52 = .int .i64 i ∧ Blk wr w.heap.size 37 cs ∧ Below w.heap.size w wr) (fun s52 _ => 4 - (intOf s52).toNat)
  case atStart => exact ⟨0, by omega, rfl, E, bel0⟩
  case round =>
    clear E bel0 x0 x1 x2 x3 x4
    obtain ⟨i, hi, rfl, E, bel⟩ := hrel
    by_cases hlt : i < 4
    · have wi := WA.out i hlt
      have hw := HW.out i hlt
      unfold winCells at wi hw
      have HCW := Lib.hid hw
      clear hw
      generalize shows (t i) (S i) = fi at *
      generalize t i = ti at *
      have hI : (i : Int) < 4 := by omega
      have i2 : IntKind.i64.wrap ((i : Int) + 1) = (i : Int) + 1 := IntWalk.i64_in _ (by omega)
      have hz := bel.size
      clear WA HW
      go_wp2_with fail
      refine (HCW.out _).mono ?_
      rintro e w1 ⟨rfl, b1⟩
      have E1 := (E.alloc (.cells #[.int .i64 ti, .bool (fi 0), .bool (fi 1), .bool (fi 2), .bool (fi 3), .bool (fi 4), .bool (fi 5), .bool (fi 6), .bool (fi 7)] 34)).below b1 (by have := E.lt; simp; omega)
      have bel1 := (bel.alloc hz (.cells #[.int .i64 ti, .bool (fi 0), .bool (fi 1), .bool (fi 2), .bool (fi 3), .bool (fi 4), .bool (fi 5), .bool (fi 6), .bool (fi 7)] 34)).trans (b1.mono (by simp; omega))
      clear E bel b1 HCW wi
      go_wp2_with fail
      go_roundw
      case rel => exact ⟨i + 1, by omega, by go_num, E1, bel1⟩
      case measure => simp [intOf]; omega
    · obtain rfl : i = 4 := by omega
      rw [four_nat]
      obtain ⟨q0, q1, q2, q3, q4⟩ := HQ.out
      have x3 := (E.cell 3).trans q3
      have hz := bel.size
      have zq := E.lt
      have E1 := E.alloc (.map #[] 0)
      have bel1 := bel.alloc hz (.map #[] 0)
      have M0 := World.ownsMap_made wr Try.prog 3 (unitElem (H := Unit))
      obtain ⟨gm, hgm⟩ : ∃ gm, gm = wr.heap.size := ⟨_, rfl⟩
      have hgw : w.heap.size ≤ gm := by omega
      have hne : w.heap.size ≠ gm := by omega
      rw [← hgm] at M0
      have HGM := Lib.hid hgm
      clear hgm WA HW q0 q1 q2 q3 q4
      go_wp2_with fail
      rw [← HGM.out]
      go_loopw [7, 65] (fun s7 s65 wr => ∃ (i : Nat) (D : DataW Unit), i ≤ n ∧ s65 = .int .i64 i ∧ s7 = .int .i64 (prevN Prod.fst rd (0, 0) i) ∧ SetIs D ((rd.map Prod.fst).take i) ∧ wr.ownsMap Try.prog 3 unitElem gm i D ∧ Blk wr w.heap.size 37 cs ∧ Below w.heap.size w wr) (fun _ s65 _ => n - (intOf s65).toNat)
      case atStart => exact ⟨0, _, by omega, rfl, rfl, SetIs.nil, M0, E1, bel1⟩
      case round =>
        clear E1 bel1 M0 HGM E bel x3 hz zq
        obtain ⟨i, D, hi, rfl, rfl, hD, M, E, bel⟩ := hrel
        by_cases hlt : i < n
        · obtain ⟨b, off, hA1, hb, y0, y1⟩ := msgAt (hr.below (bel.mono hB)) hn hlt
          subst hA1
          obtain ⟨r0, r1, r2, r3, r4⟩ := HR.out i (by omega)
          have hlast := Lib.hid (show prevN Prod.fst rd (0, 0) (i + 1) = (rd.getD i (0, 0)).1 by simp [prevN])
          have hD2 := Lib.hid (show (rd.getD i (0, 0)).1 ∉ (rd.map Prod.fst).take i ∧ (rd.map Prod.fst).take (i + 1) = (rd.map Prod.fst).take i ++ [(rd.getD i (0, 0)).1] from key_take rd n i hn hlt (List.nodup_append.1 HA.out).1)
          generalize (rd.getD i (0, 0)).1 = no at *
          generalize (rd.getD i (0, 0)).2 = body at *
          generalize prevN Prod.fst rd (0, 0) i = last at *
          obtain ⟨q0, q1, q2, q3, q4⟩ := HQ.out
          have MO := Lib.hid (fun W => msg_ok cs nx no body W q1 r1 r2 r3 r4)
          have hI : (i : Int) < (n : Int) := by omega
          have i2 : IntKind.i64.wrap ((i : Int) + 1) = (i : Int) + 1 := IntWalk.i64_in _ (by omega)
          have hz := bel.size
          have zb : b < wr.heap.size := by omega
          have hkey : keyOf Try.prog 3 (.int .i64 no) = some (.int .i64 no) := keyOf_int_mk Try.underlying3 (by have : Is64 no := ⟨by omega, by omega⟩; exact wf_of_is64 this)
          have E1 := E.alloc (.cells #[.int .i64 no, .int .i64 body] 87)
          have M1 := M.alloc (.cells #[.int .i64 no, .int .i64 body] 87)
          have bel1 := bel.alloc hz (.cells #[.int .i64 no, .int .i64 body] 87)
          have D1 := Blk.new wr 87 #[.int .i64 no, .int .i64 body]
          have hjl : ¬ no ≤ last := by omega
          clear q0 q1 q2 q3 q4 hr HR HA E M bel
          go_wp2_with (refine wpList_load_row rfl 37 (.tmp 1) rfl w.heap.size rfl 37 cs (0, 0) _ E1 q_under rfl (by rw [q_size, H41.out]) ?_)
          refine (MO.out _).mono ?_
          rintro e w2 ⟨rfl, b2⟩
          have E2 := E1.below b2 E1.lt
          have M2 := M1.below' b2 M1.lt
          have D2 := D1.below b2 (by simp)
          have bel2 := bel1.trans (b2.mono bel1.size)
          have z2 := D2.lt
          have d0 := D2.cell 0
          clear E1 M1 D1 bel1 b2 MO
          go_wp2_with (at_mapUpdate; go_loud (refine wpList_mapUpdate_own _ rfl _ _ _ 114 rfl 3 116 k3 Try.underlying114 (unitElem (H := Unit)) gm i _ rfl M2 (by unfold maxLen; omega) _ _ _ rfl rfl hkey _ [] unitElem_mk ?_; intro w3 M3 g3))
          have E3 := E2.grown g3 (by simp; omega)
          have bel3 := bel2.grown g3 bel2.size (fun j hj => by cases hj; exact hgw)
          go_roundw
          case rel => exact ⟨i + 1, _, by omega, by go_num, by rw [hlast.out], by rw [hD2.out.2]; exact hD.add no hD2.out.1, M3, E3, bel3⟩
          case measure => simp [intOf]; omega
        · obtain rfl : i = n := by omega
          obtain ⟨q0, q1, q2, q3, q4⟩ := HQ.out
          have x4 := (E.cell 4).trans q4
          have hDD : SetIs D (rd.map Prod.fst ++ (ls.map fun l => l.2.1).take 0) := by
            have := hD
            rw [List.take_of_length_le (by simp; omega)] at this
            simpa using this
          clear q0 q1 q2 q3 q4 hD HR
          go_wp2_with fail
          go_loopw [7, 89] (fun s7 s89 wr => ∃ (j : Nat) (D : DataW Unit), j ≤ m ∧ s89 = .int .i64 j ∧ s7 = .int .i64 (prevN Prod.fst ls (0, 0, 0) j) ∧ SetIs D (rd.map Prod.fst ++ (ls.map fun l => l.2.1).take j) ∧ wr.ownsMap Try.prog 3 unitElem gm (i + j) D ∧ Blk wr w.heap.size 37 cs ∧ Below w.heap.size w wr) (fun _ s89 _ => m - (intOf s89).toNat)
          case atStart => exact ⟨0, D, by omega, rfl, rfl, hDD, M, E, bel⟩
          case round =>
            clear hDD M E bel x4 D
            obtain ⟨j, D, hj, rfl, rfl, hD, M, E, bel⟩ := hrel
            by_cases hlt : j < m
            · obtain ⟨b, off, hA2, hb, y0, y1, y2, y3⟩ := lsAt (hr2.below (bel.mono hB)) hm hlt
              subst hA2
              obtain ⟨r0, r1, r2, r3, r4, r5⟩ := HL.out j (by omega)
              have hlast := Lib.hid (show prevN Prod.fst ls (0, 0, 0) (j + 1) = (ls.getD j (0, 0, 0)).1 by simp [prevN])
              have hD2 := Lib.hid (key_take2 rd ls m j hm hlt HA.out)
              have hlo : -1 ≤ prevN Prod.fst ls (0, 0, 0) j := prev_lo ls (fun i hi => (HL.out i hi).1) j (by omega)
              generalize (ls.getD j (0, 0, 0)).1 = hno at *
              generalize (ls.getD j (0, 0, 0)).2.1 = no at *
              generalize (ls.getD j (0, 0, 0)).2.2 = body at *
              generalize prevN Prod.fst ls (0, 0, 0) j = last at *
              obtain ⟨q0, q1, q2, q3, q4⟩ := HQ.out
              have MO := Lib.hid (fun W => msg_ok cs nx no body W q1 r2 r3 r4 r5)
              have hI : (j : Int) < (m : Int) := by omega
              have i2 : IntKind.i64.wrap ((j : Int) + 1) = (j : Int) + 1 := IntWalk.i64_in _ (by omega)
              have hz := bel.size
              have zb : b < wr.heap.size := by omega
              have hkey : keyOf Try.prog 3 (.int .i64 no) = some (.int .i64 no) := keyOf_int_mk Try.underlying3 (wf_of_is64 ⟨by omega, by omega⟩)
              have E1 := E.alloc (.cells #[.int .i64 ep, .int .i64 hno, .int .i64 no, .int .i64 body] 90)
              have M1 := M.alloc (.cells #[.int .i64 ep, .int .i64 hno, .int .i64 no, .int .i64 body] 90)
              have bel1 := bel.alloc hz (.cells #[.int .i64 ep, .int .i64 hno, .int .i64 no, .int .i64 body] 90)
              have D1 := Blk.new wr 90 #[.int .i64 ep, .int .i64 hno, .int .i64 no, .int .i64 body]
              have hjl : ¬ hno ≤ last := by omega
              have hjg : ¬ gv ≤ hno := by omega
              clear hr2 HL HA E M bel
              go_wp2_with (refine wpList_load_row rfl 37 (.tmp 1) rfl w.heap.size rfl 37 cs (0, 0) _ E1 q_under rfl (by rw [q_size, H41.out]) ?_)
              refine (MO.out _).mono ?_
              rintro e w2 ⟨rfl, b2⟩
              have E2 := E1.below b2 E1.lt
              have M2 := M1.below' b2 M1.lt
              have D2 := D1.below b2 (by simp)
              have bel2 := bel1.trans (b2.mono bel1.size)
              have z2 := D2.lt
              have d0 := D2.cell 0
              have d1 := D2.cell 1
              have d2 := D2.cell 2
              have x0 := (E2.cell 0).trans q0
              have x2 := (E2.cell 2).trans q2
              clear E1 M1 D1 bel1 b2 MO q0 q1 q2 q3 q4
              go_wp2_with (at_mapUpdate; go_loud (refine wpList_mapUpdate_own _ rfl _ _ _ 114 rfl 3 116 k3 Try.underlying114 (unitElem (H := Unit)) gm (i + j) _ rfl M2 (by unfold maxLen; omega) _ _ _ rfl rfl hkey _ [] unitElem_mk ?_; intro w3 M3 g3))
              have E3 := E2.grown g3 (by simp; omega)
              have bel3 := bel2.grown g3 bel2.size (fun j hj => by cases hj; exact hgw)
              go_roundw
              case rel => exact ⟨j + 1, _, by omega, by go_num, by rw [hlast.out], by rw [hD2.out.2]; exact hD.add no hD2.out.1, M3, E3, bel3⟩
              case measure => simp [intOf]; omega
            · obtain rfl : j = m := by omega
              obtain ⟨q0, q1, q2, q3, q4⟩ := HQ.out
              have x3 := (E.cell 3).trans q3
              have x4 := (E.cell 4).trans q4
              have hsize : Maps.size D = i + j := by rw [hD.size, List.take_of_length_le (by simp; omega)]; simp; omega
              have hnl : ¬ ((Maps.size D : Nat) : Int) < (i : Int) + (j : Int) := by omega
              have HS := Lib.hid hsize
              clear q0 q1 q2 q3 q4 HL hD hsize
              have hnl2 : ¬ Maps.size D < i + j := by omega
              go_wp2_with (at_len; refine wpList_len_own _ rfl _ 114 rfl 3 116 Try.underlying114 _ gm (i + j) _ rfl M ?_)
              go_ret
              exact ⟨rfl, bel⟩

end Go.Proofs.Ytjmncbfmjeeneaa

namespace Go.Proofs.Ytjmncbfmjeeneaa
open Go.RowKit Go.Maps

def Fresh (lo : Nat) (A : Option Addr) : Prop := ∀ ad, A = some ad → lo ≤ ad.block
theorem own_fresh {w : World} {base size n c : Nat} {e : TypeId} {A : Option Addr} {xs : List Value} (h : w.ownsRow base e size (.slice A n c) n xs) : Fresh base A := by
  intro ad hA
  subst hA
  rcases h.2 with ⟨h, _⟩ | ⟨g, cap, cur, h, hb, _⟩
  · cases h
  · injection h with h
    injection h with h
    subst h
    exact hb
theorem qset0 (ep nx gv : Int) (vr vl : Value) (t : Nat → Int) (f : Nat → Nat → Bool) (x : Int) : (qCells ep nx gv vr vl t f).setIfInBounds 0 (.int .i64 x) = qCells x nx gv vr vl t f := rfl
theorem qset1 (ep nx gv : Int) (vr vl : Value) (t : Nat → Int) (f : Nat → Nat → Bool) (x : Int) : (qCells ep nx gv vr vl t f).setIfInBounds 1 (.int .i64 x) = qCells ep x gv vr vl t f := rfl
theorem qset2 (ep nx gv : Int) (vr vl : Value) (t : Nat → Int) (f : Nat → Nat → Bool) (x : Int) : (qCells ep nx gv vr vl t f).setIfInBounds 2 (.int .i64 x) = qCells ep nx x vr vl t f := rfl
theorem qset3 (ep nx gv : Int) (vr vl : Value) (t : Nat → Int) (f : Nat → Nat → Bool) (x : Value) : (qCells ep nx gv vr vl t f).setIfInBounds 3 x = qCells ep nx gv x vl t f := rfl
theorem qset4 (ep nx gv : Int) (vr vl : Value) (t : Nat → Int) (f : Nat → Nat → Bool) (x : Value) : (qCells ep nx gv vr vl t f).setIfInBounds 4 x = qCells ep nx gv vr x t f := rfl
theorem qBlk {w : World} {g : Nat} {ty : TypeId} {ep nx gv : Int} {vr vl : Value} {t : Nat → Int} {f : Nat → Nat → Bool} (h : Blk w g ty (qCells ep nx gv vr vl t f)) :
    w.cell? ⟨g, 0, none⟩ = some (.int .i64 ep) ∧ w.cell? ⟨g, 1, none⟩ = some (.int .i64 nx) ∧ w.cell? ⟨g, 2, none⟩ = some (.int .i64 gv) ∧ w.cell? ⟨g, 3, none⟩ = some vr ∧ w.cell? ⟨g, 4, none⟩ = some vl :=
  ⟨h.cell 0, h.cell 1, h.cell 2, h.cell 3, h.cell 4⟩
theorem Reads.tail_ {w : World} {B n b off s : Nat} {xs : List Value} (h : Reads w B s (some ⟨b, off, none⟩) n xs) (hn : 0 < n) : Reads w B s (some ⟨b, off + s, none⟩) (n - 1) (xs.drop s) := by
  obtain ⟨hl, hc⟩ := h
  refine ⟨by rw [List.length_drop, hl, Nat.sub_mul]; omega, fun _ => ?_⟩
  obtain ⟨ad, e, hb, hcell⟩ := hc hn
  injection e with e
  subst e
  refine ⟨_, rfl, hb, fun j u hu => ?_⟩
  rw [List.getElem?_drop] at hu
  have := hcell _ _ hu
  have e1 : (⟨b, off + s, none⟩ : Addr).add j = (⟨b, off, none⟩ : Addr).add (s + j) := by
    unfold Addr.add
    by_cases h1 : j = 0 <;> by_cases h2 : s + j = 0 <;> simp_all <;> omega
  rw [e1]
  exact this
theorem Blk.new' {w : World} {g : Nat} {t : TypeId} {cs : Array Value} (h : w.heap.size = g) : Blk (w.alloc (.cells cs t)) g t cs := by
  subst h
  exact Blk.new w t cs
theorem Reads.otherQ {w : World} {B size n : Nat} {A : Option Addr} {xs : List Value} (h : Reads w B size A n xs) {lo : Nat} (hA : Fresh lo A) {p : Addr} (hp : p.block < lo) (u : Value) : Reads (w.setCell p u) B size A n xs :=
  ⟨h.1, fun hn => by
    obtain ⟨ad, e, hb, hc⟩ := h.2 hn
    have := hA ad e
    exact ⟨ad, e, hb, fun j v hv => (World.cell?_setCell_other w p _ u (fun e => by
      have h3 := congrArg Addr.block e
      rw [block_of_add] at h3
      omega)).trans (hc j v hv)⟩⟩
theorem own_row_blk {w : World} {base s n c b off : Nat} {e : TypeId} {xs : List Value} (h : w.ownsRow base e s (.slice (some ⟨b, off, none⟩) n c) n xs) : ∃ cur, Blk w b e cur ∧ off = 0 ∧ base ≤ b ∧ ∀ (j : Nat) (u : Value), xs[j]? = some u → cur[j]? = some u := by
  rcases h.2 with ⟨h, _⟩ | ⟨g, cap, cur, h, hb, hg, _, _, _, hx⟩
  · cases h
  · injection h with h _ _
    injection h with h
    injection h with h1 h2
    subst h1
    subst h2
    refine ⟨cur, hg, rfl, hb, fun j u hu => ?_⟩
    rw [← hx, List.getElem?_take] at hu
    split at hu
    · simpa using hu
    · cases hu
theorem blk_reads {w : World} {s n b : Nat} {e : TypeId} {cur : Array Value} {xs : List Value} (h : Blk w b e cur) (hl : xs.length = n * s) (hx : ∀ (j : Nat) (u : Value), xs[j]? = some u → cur[j]? = some u) : Reads w w.heap.size s (some ⟨b, 0, none⟩) n xs :=
  ⟨hl, fun _ => ⟨_, rfl, h.lt, fun j u hu => by rw [show (Addr.mk b 0 none).add j = ⟨b, j, none⟩ by unfold Addr.add; split <;> simp_all]; exact (h.cell j).trans (hx j u hu)⟩⟩
theorem own_blk_geQ {w : World} {base size n : Nat} {e : TypeId} {v : Value} {xs : List Value} (h : w.ownsRow base e size v n xs) : ∀ k, v.ownBlock = some k → base ≤ k := by
  intro k hk
  rcases h.2 with ⟨rfl, _⟩ | ⟨g, cap, cur, rfl, hb, _⟩
  · simp [Value.ownBlock] at hk
  · have : g = k := by simpa [Value.ownBlock] using hk
    omega
theorem reads_oneQ (w : World) (t : TypeId) (cs : Array Value) (k : Nat) (hk : cs.size = k) : Reads (w.alloc (.cells cs t)) (w.heap.size + 1) k (some ⟨w.heap.size, 0, none⟩) 1 cs.toList := by
  refine ⟨by simp [hk], fun _ => ⟨_, rfl, Nat.lt_succ_self _, fun j u hu => ?_⟩⟩
  have hadd : (⟨w.heap.size, 0, none⟩ : Addr).add j = ⟨w.heap.size, j, none⟩ := by unfold Addr.add; split <;> simp_all
  rw [hadd, (Blk.new w t cs).cell]
  simpa using hu
theorem msg_info : (Try.prog.info? 87).map (fun i => (i.zero, i.size, i.bytes)) = some (some (.agg #[.int .i64 0, .int .i64 0]), 2, 16) := by kernel_rfl
theorem ls_info : (Try.prog.info? 90).map (fun i => (i.zero, i.size, i.bytes)) = some (some (.agg #[.int .i64 0, .int .i64 0, .int .i64 0, .int .i64 0]), 4, 32) := by kernel_rfl
theorem lsCells_snoc (ep : Int) (ls : List (Int × Int × Int)) (a b c : Int) : lsCells ep (ls ++ [(a, b, c)]) = lsCells ep ls ++ [.int .i64 ep, .int .i64 a, .int .i64 b, .int .i64 c] := by
  simp [lsCells, rowCells]
theorem msgCells_tail (m : Int × Int) (rd : List (Int × Int)) : (msgCells (m :: rd)).drop 2 = msgCells rd := by simp [msgCells, rowCells]

/-- an answer -/
def ansV (code ep no body : Int) : Value := .agg #[.int .i64 code, .int .i64 ep, .int .i64 no, .int .i64 body]
/-- a desk behind an act: what the queue in block g is now -/
structure DeskIs (w : World) (g : Nat) (ep nx gv : Int) (rd : List (Int × Int)) (ls : List (Int × Int × Int)) (t : Nat → Int) (f : Nat → Nat → Bool) : Prop where
  out : ∃ A1 c1 A2 c2, Blk w g 84 (qCells ep nx gv (.slice A1 rd.length c1) (.slice A2 ls.length c2) t f) ∧ rd.length ≤ c1 ∧ ls.length ≤ c2 ∧ Reads w w.heap.size 2 A1 rd.length (msgCells rd) ∧ Reads w w.heap.size 4 A2 ls.length (lsCells ep ls) ∧ Fresh (g + 1) A1 ∧ Fresh (g + 1) A2
def ActPost (g : Nat) (w : World) (ans : Value) (b : Bool) (ep nx gv : Int) (rd : List (Int × Int)) (ls : List (Int × Int × Int)) (t : Nat → Int) (f : Nat → Nat → Bool) (e : Ending) (w' : World) : Prop :=
  e = .returned (.tuple #[ans, .bool b]) ∧ DeskIs w' g ep nx gv rd ls t f ∧ Below g w w'

set_option maxRecDepth 100000 in
set_option maxHeartbeats 4000000 in
theorem receive_ok (ep nx gv : Int) (m : Int × Int) (rd : List (Int × Int)) (ls : List (Int × Int × Int)) (t : Nat → Int) (f : Nat → Nat → Bool) (g n k : Nat) (v1 v2 : Value) (ev : Array Value) (w : World)
    (E : Blk w g 84 (qCells ep nx gv v1 v2 t f)) (hn : (m :: rd).length = n) (hk : ls.length = k)
    (o1 : w.ownsRow (g + 1) 87 2 v1 n (msgCells (m :: rd))) (o2 : w.ownsRow (g + 1) 90 4 v2 k (lsCells ep ls)) (hlen : n + k ≤ 500) (hg0 : 0 ≤ gv) (hg1 : gv < 1073741824) :
    Calls Try.prog 30 #[.pointer (some ⟨g, 0, none⟩), .agg ev] w (ActPost g w (ansV 0 ep gv m.2) true ep nx (gv + 1) rd (ls ++ [(gv, m.1, m.2)]) t f) := by
  obtain ⟨i0, hi0, hz0, hz1, hz2⟩ := info_parts ls_info
  obtain ⟨A1, c1, rfl, hc1, _⟩ := own_shape o1
  obtain ⟨A2, c2, rfl, hc2, _⟩ := own_shape o2
  have hn1 : 1 ≤ n := by simp at hn; omega
  obtain ⟨b, off, hA1, hb, y0, y1⟩ := msgAt (Reads.of_own o1) hn (i := 0) (by omega)
  subst hA1
  simp only [Nat.zero_mul, Nat.add_zero, List.getD_cons_zero] at y0 y1
  obtain ⟨no, body⟩ := m
  dsimp only at y0 y1 ⊢
  have hgl := E.lt
  have E0 := (E.alloc (.cells ev 44)).alloc (.cells #[.int .i64 0, .int .i64 0, .int .i64 0, .int .i64 0] 48)
  have o1' := (o1.alloc (.cells ev 44)).alloc (.cells #[.int .i64 0, .int .i64 0, .int .i64 0, .int .i64 0] 48)
  have o2' := (o2.alloc (.cells ev 44)).alloc (.cells #[.int .i64 0, .int .i64 0, .int .i64 0, .int .i64 0] 48)
  have F0 := Blk.new' (w := w.alloc (.cells ev 44)) (g := w.heap.size + 1) (t := 48) (cs := #[.int .i64 0, .int .i64 0, .int .i64 0, .int .i64 0]) (by simp)
  have bel0 := ((Below.refl g w).alloc (Nat.le_of_lt hgl) (.cells ev 44)).alloc (by simp; omega) (.cells #[.int .i64 0, .int .i64 0, .int .i64 0, .int .i64 0] 48)
  have HP := Lib.hid (show ∀ w', DeskIs w' g ep nx (gv + 1) rd (ls ++ [(gv, no, body)]) t f → Below g w w' → ActPost g w (ansV 0 ep gv body) true ep nx (gv + 1) rd (ls ++ [(gv, no, body)]) t f (.returned (.tuple #[ansV 0 ep gv body, .bool true])) w' from fun w' a b => ⟨rfl, a, b⟩)
  generalize ActPost g w (ansV 0 ep gv body) true ep nx (gv + 1) rd (ls ++ [(gv, no, body)]) t f = POST at *
  clear o1 o2 E
  go_enter Try.func30, Try.ntmps30
  go_upto_region 1 with fail
  obtain ⟨ga, hga⟩ : ∃ ga, ga = w.heap.size + 1 := ⟨_, rfl⟩
  have hgga : g < ga := by omega
  rw [← hga] at F0 ⊢
  have hs0 : ((w.alloc (.cells ev 44)).alloc (.cells #[.int .i64 0, .int .i64 0, .int .i64 0, .int .i64 0] 48)).heap.size = ga + 1 := by simp [hga]
  have HGA := Lib.hid hga
  clear hga
  have HS0 := Lib.hid hs0
  generalize (w.alloc (.cells ev 44)).alloc (.cells #[.int .i64 0, .int .i64 0, .int .i64 0, .int .i64 0] 48) = w0 at *
  obtain ⟨b', off', hA1', hb', z0, z1⟩ := msgAt (Reads.of_own o1') hn (i := 0) (by omega)
  simp only [Nat.zero_mul, Nat.add_zero, List.getD_cons_zero] at z0 z1
  obtain ⟨rfl, rfl⟩ : b = b' ∧ off = off' := by injection hA1' with h; injection h with h1 h2; exact ⟨h1, h2⟩
  clear hA1' y0 y1 hb hs0
  obtain ⟨cur, KB0, hoff, hbg, hcur⟩ := own_row_blk o1'
  subst hoff
  have HC := Lib.hid hcur
  have hxl := Lib.hid o1'.1
  have nbg := KB0.ne_ E0 (by decide)
  clear hcur
  obtain ⟨x0, x1, x2, x3, x4⟩ := qBlk E0
  have hgf := E0.frozen
  have hgz := E0.lt
  have hn0 : ¬ n = 0 := by omega
  have hn0I : ¬ (n : Int) = 0 := by omega
  have hn0b : ((n : Int) == 0) = false := by rw [beq_eq_false_iff_ne]; omega
  have hnp : (0 : Int) < (n : Int) := by omega
  have hnN : 0 < n := hn1
  have hgb : (gv == 1073741824) = false := by rw [beq_eq_false_iff_ne]; omega
  have hgn : ¬ gv = 1073741824 := by omega
  have i2 : IntKind.i64.wrap (gv + 1) = gv + 1 := IntWalk.i64_in _ (by omega)
  have hfin1 := HP
  go_upto_region 5 with fail
  go_region
  obtain ⟨gl, hgl2⟩ : ∃ gl, gl = w0.heap.size := ⟨_, rfl⟩
  have E5 : Blk (w0.alloc (.cells #[.int .i64 ep, .int .i64 gv, .int .i64 no, .int .i64 body] 90)).drew g 84 _ := (E0.alloc (.cells #[.int .i64 ep, .int .i64 gv, .int .i64 no, .int .i64 body] 90)).drew
  have L5 : Blk (w0.alloc (.cells #[.int .i64 ep, .int .i64 gv, .int .i64 no, .int .i64 body] 90)).drew w0.heap.size 90 _ := (Blk.new w0 90 #[.int .i64 ep, .int .i64 gv, .int .i64 no, .int .i64 body]).drew
  have F5 : Blk (w0.alloc (.cells #[.int .i64 ep, .int .i64 gv, .int .i64 no, .int .i64 body] 90)).drew ga 48 _ := (F0.alloc (.cells #[.int .i64 ep, .int .i64 gv, .int .i64 no, .int .i64 body] 90)).drew
  have o15 : (w0.alloc (.cells #[.int .i64 ep, .int .i64 gv, .int .i64 no, .int .i64 body] 90)).drew.ownsRow (g + 1) 87 2 _ n _ := o1'.alloc (.cells #[.int .i64 ep, .int .i64 gv, .int .i64 no, .int .i64 body] 90)
  have o25 : (w0.alloc (.cells #[.int .i64 ep, .int .i64 gv, .int .i64 no, .int .i64 body] 90)).drew.ownsRow (g + 1) 90 4 _ k _ := o2'.alloc (.cells #[.int .i64 ep, .int .i64 gv, .int .i64 no, .int .i64 body] 90)
  have K5 : Blk (w0.alloc (.cells #[.int .i64 ep, .int .i64 gv, .int .i64 no, .int .i64 body] 90)).drew b 87 cur := (KB0.alloc (.cells #[.int .i64 ep, .int .i64 gv, .int .i64 no, .int .i64 body] 90)).drew
  have bel5 : Below g w (w0.alloc (.cells #[.int .i64 ep, .int .i64 gv, .int .i64 no, .int .i64 body] 90)).drew := (bel0.alloc (by omega) (.cells #[.int .i64 ep, .int .i64 gv, .int .i64 no, .int .i64 body] 90)).drew
  rw [← hgl2] at L5 ⊢
  have hlr := Lib.hid (fun x (hx : (Value.slice A2 k c2).ownBlock = some x) => show x < gl from by rw [hgl2]; exact (World.ownsRow.lt o2' x hx).2)
  generalize (w0.alloc (.cells #[.int .i64 ep, .int .i64 gv, .int .i64 no, .int .i64 body] 90)).drew = w5 at *
  have ngl : ¬ gl = g := fun e => by have := hgz; omega
  have ngl' : ¬ g = gl := fun e => ngl e.symm
  have nga : ¬ ga = g := by omega
  have nga' : ¬ g = ga := by omega
  clear x0 x1 x2 x3 x4 z0 z1 hgf hgz E0 F0 KB0 o1' o2' bel0 HS0 HGA hb' hgl2
  obtain ⟨x0, x1, x2, x3, x4⟩ := qBlk E5
  have hgf := E5.frozen
  have hgz := E5.lt
  have hsl : 1 ≤ n := hn1
  have hslI : (1 : Int) ≤ (n : Int) := by omega
  have hncI : (n : Int) ≤ (c1 : Int) := by omega
  have hFr : Fresh (g + 1) (if c1 = 1 then some ⟨b, 0, none⟩ else some ⟨b, 2, none⟩) := by
    have h := hbg
    intro ad e
    split at e <;> (injection e with e; subst e; exact h)
  go_upto_region 7 with fail
  have HAr := Lib.hid (show ∀ W, Blk W b 87 cur → Reads W W.heap.size 2 (if c1 = 1 then some ⟨b, 0, none⟩ else some ⟨b, 2, none⟩) (n - 1) (msgCells rd) from fun W hW => by
    have h := (blk_reads hW hxl.out HC.out).tail_ (by omega)
    rw [msgCells_tail, Nat.zero_add] at h
    by_cases hc : c1 = 1
    · have h0 : n - 1 = 0 := by omega
      have h1 : rd = [] := List.eq_nil_of_length_eq_zero (by simp at hn; omega)
      rw [h0, h1]
      exact ⟨rfl, fun h => absurd h (by omega)⟩
    · rw [if_neg hc]; exact h)
  generalize (if c1 = 1 then some (⟨b, 0, none⟩ : Addr) else some ⟨b, 2, none⟩) = Ar at *
  have E6 := E5.set_ 3 (.slice Ar (n - 1) (c1 - 1))
  rw [qset3] at E6
  have L6 := L5.far (p := ⟨g, 3, none⟩) ngl (.slice Ar (n - 1) (c1 - 1))
  have F6 := F5.far (p := ⟨g, 3, none⟩) nga (.slice Ar (n - 1) (c1 - 1))
  have o26 := ownsRow_setCell_other (a := ⟨g, 3, none⟩) o25 (own_blk_ne o25 E5 (by decide)) (.slice Ar (n - 1) (c1 - 1))
  have K6 := K5.far (p := ⟨g, 3, none⟩) nbg (.slice Ar (n - 1) (c1 - 1))
  have bel6 := bel5.setCell (p := ⟨g, 3, none⟩) (Nat.le_refl _) (.slice Ar (n - 1) (c1 - 1))
  generalize w5.setCell ⟨g, 3, none⟩ (.slice Ar (n - 1) (c1 - 1)) = w6 at *
  clear x0 x1 x2 x3 x4 hgf hgz E5 L5 F5 o15 o25 K5 bel5
  obtain ⟨x0, x1, x2, x3, x4⟩ := qBlk E6
  have hgf := E6.frozen
  have hgz := E6.lt
  have l0 := L6.cell 0
  have l1 := L6.cell 1
  have l2 := L6.cell 2
  have l3 := L6.cell 3
  have hlz := L6.lt
  have OD : w6.drew.ownsRow (g + 1) 90 4 (.slice A2 k c2) k (lsCells ep ls) := o26
  have o7 := OD.alloc (.cells #[.int .i64 ep, .int .i64 gv, .int .i64 no, .int .i64 body] 90)
  have rR := reads_oneQ w6.drew 90 #[.int .i64 ep, .int .i64 gv, .int .i64 no, .int .i64 body] 4 rfl
  have E7 : Blk (w6.drew.alloc (.cells #[.int .i64 ep, .int .i64 gv, .int .i64 no, .int .i64 body] 90)) g 84 _ := (E6.drew).alloc (.cells #[.int .i64 ep, .int .i64 gv, .int .i64 no, .int .i64 body] 90)
  have L7 : Blk (w6.drew.alloc (.cells #[.int .i64 ep, .int .i64 gv, .int .i64 no, .int .i64 body] 90)) gl 90 _ := (L6.drew).alloc (.cells #[.int .i64 ep, .int .i64 gv, .int .i64 no, .int .i64 body] 90)
  have F7 : Blk (w6.drew.alloc (.cells #[.int .i64 ep, .int .i64 gv, .int .i64 no, .int .i64 body] 90)) ga 48 _ := (F6.drew).alloc (.cells #[.int .i64 ep, .int .i64 gv, .int .i64 no, .int .i64 body] 90)
  have K7 : Blk (w6.drew.alloc (.cells #[.int .i64 ep, .int .i64 gv, .int .i64 no, .int .i64 body] 90)) b 87 cur := (K6.drew).alloc (.cells #[.int .i64 ep, .int .i64 gv, .int .i64 no, .int .i64 body] 90)
  have bel7 : Below g w (w6.drew.alloc (.cells #[.int .i64 ep, .int .i64 gv, .int .i64 no, .int .i64 body] 90)) := bel6.drew.alloc (Nat.le_of_lt hgz) (.cells #[.int .i64 ep, .int .i64 gv, .int .i64 no, .int .i64 body] 90)
  have ne7 := own_blk_ne o7 E7 (by decide)
  have neF := own_blk_ne o7 F7 (by decide)
  have neK := own_blk_ne o7 K7 (by decide)
  have neL : (Value.slice A2 k c2).ownBlock ≠ some gl := fun h => by have := hlr.out _ h; omega
  go_region_law (first
    | (refine step_append_any _ rfl (.tmp 58) (.tmp 60) _ rfl (g + 1) 90 i0 _ 4 32 Try.underlying31 hi0 hz0 hz1 hz2 rfl (by omega) (.slice A2 k c2) k (lsCells ep ls) rfl o7 _ _ 1 1 _ rfl rR (by intro u hu; simp at hu; rcases hu with h | h | h | h <;> subst h <;> rfl) (by simp only [maxLen]; omega) (by omega) (by simp; omega) ?_; intro v8 w8 o8 g8 at8; obtain ⟨A8, c8, rfl, hc8, _⟩ := own_shape o8; have E8 := E7.grown g8 (fun h => ne7 h.symm); have L8 := L7.grown g8 (fun h => neL h.symm); have F8 := F7.grown g8 (fun h => neF h.symm); have K8 := K7.grown g8 (fun h => neK h.symm); have bel8 := bel7.grown g8 (by simp; omega) (fun k hk => by have := own_blk_geQ o7 k hk; omega); have ne8 := own_blk_ne o8 E8 (by decide); have f8 := E8.frozen; have z8 := E8.lt; have q8 : w8.cell? ⟨g, 4, none⟩ = some (.slice A2 k c2) := (qBlk E8).2.2.2.2))
  all_goals
    clear x0 x1 x2 x3 x4 hgf hgz l0 l1 l2 l3 hlz E7 L7 F7 K7 E6 L6 F6 K6 o26 OD o7 rR bel6 bel7 ne7 neF neK neL q8 at8 g8
    have o9 := ownsRow_setCell_other (a := ⟨g, 4, none⟩) o8 ne8 (.slice A8 (k + 1) c8)
    have E9 := E8.set_ 4 (.slice A8 (k + 1) c8)
    rw [qset4] at E9
    have L9 := L8.far (p := ⟨g, 4, none⟩) ngl (.slice A8 (k + 1) c8)
    have F9 := F8.far (p := ⟨g, 4, none⟩) nga (.slice A8 (k + 1) c8)
    have K9 := K8.far (p := ⟨g, 4, none⟩) nbg (.slice A8 (k + 1) c8)
    have bel9 := bel8.setCell (p := ⟨g, 4, none⟩) (Nat.le_refl _) (.slice A8 (k + 1) c8)
    generalize w8.setCell ⟨g, 4, none⟩ (.slice A8 (k + 1) c8) = w9 at *
    clear E8 L8 F8 K8 bel8 o8 f8 z8
    obtain ⟨x0, x1, x2, x3, x4⟩ := qBlk E9
    have hgf := E9.frozen
    have hgz := E9.lt
    have l0 := L9.cell 0
    have l1 := L9.cell 1
    have l2 := L9.cell 2
    have l3 := L9.cell 3
    have f0 := F9.cell 0
    have f1 := F9.cell 1
    have f2 := F9.cell 2
    have f3 := F9.cell 3
    have ff := F9.frozen
    have fz := F9.lt
    have neg9 := own_blk_ne o9 E9 (by decide)
    have nef9 := own_blk_ne o9 F9 (by decide)
    have nba : b ≠ ga := K9.ne_ F9 (by decide)
    have E10 := E9.set_ 2 (.int .i64 (gv + 1))
    rw [qset2] at E10
    have EF := ((((E10.far (p := ⟨ga, 0, none⟩) nga' (.int .i64 0)).far (p := ⟨ga, 1, none⟩) nga' (.int .i64 ep)).far (p := ⟨ga, 2, none⟩) nga' (.int .i64 gv)).far (p := ⟨ga, 3, none⟩) nga' (.int .i64 body))
    have KF := (((((K9.far (p := ⟨g, 2, none⟩) nbg (.int .i64 (gv + 1))).far (p := ⟨ga, 0, none⟩) nba (.int .i64 0)).far (p := ⟨ga, 1, none⟩) nba (.int .i64 ep)).far (p := ⟨ga, 2, none⟩) nba (.int .i64 gv)).far (p := ⟨ga, 3, none⟩) nba (.int .i64 body))
    have oF := (ownsRow_setCell_other (a := ⟨ga, 3, none⟩) (ownsRow_setCell_other (a := ⟨ga, 2, none⟩) (ownsRow_setCell_other (a := ⟨ga, 1, none⟩) (ownsRow_setCell_other (a := ⟨ga, 0, none⟩) (ownsRow_setCell_other (a := ⟨g, 2, none⟩) o9 neg9 (.int .i64 (gv + 1))) nef9 (.int .i64 0)) nef9 (.int .i64 ep)) nef9 (.int .i64 gv)) nef9 (.int .i64 body))
    have bF := (((((bel9.setCell (p := ⟨g, 2, none⟩) (Nat.le_refl _) (.int .i64 (gv + 1))).setCell (p := ⟨ga, 0, none⟩) (Nat.le_of_lt hgga) (.int .i64 0)).setCell (p := ⟨ga, 1, none⟩) (Nat.le_of_lt hgga) (.int .i64 ep)).setCell (p := ⟨ga, 2, none⟩) (Nat.le_of_lt hgga) (.int .i64 gv)).setCell (p := ⟨ga, 3, none⟩) (Nat.le_of_lt hgga) (.int .i64 body))
    have e1 : rd.length = n - 1 := by simp at hn; omega
    have e2 : (ls ++ [(gv, no, body)]).length = k + 1 := by simp; omega
    have hfin := Lib.hid (HP.out _ ⟨Ar, c1 - 1, A8, c8, by rw [e1, e2]; exact ⟨EF, by omega, hc8, HAr.out _ KF, by rw [lsCells_snoc]; exact Reads.of_own oF, hFr, own_fresh oF⟩⟩ bF)
    clear e1 e2
    clear neg9 nef9 nba E10 EF KF oF bF K9 L9 bel9 HP HAr HC
    go_wp2_with fail
    exact bodyPost_ret (v := .tuple #[.agg #[.int .i64 0, .int .i64 ep, .int .i64 gv, .int .i64 body], .bool true]) (by simp [results, Try.results30, go_sem, *]) rfl hfin.out

end Go.Proofs.Ytjmncbfmjeeneaa

namespace Go.Proofs.Ytjmncbfmjeeneaa
open Go.RowKit

def setF {α : Type} (f : Nat → α) (q : Nat) (x : α) : Nat → α := fun i => if i = q then x else f i
theorem qWin {w : World} {g p : Nat} {ty : TypeId} {ep nx gv : Int} {vr vl : Value} {t : Nat → Int} {f : Nat → Nat → Bool} (h : Blk w g ty (qCells ep nx gv vr vl t f)) (hp : p < 4) :
    w.cell? ⟨g, 5 + p * 9, none⟩ = some (.int .i64 (t p)) ∧ w.cell? ⟨g, 5 + p * 9 + 1, none⟩ = some (.bool (f p 0)) ∧ w.cell? ⟨g, 5 + p * 9 + 2, none⟩ = some (.bool (f p 1)) ∧ w.cell? ⟨g, 5 + p * 9 + 3, none⟩ = some (.bool (f p 2)) ∧ w.cell? ⟨g, 5 + p * 9 + 4, none⟩ = some (.bool (f p 3)) ∧
      w.cell? ⟨g, 5 + p * 9 + 5, none⟩ = some (.bool (f p 4)) ∧ w.cell? ⟨g, 5 + p * 9 + 6, none⟩ = some (.bool (f p 5)) ∧ w.cell? ⟨g, 5 + p * 9 + 7, none⟩ = some (.bool (f p 6)) ∧ w.cell? ⟨g, 5 + p * 9 + 8, none⟩ = some (.bool (f p 7)) := by
  rcases (show p = 0 ∨ p = 1 ∨ p = 2 ∨ p = 3 by omega) with rfl | rfl | rfl | rfl <;> exact ⟨h.cell _, h.cell _, h.cell _, h.cell _, h.cell _, h.cell _, h.cell _, h.cell _, h.cell _⟩
theorem own_rows_ne {w : World} {b1 b2 s1 s2 n1 n2 c2 : Nat} {e1 e2 : TypeId} {v1 : Value} {A2 : Option Addr} {xs ys : List Value} (h1 : w.ownsRow b1 e1 s1 v1 n1 xs) (h2 : w.ownsRow b2 e2 s2 (.slice A2 n2 c2) n2 ys) (hne : e1 ≠ e2) : v1.ownBlock = none ∨ v1.ownBlock ≠ (Value.slice A2 n2 c2).ownBlock := by
  rcases A2 with _ | ⟨b, off, x⟩
  · rcases h : v1.ownBlock with _ | k
    · exact .inl rfl
    · exact .inr (by simp [Value.ownBlock])
  · rcases h2.2 with ⟨h, _⟩ | ⟨g, cap, cur, h, _, hg, _⟩
    · cases h
    · injection h with h _ _
      injection h with h
      injection h with hb _ _
      subst hb
      exact .inr (own_blk_ne h1 hg hne)
theorem own_drewQ {w : World} {base size n : Nat} {e : TypeId} {u : Value} {xs : List Value} (h : w.ownsRow base e size u n xs) : w.drew.ownsRow base e size u n xs := h
def putWin (w : World) (g o : Nat) (v : Int) (q : Nat → Bool) : World :=
  ((((((((w.setCell ⟨g, o, none⟩ (.int .i64 v)).setCell ⟨g, o + 1, none⟩ (.bool (q 0))).setCell ⟨g, o + 2, none⟩ (.bool (q 1))).setCell ⟨g, o + 3, none⟩ (.bool (q 2))).setCell ⟨g, o + 4, none⟩ (.bool (q 3))).setCell ⟨g, o + 5, none⟩ (.bool (q 4))).setCell ⟨g, o + 6, none⟩ (.bool (q 5))).setCell ⟨g, o + 7, none⟩ (.bool (q 6))).setCell ⟨g, o + 8, none⟩ (.bool (q 7))
theorem qwin_set (ep nx gv : Int) (vr vl : Value) (t : Nat → Int) (f : Nat → Nat → Bool) (p : Nat) (hp : p < 4) (v : Int) (q : Nat → Bool) : ((((((((((qCells ep nx gv vr vl t f).setIfInBounds (5 + p * 9) (.int .i64 v)).setIfInBounds (5 + p * 9 + 1) (.bool (q 0))).setIfInBounds (5 + p * 9 + 2) (.bool (q 1))).setIfInBounds (5 + p * 9 + 3) (.bool (q 2))).setIfInBounds (5 + p * 9 + 4) (.bool (q 3))).setIfInBounds (5 + p * 9 + 5) (.bool (q 4))).setIfInBounds (5 + p * 9 + 6) (.bool (q 5))).setIfInBounds (5 + p * 9 + 7) (.bool (q 6))).setIfInBounds (5 + p * 9 + 8) (.bool (q 7))) = qCells ep nx gv vr vl (setF t p v) (setF f p q) := by
  rcases (show p = 0 ∨ p = 1 ∨ p = 2 ∨ p = 3 by omega) with rfl | rfl | rfl | rfl <;> kernel_rfl
theorem putWin_blk {w : World} {g p : Nat} {ty : TypeId} {ep nx gv : Int} {vr vl : Value} {t : Nat → Int} {f : Nat → Nat → Bool} (h : Blk w g ty (qCells ep nx gv vr vl t f)) (hp : p < 4) (v : Int) (q : Nat → Bool) :
    Blk (putWin w g (5 + p * 9) v q) g ty (qCells ep nx gv vr vl (setF t p v) (setF f p q)) := by
  have h9 := ((((((((h.set_ (5 + p * 9) (.int .i64 v)).set_ (5 + p * 9 + 1) (.bool (q 0))).set_ (5 + p * 9 + 2) (.bool (q 1))).set_ (5 + p * 9 + 3) (.bool (q 2))).set_ (5 + p * 9 + 4) (.bool (q 3))).set_ (5 + p * 9 + 5) (.bool (q 4))).set_ (5 + p * 9 + 6) (.bool (q 5))).set_ (5 + p * 9 + 7) (.bool (q 6))).set_ (5 + p * 9 + 8) (.bool (q 7))
  rw [qwin_set ep nx gv vr vl t f p hp v q] at h9
  exact h9
theorem putWin_far {w : World} {g g' o : Nat} {ty : TypeId} {cs : Array Value} (h : Blk w g' ty cs) (hg : g' ≠ g) (v : Int) (q : Nat → Bool) : Blk (putWin w g o v q) g' ty cs :=
  ((((((((h.far (p := ⟨g, o, none⟩) hg _).far (p := ⟨g, o + 1, none⟩) hg _).far (p := ⟨g, o + 2, none⟩) hg _).far (p := ⟨g, o + 3, none⟩) hg _).far (p := ⟨g, o + 4, none⟩) hg _).far (p := ⟨g, o + 5, none⟩) hg _).far (p := ⟨g, o + 6, none⟩) hg _).far (p := ⟨g, o + 7, none⟩) hg _).far (p := ⟨g, o + 8, none⟩) hg _
theorem putWin_own {w : World} {base size n g o : Nat} {e : TypeId} {u : Value} {xs : List Value} (h : w.ownsRow base e size u n xs) (hg : u.ownBlock ≠ some g) (v : Int) (q : Nat → Bool) : (putWin w g o v q).ownsRow base e size u n xs :=
  ownsRow_setCell_other (ownsRow_setCell_other (ownsRow_setCell_other (ownsRow_setCell_other (ownsRow_setCell_other (ownsRow_setCell_other (ownsRow_setCell_other (ownsRow_setCell_other (ownsRow_setCell_other h (a := ⟨g, o, none⟩) hg _) (a := ⟨g, o + 1, none⟩) hg _) (a := ⟨g, o + 2, none⟩) hg _) (a := ⟨g, o + 3, none⟩) hg _) (a := ⟨g, o + 4, none⟩) hg _) (a := ⟨g, o + 5, none⟩) hg _) (a := ⟨g, o + 6, none⟩) hg _) (a := ⟨g, o + 7, none⟩) hg _) (a := ⟨g, o + 8, none⟩) hg _
theorem putWin_below {w a : World} {B g o : Nat} (h : Below B a w) (hg : B ≤ g) (v : Int) (q : Nat → Bool) : Below B a (putWin w g o v q) :=
  ((((((((h.setCell (p := ⟨g, o, none⟩) hg _).setCell (p := ⟨g, o + 1, none⟩) hg _).setCell (p := ⟨g, o + 2, none⟩) hg _).setCell (p := ⟨g, o + 3, none⟩) hg _).setCell (p := ⟨g, o + 4, none⟩) hg _).setCell (p := ⟨g, o + 5, none⟩) hg _).setCell (p := ⟨g, o + 6, none⟩) hg _).setCell (p := ⟨g, o + 7, none⟩) hg _).setCell (p := ⟨g, o + 8, none⟩) hg _
theorem msgCells_snoc (rd : List (Int × Int)) (a b : Int) : msgCells (rd ++ [(a, b)]) = msgCells rd ++ [.int .i64 a, .int .i64 b] := by
  simp [msgCells, rowCells]

set_option maxRecDepth 100000 in
theorem win_put {w : World} {gw : Nat} {ty : TypeId} (h : Blk w gw ty #[.int .i64 0, .bool false, .bool false, .bool false, .bool false, .bool false, .bool false, .bool false, .bool false]) (T : Int) (q : Nat → Bool) : Blk (((((((((w.setCell ⟨gw, 0, none⟩ (.int .i64 T)).setCell ⟨gw, 1, none⟩ (.bool (q 0))).setCell ⟨gw, 2, none⟩ (.bool (q 1))).setCell ⟨gw, 3, none⟩ (.bool (q 2))).setCell ⟨gw, 4, none⟩ (.bool (q 3))).setCell ⟨gw, 5, none⟩ (.bool (q 4))).setCell ⟨gw, 6, none⟩ (.bool (q 5))).setCell ⟨gw, 7, none⟩ (.bool (q 6))).setCell ⟨gw, 8, none⟩ (.bool (q 7))) gw ty (winCells T q) := by
  have h9 := (((((((((h.set_ 0 (.int .i64 T)).set_ 1 (.bool (q 0))).set_ 2 (.bool (q 1))).set_ 3 (.bool (q 2))).set_ 4 (.bool (q 3))).set_ 5 (.bool (q 4))).set_ 6 (.bool (q 5))).set_ 7 (.bool (q 6))).set_ 8 (.bool (q 7)))
  have e : (((((((((((#[.int .i64 0, .bool false, .bool false, .bool false, .bool false, .bool false, .bool false, .bool false, .bool false] : Array Value).setIfInBounds 0 (.int .i64 T)).setIfInBounds 1 (.bool (q 0))).setIfInBounds 2 (.bool (q 1))).setIfInBounds 3 (.bool (q 2))).setIfInBounds 4 (.bool (q 3))).setIfInBounds 5 (.bool (q 4))).setIfInBounds 6 (.bool (q 5))).setIfInBounds 7 (.bool (q 6))).setIfInBounds 8 (.bool (q 7)))) = winCells T q := by kernel_rfl
  rw [e] at h9
  exact h9
theorem win_put_below {w a : World} {B gw : Nat} (h : Below B a w) (hg : B ≤ gw) (T : Int) (q : Nat → Bool) : Below B a (((((((((w.setCell ⟨gw, 0, none⟩ (.int .i64 T)).setCell ⟨gw, 1, none⟩ (.bool (q 0))).setCell ⟨gw, 2, none⟩ (.bool (q 1))).setCell ⟨gw, 3, none⟩ (.bool (q 2))).setCell ⟨gw, 4, none⟩ (.bool (q 3))).setCell ⟨gw, 5, none⟩ (.bool (q 4))).setCell ⟨gw, 6, none⟩ (.bool (q 5))).setCell ⟨gw, 7, none⟩ (.bool (q 6))).setCell ⟨gw, 8, none⟩ (.bool (q 7))) :=
  (((((((((h.setCell (p := ⟨gw, 0, none⟩) hg _).setCell (p := ⟨gw, 1, none⟩) hg _).setCell (p := ⟨gw, 2, none⟩) hg _).setCell (p := ⟨gw, 3, none⟩) hg _).setCell (p := ⟨gw, 4, none⟩) hg _).setCell (p := ⟨gw, 5, none⟩) hg _).setCell (p := ⟨gw, 6, none⟩) hg _).setCell (p := ⟨gw, 7, none⟩) hg _).setCell (p := ⟨gw, 8, none⟩) hg _)

set_option maxRecDepth 100000 in
set_option maxHeartbeats 3000000 in
theorem publish_ok (ep nx gv : Int) (rd : List (Int × Int)) (ls : List (Int × Int × Int)) (t : Nat → Int) (f : Nat → Nat → Bool) (S : Int → Bool) (g n m p : Nat) (v1 v2 : Value) (id body T : Int) (w : World)
    (E : Blk w g 84 (qCells ep nx gv v1 v2 t f)) (hn : rd.length = n) (hm : ls.length = m) (hp : p < 4)
    (o1 : w.ownsRow (g + 1) 87 2 v1 n (msgCells rd)) (o2 : w.ownsRow (g + 1) 90 4 v2 m (lsCells ep ls)) (hlen : n + m < 500) (hx0 : 0 ≤ nx) (hx1 : nx < 1073741824)
    (hf : f p = shows (t p) S) (hW : WOk (t p) S) (h1 : 0 ≤ id) (h2 : id ≤ 1073741824) (hl : t p - 8 ≤ id) (hs : S id = false) (hT : max (t p) (id + 1) = T) :
    Calls Try.prog 29 #[.pointer (some ⟨g, 0, none⟩), .agg #[.int .i64 1, .int .i64 p, .int .i64 id, .int .i64 body, .int .i64 0, .int .i64 0]] w
      (ActPost g w (ansV 0 0 0 0) true ep (nx + 1) gv (rd ++ [(nx, body)]) ls (setF t p T) (setF f p (shows T fun x => S x || x == id))) := by
  obtain ⟨i0, hi0, hz0, hz1, hz2⟩ := info_parts msg_info
  obtain ⟨A1, c1, rfl, hc1, _⟩ := own_shape o1
  obtain ⟨A2, c2, rfl, hc2, _⟩ := own_shape o2
  have CT' := fun W => wtake_fresh (t p) S id W hW h1 h2 hl hs T hT
  rw [← hf] at CT'
  generalize (shows T fun x => S x || x == id) = q at *
  unfold winCells at CT'
  have CT := Lib.hid CT'
  clear CT' hf hW hs hT hl
  have hgl := E.lt
  have E0 := (E.alloc (.cells #[.int .i64 1, .int .i64 p, .int .i64 id, .int .i64 body, .int .i64 0, .int .i64 0] 44)).alloc (.cells #[.int .i64 0, .int .i64 0, .int .i64 0, .int .i64 0] 48)
  have o1' := (o1.alloc (.cells #[.int .i64 1, .int .i64 p, .int .i64 id, .int .i64 body, .int .i64 0, .int .i64 0] 44)).alloc (.cells #[.int .i64 0, .int .i64 0, .int .i64 0, .int .i64 0] 48)
  have o2' := (o2.alloc (.cells #[.int .i64 1, .int .i64 p, .int .i64 id, .int .i64 body, .int .i64 0, .int .i64 0] 44)).alloc (.cells #[.int .i64 0, .int .i64 0, .int .i64 0, .int .i64 0] 48)
  have D0 := (Blk.new w 44 #[.int .i64 1, .int .i64 p, .int .i64 id, .int .i64 body, .int .i64 0, .int .i64 0]).alloc (.cells #[.int .i64 0, .int .i64 0, .int .i64 0, .int .i64 0] 48)
  have F0 := Blk.new' (w := w.alloc (.cells #[.int .i64 1, .int .i64 p, .int .i64 id, .int .i64 body, .int .i64 0, .int .i64 0] 44)) (g := w.heap.size + 1) (t := 48) (cs := #[.int .i64 0, .int .i64 0, .int .i64 0, .int .i64 0]) (by simp)
  have bel0 := ((Below.refl g w).alloc (Nat.le_of_lt hgl) (.cells #[.int .i64 1, .int .i64 p, .int .i64 id, .int .i64 body, .int .i64 0, .int .i64 0] 44)).alloc (by simp; omega) (.cells #[.int .i64 0, .int .i64 0, .int .i64 0, .int .i64 0] 48)
  have HP := Lib.hid (show ∀ w', DeskIs w' g ep (nx + 1) gv (rd ++ [(nx, body)]) ls (setF t p T) (setF f p q) → Below g w w' → ActPost g w (ansV 0 0 0 0) true ep (nx + 1) gv (rd ++ [(nx, body)]) ls (setF t p T) (setF f p q) (.returned (.tuple #[ansV 0 0 0 0, .bool true])) w' from fun w' a b => ⟨rfl, a, b⟩)
  generalize ActPost g w (ansV 0 0 0 0) true ep (nx + 1) gv (rd ++ [(nx, body)]) ls (setF t p T) (setF f p q) = POST at *
  clear o1 o2 E
  go_enter Try.func29, Try.ntmps29
  go_upto_region 1 with fail
  obtain ⟨ga, hga⟩ : ∃ ga, ga = w.heap.size + 1 := ⟨_, rfl⟩
  obtain ⟨ge, hge⟩ : ∃ ge, ge = w.heap.size := ⟨_, rfl⟩
  have hgga : g < ga := by omega
  have hgge : g < ge := by omega
  have hgea : ge < ga := by omega
  rw [← hga] at F0 ⊢
  rw [← hge] at D0 ⊢
  generalize (w.alloc (.cells #[.int .i64 1, .int .i64 p, .int .i64 id, .int .i64 body, .int .i64 0, .int .i64 0] 44)).alloc (.cells #[.int .i64 0, .int .i64 0, .int .i64 0, .int .i64 0] 48) = w0 at *
  clear hga hge
  obtain ⟨u0, u1, u2, u3, u4, u5, u6, u7, u8⟩ := qWin E0 hp
  have hgz := E0.lt
  have hez := D0.lt
  have d1 := D0.cell 1
  have d2 := D0.cell 2
  have hpI : (p : Int) < 4 := by omega
  have n1 : ¬ g = w0.heap.size := by omega
  have n2 : ¬ w0.heap.size = g := by omega
  have n3 : ¬ ge = w0.heap.size := by omega
  have n4 : ¬ w0.heap.size = ge := by omega
  go_cut [6, 7, 8] (fun s6 s7 s8 wx => ∃ gw, s6 = .pointer (some ⟨gw, 0, none⟩) ∧ s7 = .bool true ∧ s8 = .int .i64 0 ∧ Blk wx gw 34 (winCells T q) ∧ Below w0.heap.size w0 wx ∧ w0.heap.size ≤ gw)
  case first =>
    go_region_held3 (fun W => W.cell? ⟨g, 5 + p * 9, none⟩ = some (.int .i64 (t p)) ∧ W.cell? ⟨g, 5 + p * 9 + 1, none⟩ = some (.bool (f p 0)) ∧ W.cell? ⟨g, 5 + p * 9 + 2, none⟩ = some (.bool (f p 1)) ∧ W.cell? ⟨g, 5 + p * 9 + 3, none⟩ = some (.bool (f p 2)) ∧ W.cell? ⟨g, 5 + p * 9 + 4, none⟩ = some (.bool (f p 3)) ∧ W.cell? ⟨g, 5 + p * 9 + 5, none⟩ = some (.bool (f p 4)) ∧ W.cell? ⟨g, 5 + p * 9 + 6, none⟩ = some (.bool (f p 5)) ∧ W.cell? ⟨g, 5 + p * 9 + 7, none⟩ = some (.bool (f p 6)) ∧ W.cell? ⟨g, 5 + p * 9 + 8, none⟩ = some (.bool (f p 7)) ∧ W.cell? ⟨ge, 1, none⟩ = some (.int .i64 p) ∧ W.cell? ⟨ge, 2, none⟩ = some (.int .i64 id)) (go_keep)
      (first
        | (go_at_call 52; refine (CT.out _).mono ?_; rintro e w3 ⟨rfl, b3⟩; have eN : Blk w3 w0.heap.size 34 #[.int .i64 0, .bool false, .bool false, .bool false, .bool false, .bool false, .bool false, .bool false, .bool false] := (by first | exact ((Blk.new w0 _ _).drew).below b3 (by simp) | exact (Blk.new w0.drew _ _).below b3 (by simp)); have hbW : Below w0.heap.size w0 w3 := (by first | exact (Below.refl _ _).drew.trans (b3.mono (by simp)) | exact ((Below.refl _ _).alloc (Nat.le_refl _) _).drew.trans (b3.mono (by simp)) | exact ((Below.refl _ _).drew.alloc (by simp) _).trans (b3.mono (by simp))); have m1 : ¬ g = w3.heap.size := (by have := hbW.size; omega); have m2 : ¬ w3.heap.size = g := (by have := hbW.size; omega); have m3 : ¬ ge = w3.heap.size := (by have := hbW.size; omega); have m4 : ¬ w3.heap.size = ge := (by have := hbW.size; omega); have fN := eN.frozen; have zN := eN.lt; have c0 := eN.cell 0; have c1 := eN.cell 1; have c2 := eN.cell 2; have c3 := eN.cell 3; have c4 := eN.cell 4; have c5 := eN.cell 5; have c6 := eN.cell 6; have c7 := eN.cell 7; have c8 := eN.cell 8; have s0 := (hbW.cell (p := ⟨g, 5 + p * 9, none⟩) hgz).trans u0; have s1 := (hbW.cell (p := ⟨g, 5 + p * 9 + 1, none⟩) hgz).trans u1; have s2 := (hbW.cell (p := ⟨g, 5 + p * 9 + 2, none⟩) hgz).trans u2; have s3 := (hbW.cell (p := ⟨g, 5 + p * 9 + 3, none⟩) hgz).trans u3; have s4 := (hbW.cell (p := ⟨g, 5 + p * 9 + 4, none⟩) hgz).trans u4; have s5 := (hbW.cell (p := ⟨g, 5 + p * 9 + 5, none⟩) hgz).trans u5; have s6 := (hbW.cell (p := ⟨g, 5 + p * 9 + 6, none⟩) hgz).trans u6; have s7 := (hbW.cell (p := ⟨g, 5 + p * 9 + 7, none⟩) hgz).trans u7; have s8 := (hbW.cell (p := ⟨g, 5 + p * 9 + 8, none⟩) hgz).trans u8; have s9 := (hbW.cell (p := ⟨ge, 1, none⟩) hez).trans d1; have s10 := (hbW.cell (p := ⟨ge, 2, none⟩) hez).trans d2; clear b3)
        | (go_at_call 52; refine (CT.out _).mono ?_; rintro e w3 ⟨rfl, b3⟩; have hbW : Below w0.heap.size w0 w3 := (by first | exact (Below.refl _ _).drew.trans (b3.mono (by simp)) | exact ((Below.refl _ _).alloc (Nat.le_refl _) _).drew.trans (b3.mono (by simp)) | exact ((Below.refl _ _).drew.alloc (by simp) _).trans (b3.mono (by simp))); have m1 : ¬ g = w3.heap.size := (by have := hbW.size; omega); have m2 : ¬ w3.heap.size = g := (by have := hbW.size; omega); have m3 : ¬ ge = w3.heap.size := (by have := hbW.size; omega); have m4 : ¬ w3.heap.size = ge := (by have := hbW.size; omega); have s0 := (hbW.cell (p := ⟨g, 5 + p * 9, none⟩) hgz).trans u0; have s1 := (hbW.cell (p := ⟨g, 5 + p * 9 + 1, none⟩) hgz).trans u1; have s2 := (hbW.cell (p := ⟨g, 5 + p * 9 + 2, none⟩) hgz).trans u2; have s3 := (hbW.cell (p := ⟨g, 5 + p * 9 + 3, none⟩) hgz).trans u3; have s4 := (hbW.cell (p := ⟨g, 5 + p * 9 + 4, none⟩) hgz).trans u4; have s5 := (hbW.cell (p := ⟨g, 5 + p * 9 + 5, none⟩) hgz).trans u5; have s6 := (hbW.cell (p := ⟨g, 5 + p * 9 + 6, none⟩) hgz).trans u6; have s7 := (hbW.cell (p := ⟨g, 5 + p * 9 + 7, none⟩) hgz).trans u7; have s8 := (hbW.cell (p := ⟨g, 5 + p * 9 + 8, none⟩) hgz).trans u8; have s9 := (hbW.cell (p := ⟨ge, 1, none⟩) hez).trans d1; have s10 := (hbW.cell (p := ⟨ge, 2, none⟩) hez).trans d2; clear b3))
    all_goals
      go_wp2_with fail
      go_meet
      first
        | with_reducible exact ⟨_, rfl, rfl, rfl, win_put eN T q, win_put_below hbW (Nat.le_refl _) T q, Nat.le_refl _⟩
        | exact ⟨_, rfl, rfl, rfl, Blk.new w3 _ _, hbW.alloc hbW.size _, hbW.size⟩
  case rest =>
    obtain ⟨gw, rfl, rfl, rfl, W1, b1, hgw⟩ := hcut
    have E1 := E0.below b1 E0.lt
    have D1 := D0.below b1 D0.lt
    have F1 := F0.below b1 F0.lt
    have o11 := own_below o1' b1 (Nat.le_refl _)
    have o21 := own_below o2' b1 (Nat.le_refl _)
    have bel1 := bel0.trans (b1.mono (Nat.le_of_lt hgz))
    clear u0 u1 u2 u3 u4 u5 u6 u7 u8 d1 d2 n1 n2 n3 n4 E0 D0 F0 o1' o2' bel0 b1 CT
    obtain ⟨x0, x1, x2, x3, x4⟩ := qBlk E1
    have z1 := E1.lt
    have iw : IntKind.i64.wrap ((n : Int) + (m : Int)) = (n : Int) + (m : Int) := IntWalk.i64_in _ (by omega)
    have g1 : ((n : Int) + (m : Int) == 500) = false := by rw [beq_eq_false_iff_ne]; omega
    have g2 : decide ((n : Int) + (m : Int) = 500) = false := by rw [decide_eq_false_iff_not]; omega
    have g3 : (n + m == 500) = false := by rw [beq_eq_false_iff_ne]; omega
    have g4 : (nx == 1073741824) = false := by rw [beq_eq_false_iff_ne]; omega
    have ngw : g ≠ gw := by omega
    have ngw' : ¬ gw = g := by omega
    go_wp2_with fail
    go_quiet (fail)
    have E2 : Blk (wc.drewN nq) g 84 _ := E1.drewN nq
    have D2 : Blk (wc.drewN nq) ge 44 _ := D1.drewN nq
    have F2 : Blk (wc.drewN nq) ga 48 _ := F1.drewN nq
    have W2 : Blk (wc.drewN nq) gw 34 _ := W1.drewN nq
    have o12 : (wc.drewN nq).ownsRow (g + 1) 87 2 _ n _ := o11
    have o22 : (wc.drewN nq).ownsRow (g + 1) 90 4 _ m _ := o21
    have bel2 := below_drewN bel1 nq
    generalize wc.drewN nq = w2 at *
    clear x0 x1 x2 x3 x4 z1 g1 g2 g3 E1 D1 F1 W1 o11 o21 bel1
    obtain ⟨u0, u1, u2, u3, u4, u5, u6, u7, u8⟩ := qWin E2 hp
    obtain ⟨y0, y1, y2, y3, y4, y5, y6, y7, y8⟩ := winBlk W2
    have d1 := D2.cell 1
    have hgf := E2.frozen
    have hgz2 := E2.lt
    go_wp2_with fail
    go_region
    have ma := own_blk_ne o12 E2 (by decide)
    have mb := own_blk_ne o22 E2 (by decide)
    have nge : ¬ ge = g := by omega
    have nga : ¬ ga = g := by omega
    have nga' : ¬ g = ga := by omega
    have hput : putWin w2 g (5 + p * 9) T q = (((((((((w2.setCell ⟨g, 5 + p * 9, none⟩ (.int .i64 T)).setCell ⟨g, 5 + p * 9 + 1, none⟩ (.bool (q 0))).setCell ⟨g, 5 + p * 9 + 2, none⟩ (.bool (q 1))).setCell ⟨g, 5 + p * 9 + 3, none⟩ (.bool (q 2))).setCell ⟨g, 5 + p * 9 + 4, none⟩ (.bool (q 3))).setCell ⟨g, 5 + p * 9 + 5, none⟩ (.bool (q 4))).setCell ⟨g, 5 + p * 9 + 6, none⟩ (.bool (q 5))).setCell ⟨g, 5 + p * 9 + 7, none⟩ (.bool (q 6))).setCell ⟨g, 5 + p * 9 + 8, none⟩ (.bool (q 7))) := rfl
    have E3 := (putWin_blk E2 hp T q).drew
    have D3 := (putWin_far (o := 5 + p * 9) D2 nge T q).drew
    have F3 := (putWin_far (o := 5 + p * 9) F2 nga T q).drew
    have o13 := own_drewQ (putWin_own (o := 5 + p * 9) o12 ma T q)
    have o23 := own_drewQ (putWin_own (o := 5 + p * 9) o22 mb T q)
    have bel3 := (putWin_below (o := 5 + p * 9) bel2 (Nat.le_refl _) T q).drew
    rw [hput] at E3 D3 F3 o13 o23 bel3
    clear hput
    generalize (((((((((w2.setCell ⟨g, 5 + p * 9, none⟩ (.int .i64 T)).setCell ⟨g, 5 + p * 9 + 1, none⟩ (.bool (q 0))).setCell ⟨g, 5 + p * 9 + 2, none⟩ (.bool (q 1))).setCell ⟨g, 5 + p * 9 + 3, none⟩ (.bool (q 2))).setCell ⟨g, 5 + p * 9 + 4, none⟩ (.bool (q 3))).setCell ⟨g, 5 + p * 9 + 5, none⟩ (.bool (q 4))).setCell ⟨g, 5 + p * 9 + 6, none⟩ (.bool (q 5))).setCell ⟨g, 5 + p * 9 + 7, none⟩ (.bool (q 6))).setCell ⟨g, 5 + p * 9 + 8, none⟩ (.bool (q 7))).drew = w3 at *
    clear u0 u1 u2 u3 u4 u5 u6 u7 u8 y0 y1 y2 y3 y4 y5 y6 y7 y8 d1 hgf hgz2 E2 D2 F2 W2 o12 o22 bel2 ma mb
    obtain ⟨x0, x1, x2, x3, x4⟩ := qBlk E3
    have hgf := E3.frozen
    have hgz3 := E3.lt
    have hez3 := D3.lt
    have d3 := D3.cell 3
    have OD : w3.drew.ownsRow (g + 1) 87 2 (.slice A1 n c1) n (msgCells rd) := o13
    have o7 := OD.alloc (.cells #[.int .i64 nx, .int .i64 body] 87)
    have rR := reads_oneQ w3.drew 87 #[.int .i64 nx, .int .i64 body] 2 rfl
    have E7 : Blk (w3.drew.alloc (.cells #[.int .i64 nx, .int .i64 body] 87)) g 84 _ := (E3.drew).alloc (.cells #[.int .i64 nx, .int .i64 body] 87)
    have F7 : Blk (w3.drew.alloc (.cells #[.int .i64 nx, .int .i64 body] 87)) ga 48 _ := (F3.drew).alloc (.cells #[.int .i64 nx, .int .i64 body] 87)
    have o27 : (w3.drew.alloc (.cells #[.int .i64 nx, .int .i64 body] 87)).ownsRow (g + 1) 90 4 (.slice A2 m c2) m (lsCells ep ls) := (show w3.drew.ownsRow (g + 1) 90 4 (.slice A2 m c2) m (lsCells ep ls) from o23).alloc (.cells #[.int .i64 nx, .int .i64 body] 87)
    have bel7 : Below g w (w3.drew.alloc (.cells #[.int .i64 nx, .int .i64 body] 87)) := bel3.drew.alloc (Nat.le_of_lt hgz3) (.cells #[.int .i64 nx, .int .i64 body] 87)
    have ne7 := own_blk_ne o7 E7 (by decide)
    have neF := own_blk_ne o7 F7 (by decide)
    have neL := own_rows_ne o27 o7 (by decide)
    have i9 : IntKind.i64.wrap (nx + 1) = nx + 1 := IntWalk.i64_in _ (by omega)
    go_upto_region 9 with fail
    go_cut [80] (fun _ wx => ∃ A8 c8, Blk wx g 84 (qCells ep nx gv (.slice A8 (n + 1) c8) (.slice A2 m c2) (setF t p T) (setF f p q)) ∧ n + 1 ≤ c8 ∧ Blk wx ga 48 #[.int .i64 0, .int .i64 0, .int .i64 0, .int .i64 0] ∧ wx.ownsRow (g + 1) 87 2 (.slice A8 (n + 1) c8) (n + 1) (msgCells (rd ++ [(nx, body)])) ∧ wx.ownsRow (g + 1) 90 4 (.slice A2 m c2) m (lsCells ep ls) ∧ Below g w wx)
    case first =>
      go_region_law (first
        | (refine step_append_any _ rfl (.tmp 70) (.tmp 79) _ rfl (g + 1) 87 i0 _ 2 16 Try.underlying30 hi0 hz0 hz1 hz2 rfl (by omega) (.slice A1 n c1) n (msgCells rd) rfl o7 _ _ 1 1 _ rfl rR (by intro u hu; simp at hu; rcases hu with h | h <;> subst h <;> rfl) (by simp only [maxLen]; omega) (by omega) (by simp; omega) ?_; intro v8 w8 o8 g8 at8; obtain ⟨A8, c8, rfl, hc8, _⟩ := own_shape o8; have E8 := E7.grown g8 (fun h => ne7 h.symm); have F8 := F7.grown g8 (fun h => neF h.symm); have o28 := o27.kept g8 neL; have bel8 := bel7.grown g8 (by simp; omega) (fun k hk => by have := own_blk_geQ o7 k hk; omega); have f8 := E8.frozen; have z8 := E8.lt; have q8 : w8.cell? ⟨g, 3, none⟩ = some (.slice A1 n c1) := (qBlk E8).2.2.2.1))
      all_goals
        go_wp2_with fail
        go_meet
        exact ⟨A8, c8, qset3 _ _ _ _ _ _ _ _ ▸ E8.set_ 3 (.slice A8 (n + 1) c8), hc8, F8.far (p := ⟨g, 3, none⟩) nga (.slice A8 (n + 1) c8), by rw [msgCells_snoc]; exact ownsRow_setCell_other (a := ⟨g, 3, none⟩) o8 (own_blk_ne o8 E8 (by decide)) (.slice A8 (n + 1) c8), ownsRow_setCell_other (a := ⟨g, 3, none⟩) o28 (own_blk_ne o28 E8 (by decide)) (.slice A8 (n + 1) c8), bel8.setCell (p := ⟨g, 3, none⟩) (Nat.le_refl _) (.slice A8 (n + 1) c8)⟩
    case rest =>
      obtain ⟨A8, c8, E9, hc8, F9, o9, o29, bel9⟩ := hcut
      clear x0 x1 x2 x3 x4 hgf hgz3 hez3 d3 E7 F7 E3 D3 F3 o27 o13 o23 OD o7 rR bel3 bel7 ne7 neF neL
      have m1 := own_blk_ne o9 E9 (by decide)
      have m2 := own_blk_ne o29 E9 (by decide)
      have m3 := own_blk_ne o9 F9 (by decide)
      have m4 := own_blk_ne o29 F9 (by decide)
      obtain ⟨x0, x1, x2, x3, x4⟩ := qBlk E9
      have hgf := E9.frozen
      have hgz9 := E9.lt
      have f0 := F9.cell 0
      have f1 := F9.cell 1
      have f2 := F9.cell 2
      have f3 := F9.cell 3
      have ff := F9.frozen
      have fz := F9.lt
      have E10 := E9.set_ 1 (.int .i64 (nx + 1))
      rw [qset1] at E10
      have EF := ((((E10.far (p := ⟨ga, 0, none⟩) nga' (.int .i64 0)).far (p := ⟨ga, 1, none⟩) nga' (.int .i64 0)).far (p := ⟨ga, 2, none⟩) nga' (.int .i64 0)).far (p := ⟨ga, 3, none⟩) nga' (.int .i64 0))
      have p1 := (ownsRow_setCell_other (a := ⟨ga, 3, none⟩) (ownsRow_setCell_other (a := ⟨ga, 2, none⟩) (ownsRow_setCell_other (a := ⟨ga, 1, none⟩) (ownsRow_setCell_other (a := ⟨ga, 0, none⟩) (ownsRow_setCell_other (a := ⟨g, 1, none⟩) o9 m1 (.int .i64 (nx + 1))) m3 (.int .i64 0)) m3 (.int .i64 0)) m3 (.int .i64 0)) m3 (.int .i64 0))
      have p2 := (ownsRow_setCell_other (a := ⟨ga, 3, none⟩) (ownsRow_setCell_other (a := ⟨ga, 2, none⟩) (ownsRow_setCell_other (a := ⟨ga, 1, none⟩) (ownsRow_setCell_other (a := ⟨ga, 0, none⟩) (ownsRow_setCell_other (a := ⟨g, 1, none⟩) o29 m2 (.int .i64 (nx + 1))) m4 (.int .i64 0)) m4 (.int .i64 0)) m4 (.int .i64 0)) m4 (.int .i64 0))
      have bF := (((((bel9.setCell (p := ⟨g, 1, none⟩) (Nat.le_refl _) (.int .i64 (nx + 1))).setCell (p := ⟨ga, 0, none⟩) (Nat.le_of_lt hgga) (.int .i64 0)).setCell (p := ⟨ga, 1, none⟩) (Nat.le_of_lt hgga) (.int .i64 0)).setCell (p := ⟨ga, 2, none⟩) (Nat.le_of_lt hgga) (.int .i64 0)).setCell (p := ⟨ga, 3, none⟩) (Nat.le_of_lt hgga) (.int .i64 0))
      have e1 : (rd ++ [(nx, body)]).length = n + 1 := by simp; omega
      have hfin := Lib.hid (HP.out _ ⟨A8, c8, A2, c2, by rw [e1, hm]; exact ⟨EF, hc8, hc2, Reads.of_own p1, Reads.of_own p2, own_fresh p1, own_fresh p2⟩⟩ bF)
      clear E10 EF p1 p2 bF e1 m1 m2 m3 m4 o9 o29 bel9 HP E9 F9
      go_wp2_with fail
      exact bodyPost_ret (v := .tuple #[.agg #[.int .i64 0, .int .i64 0, .int .i64 0, .int .i64 0], .bool true]) (by simp [results, Try.results29, go_sem, *]) rfl hfin.out

end Go.Proofs.Ytjmncbfmjeeneaa

namespace Go.Proofs.Ytjmncbfmjeeneaa
open Go.RowKit

structure QM where
  ep : Int
  nx : Int
  gv : Int
  rd : List (Int × Int)
  ls : List (Int × Int × Int)
  t : Nat → Int
  S : Nat → Int → Bool
structure QA where
  code : Int
  ep : Int
  no : Int
  body : Int
def QM.zero : QM := ⟨0, 0, 0, [], [], fun _ => 0, fun _ _ => false⟩
def QA.val (a : QA) : Value := ansV a.code a.ep a.no a.body
def byNo (x y : Int × Int) : Bool := decide (x.1 ≤ y.1)
def QM.endAll (q : QM) : QM := ⟨q.ep + 1, q.nx, 0, (q.rd ++ q.ls.map Prod.snd).mergeSort byNo, [], q.t, q.S⟩
def QM.pub (q : QM) (p : Nat) (id body : Int) : QM :=
  ⟨q.ep, q.nx + 1, q.gv, q.rd ++ [(q.nx, body)], q.ls, setF q.t p (max (q.t p) (id + 1)), setF q.S p (fun x => q.S p x || x == id)⟩
def QM.recv (q : QM) : QM × QA × Bool :=
  match q.rd with
  | [] => (q, ⟨10, 0, 0, 0⟩, false)
  | m :: rd => (⟨q.ep, q.nx, q.gv + 1, rd, q.ls ++ [(q.gv, m.1, m.2)], q.t, q.S⟩, ⟨0, q.ep, q.gv, m.2⟩, true)
def isNo (no : Int) (l : Int × Int × Int) : Bool := l.1 == no
def QM.ack (q : QM) (no : Int) : QM := ⟨q.ep, q.nx, q.gv, q.rd, q.ls.eraseP (isNo no), q.t, q.S⟩
/-- an event, done -/
def QM.step (q : QM) (e : Ev) : QM × QA × Bool :=
  if e.kind = 1 then
    if e.id < q.t e.prod.toNat - 8 then (q, ⟨9, 0, 0, 0⟩, false)
    else if q.S e.prod.toNat e.id then (q, ⟨0, 0, 0, 0⟩, false)
    else (q.pub e.prod.toNat e.id e.body, ⟨0, 0, 0, 0⟩, true)
  else if e.kind = 2 then q.recv
  else if e.kind = 3 then
    if e.hep = q.ep then
      if q.ls.any (isNo e.hno) then (q.ack e.hno, ⟨0, 0, 0, 0⟩, true) else (q, ⟨7, 0, 0, 0⟩, false)
    else (q, ⟨11, 0, 0, 0⟩, false)
  else (q.endAll, ⟨0, 0, 0, 0⟩, true)

structure QM.Inv (q : QM) : Prop where
  e0 : 0 ≤ q.ep
  n0 : 0 ≤ q.nx
  g0 : 0 ≤ q.gv
  win : ∀ i, i < 4 → WOk (q.t i) (q.S i)
  rd : ∀ m ∈ q.rd, 0 ≤ m.1 ∧ m.1 < q.nx ∧ 0 ≤ m.2 ∧ m.2 ≤ 1000000
  rds : q.rd.Pairwise (fun a b => a.1 < b.1)
  ls : ∀ l ∈ q.ls, 0 ≤ l.1 ∧ l.1 < q.gv ∧ 0 ≤ l.2.1 ∧ l.2.1 < q.nx ∧ 0 ≤ l.2.2 ∧ l.2.2 ≤ 1000000
  lss : q.ls.Pairwise (fun a b => a.1 < b.1)
  apart : (q.rd.map Prod.fst ++ q.ls.map fun l => l.2.1).Nodup
/-- so many events more there is room for -/
def QM.Room (q : QM) (n : Nat) : Prop := q.rd.length + q.ls.length + n ≤ 500 ∧ q.nx + n ≤ 1073741824 ∧ q.gv + n ≤ 1073741824 ∧ q.ep + n ≤ 1048576

theorem wOk_zero : WOk 0 (fun _ => false) := ⟨by omega, by omega, fun x h => by simp at h, fun h => by omega⟩
theorem QM.zero_inv : QM.zero.Inv := ⟨by simp [zero], by simp [zero], by simp [zero], fun _ _ => wOk_zero, by simp [zero], by simp [zero], by simp [zero], by simp [zero], by simp [zero]⟩

theorem prevN_of {α : Type} (no : α → Int) (d : α) (l : List α) (h0 : ∀ m ∈ l, 0 ≤ no m) (hp : l.Pairwise fun a b => no a < no b) (i : Nat) (hi : i < l.length) : prevN no l d i < no (l.getD i d) := by
  unfold prevN
  have e : ∀ j, (hj : j < l.length) → l.getD j d = l[j] := fun j hj => by simp [List.getD, List.getElem?_eq_getElem hj]
  split
  · rw [e i hi]
    have := h0 _ (List.getElem_mem hi)
    omega
  · rw [e i hi, e (i - 1) (by omega)]
    exact List.pairwise_iff_getElem.1 hp (i - 1) i (by omega) hi (by omega)
theorem QM.Inv.ok {q : QM} (h : q.Inv) (r : q.Room 0) : QOk q.ep q.nx q.gv q.rd q.ls q.t q.S := by
  obtain ⟨r1, r2, r3, r4⟩ := r
  refine ⟨h.e0, by simpa using r4, h.n0, by simpa using r2, h.g0, by simpa using r3, by simpa using r1, h.win, fun i hi => ?_, fun i hi => ?_, h.apart⟩
  · have e : q.rd.getD i (0, 0) = q.rd[i] := by simp [List.getD, List.getElem?_eq_getElem hi]
    refine ⟨prevN_of Prod.fst (0, 0) q.rd (fun m hm => (h.rd m hm).1) h.rds i hi, ?_⟩
    rw [e]
    exact h.rd _ (List.getElem_mem hi)
  · have e : q.ls.getD i (0, 0, 0) = q.ls[i] := by simp [List.getD, List.getElem?_eq_getElem hi]
    refine ⟨prevN_of Prod.fst (0, 0, 0) q.ls (fun m hm => (h.ls m hm).1) h.lss i hi, ?_⟩
    rw [e]
    exact (h.ls _ (List.getElem_mem hi)).2
theorem QM.Room.less {q : QM} {n m : Nat} (h : q.Room n) (hm : m ≤ n) : q.Room m := by
  obtain ⟨r1, r2, r3, r4⟩ := h
  exact ⟨by omega, by omega, by omega, by omega⟩

theorem QM.Inv.pub {q : QM} (h : q.Inv) (p : Nat) (id body : Int) (h1 : 0 ≤ id) (h2 : id ≤ 1073741824) (hb0 : 0 ≤ body) (hb1 : body ≤ 1000000) : (q.pub p id body).Inv := by
  have hn0 := h.n0
  refine ⟨h.e0, by simp [QM.pub]; omega, h.g0, fun i hi => ?_, ?_, ?_, ?_, h.lss, ?_⟩
  · simp only [QM.pub, setF]
    split
    · next e => subst e; exact (h.win _ hi).take h1 h2
    · exact h.win _ hi
  · simp only [QM.pub]
    intro m hm
    rcases List.mem_append.1 hm with hm | hm
    · have := h.rd m hm
      refine ⟨this.1, by omega, this.2.2⟩
    · simp at hm
      subst hm
      exact ⟨hn0, by simp; omega, hb0, hb1⟩
  · simp only [QM.pub]
    refine List.pairwise_append.2 ⟨h.rds, by simp, fun a ha b hb => ?_⟩
    simp at hb
    subst hb
    exact (h.rd a ha).2.1
  · simp only [QM.pub]
    intro l hl
    have := h.ls l hl
    exact ⟨this.1, this.2.1, this.2.2.1, by omega, this.2.2.2.2⟩
  · simp only [QM.pub, List.map_append, List.map_cons, List.map_nil]
    rw [List.append_assoc]
    have hp : (q.rd.map Prod.fst ++ ([q.nx] ++ q.ls.map fun l => l.2.1)).Perm ([q.nx] ++ (q.rd.map Prod.fst ++ q.ls.map fun l => l.2.1)) := by
      rw [← List.append_assoc, ← List.append_assoc]
      exact List.Perm.append_right _ List.perm_append_comm
    rw [hp.nodup_iff]
    show (q.nx :: (q.rd.map Prod.fst ++ q.ls.map fun l => l.2.1)).Nodup
    refine List.nodup_cons.2 ⟨fun hm => ?_, h.apart⟩
    rcases List.mem_append.1 hm with hm | hm
    · obtain ⟨m, hm, e⟩ := List.mem_map.1 hm
      have := h.rd m hm
      omega
    · obtain ⟨m, hm, e⟩ := List.mem_map.1 hm
      have := h.ls m hm
      omega
theorem QM.Inv.recv {q : QM} (h : q.Inv) : q.recv.1.Inv := by
  unfold QM.recv
  split
  · exact h
  · next m rd e =>
    have hg := h.g0
    refine ⟨h.e0, h.n0, by simp; omega, h.win, fun x hx => h.rd x (by rw [e]; exact List.mem_cons_of_mem _ hx), ?_, ?_, ?_, ?_⟩
    · have := h.rds
      rw [e] at this
      exact (List.pairwise_cons.1 this).2
    · intro l hl
      rcases List.mem_append.1 hl with hl | hl
      · have := h.ls l hl
        exact ⟨this.1, by simp; omega, this.2.2⟩
      · simp at hl
        subst hl
        have := h.rd m (by rw [e]; simp)
        exact ⟨hg, by simp; omega, this⟩
    · refine List.pairwise_append.2 ⟨h.lss, by simp, fun a ha b hb => ?_⟩
      simp at hb
      subst hb
      exact (h.ls a ha).2.1
    · have := h.apart
      rw [e] at this
      simp only [List.map_append, List.map_cons, List.map_nil, List.cons_append] at this ⊢
      rw [← List.append_assoc]
      have hp : (rd.map Prod.fst ++ (q.ls.map fun l => l.2.1) ++ [m.1]).Perm (m.1 :: (rd.map Prod.fst ++ q.ls.map fun l => l.2.1)) := List.perm_append_comm
      rw [hp.nodup_iff]
      exact this
theorem QM.Inv.ack {q : QM} (h : q.Inv) (no : Int) : (q.ack no).Inv := by
  have hs : (q.ls.eraseP (isNo no)).Sublist q.ls := List.eraseP_sublist
  refine ⟨h.e0, h.n0, h.g0, h.win, h.rd, h.rds, fun l hl => h.ls l (hs.mem hl), h.lss.sublist hs, ?_⟩
  exact h.apart.sublist (List.Sublist.append (List.Sublist.refl _) (hs.map _))
theorem sort_pairwise (l : List (Int × Int)) (h : (l.map Prod.fst).Nodup) : (l.mergeSort byNo).Pairwise (fun a b => a.1 < b.1) := by
  have hs : (l.mergeSort byNo).Pairwise (fun a b => byNo a b = true) := List.pairwise_mergeSort (fun a b c h1 h2 => by simp [byNo] at *; omega) (fun a b => by simp [byNo]; omega) l
  have hn : ((l.mergeSort byNo).map Prod.fst).Nodup := ((List.mergeSort_perm l byNo).map _).nodup_iff.2 h
  have hn2 : (l.mergeSort byNo).Pairwise (fun a b => a.1 ≠ b.1) := List.pairwise_map.1 hn
  refine (hs.and hn2).imp fun {a b} hab => ?_
  have := hab.1
  have := hab.2
  simp [byNo] at *
  omega
theorem QM.Inv.endAll {q : QM} (h : q.Inv) : q.endAll.Inv := by
  have he := h.e0
  have hp := List.mergeSort_perm (q.rd ++ q.ls.map Prod.snd) byNo
  have hm : ((q.rd ++ q.ls.map Prod.snd).map Prod.fst).Nodup := by
    have := h.apart
    simpa [List.map_append, List.map_map, Function.comp_def] using this
  refine ⟨by simp [QM.endAll]; omega, h.n0, by simp [QM.endAll], h.win, fun m hm => ?_, sort_pairwise _ hm, by simp [QM.endAll], by simp [QM.endAll], ?_⟩
  · rcases List.mem_append.1 (hp.mem_iff.1 hm) with hm | hm
    · exact h.rd m hm
    · obtain ⟨l, hl, rfl⟩ := List.mem_map.1 hm
      exact (h.ls l hl).2.2
  · simp only [QM.endAll, List.map_nil, List.append_nil]
    exact (hp.map _).nodup_iff.2 hm
theorem check_kinds {e : Ev} (h : e.check = 0) : e.kind = 1 ∨ e.kind = 2 ∨ e.kind = 3 ∨ e.kind = 4 := by
  by_cases h1 : e.kind = 1
  · exact .inl h1
  · by_cases h3 : e.kind = 3
    · exact .inr (.inr (.inl h3))
    · by_cases h2 : e.kind = 2 ∨ e.kind = 4
      · rcases h2 with h2 | h2 <;> simp [h2]
      · unfold Ev.check at h
        rw [if_neg h1, if_neg h3, if_neg h2] at h
        cases h
theorem check_pub {e : Ev} (h : e.check = 0) (hk : e.kind = 1) : 0 ≤ e.prod ∧ e.prod ≤ 3 ∧ 0 ≤ e.id ∧ e.id ≤ 1073741824 ∧ 0 ≤ e.body ∧ e.body ≤ 1000000 ∧ e.hep = 0 ∧ e.hno = 0 := by
  unfold Ev.check at h
  rw [if_pos hk] at h
  split at h
  · next ho =>
    split at h
    · next hh =>
      simp [Ev.ok1, inB] at ho
      omega
    · cases h
  · cases h
theorem check_ack {e : Ev} (h : e.check = 0) (hk : e.kind = 3) : 0 ≤ e.hep ∧ e.hep ≤ 1048576 ∧ 0 ≤ e.hno ∧ e.hno ≤ 1073741824 ∧ e.prod = 0 ∧ e.id = 0 ∧ e.body = 0 := by
  unfold Ev.check at h
  rw [if_neg (by omega), if_pos hk] at h
  split at h
  · next ho =>
    split at h
    · next hh =>
      simp [Ev.ok3, inB] at ho
      omega
    · cases h
  · cases h
theorem check_rest {e : Ev} (h : e.check = 0) (hk : e.kind = 2 ∨ e.kind = 4) : e.prod = 0 ∧ e.id = 0 ∧ e.body = 0 ∧ e.hep = 0 ∧ e.hno = 0 := by
  unfold Ev.check at h
  rw [if_neg (by omega), if_neg (by omega), if_pos hk] at h
  split at h
  · assumption
  · cases h
theorem QM.Inv.step {q : QM} (h : q.Inv) {e : Ev} (he : e.check = 0) : (q.step e).1.Inv := by
  unfold QM.step
  split
  · next hk =>
    obtain ⟨b1, b2, b3, b4, b5, b6, _⟩ := check_pub he hk
    split
    · exact h
    · split
      · exact h
      · exact h.pub _ _ _ b3 b4 b5 b6
  · split
    · exact h.recv
    · split
      · split
        · split
          · exact h.ack _
          · exact h
        · exact h
      · exact h.endAll
theorem QM.Room.step {q : QM} {n : Nat} (h : q.Room (n + 1)) (e : Ev) : (q.step e).1.Room n := by
  have h0 := h.less (Nat.le_succ n)
  have r4 : 0 ≤ (n : Int) + 1 := by omega
  obtain ⟨r1, r2, r3, r4⟩ := h
  simp only [Int.natCast_add, Int.natCast_one] at r2 r3 r4
  unfold QM.step
  split
  · split
    · exact h0
    · split
      · exact h0
      · refine ⟨by simp [QM.pub]; omega, by simp only [QM.pub]; omega, by simp only [QM.pub]; omega, by simp only [QM.pub]; omega⟩
  · split
    · unfold QM.recv
      split
      · exact h0
      · next m rd e =>
        rw [e] at r1
        simp only [List.length_cons] at r1
        exact ⟨by simp; omega, by simp only; omega, by simp only; omega, by simp only; omega⟩
    · split
      · split
        · split
          · have hs : (q.ls.eraseP (isNo (Ev.hno ‹Ev›))).length ≤ q.ls.length := List.eraseP_sublist.length_le
            exact ⟨by simp only [QM.ack]; omega, by simp only [QM.ack]; omega, by simp only [QM.ack]; omega, by simp only [QM.ack]; omega⟩
          · exact h0
        · exact h0
      · have hl : ((q.rd ++ q.ls.map Prod.snd).mergeSort byNo).length = q.rd.length + q.ls.length := by simp
        exact ⟨by simp only [QM.endAll, hl, List.length_nil]; omega, by simp only [QM.endAll]; omega, by simp only [QM.endAll]; omega, by simp only [QM.endAll]; omega⟩

end Go.Proofs.Ytjmncbfmjeeneaa
