/- What is known of memory, as one fact: blocks, rows that are the call's own, slices that are only read. The laws of allocs, loads, stores, appends over it. No program in sight. -/
import Derived.Test.YtjakmpkfniangaaDoorRow
import Derived.Deep.QuietTactic
import Derived.BigQuiet
namespace Go.Proofs.YtjakmpkfniangaaDoor
open Go.RowKit

inductive It where
  | bl (g : Nat) (t : TypeId) (cs : Array Value)
  | ow (e : TypeId) (size : Nat) (v : Value) (n : Nat) (xs : List Value)
  | rd (size : Nat) (A : Option Addr) (n : Nat) (xs : List Value)
  | raw (g : Nat) (o : Obj)
def It.area : It → Option Nat
  | .bl g _ _ => some g
  | .ow _ _ v _ _ => v.ownBlock
  | .rd _ A n _ => if n = 0 then none else A.map (·.block)
  | .raw g _ => some g
def It.wr : It → Bool
  | .rd .. => false
  | _ => true
def It.holds (b0 : Nat) (w : World) : It → Prop
  | .bl g t cs => b0 ≤ g ∧ Blk w g t cs
  | .ow e s v n xs => w.ownsRow b0 e s v n xs
  | .rd s A n xs => Reads w w.heap.size s A n xs
  | .raw g o => b0 ≤ g ∧ w.heap[g]? = some o
def It.off (a b : It) : Prop := (a.wr = true ∨ b.wr = true) → ∀ g, a.area = some g → b.area ≠ some g
structure St (w0 w : World) (I : List It) : Prop where
  bel : Below w0.heap.size w0 w
  all : ∀ x ∈ I, x.holds w0.heap.size w
  apart : I.Pairwise It.off

theorem It.lt {b0 g : Nat} {w : World} {x : It} (h : x.holds b0 w) (ha : x.area = some g) : g < w.heap.size := by
  cases x with
  | bl g' t cs => cases ha; exact h.2.lt
  | ow e s v n xs => exact (World.ownsRow.lt h _ ha).2
  | rd s A n xs =>
    simp only [It.area] at ha
    split at ha
    · cases ha
    · next hn =>
      obtain ⟨ad, rfl, hb, _⟩ := h.2 (by omega)
      cases ha
      exact hb
  | raw g' o =>
    cases ha
    rcases Nat.lt_or_ge g w.heap.size with h' | h'
    · exact h'
    · have h2 := h.2
      rw [Array.getElem?_eq_none h'] at h2
      cases h2
theorem It.ge {b0 g : Nat} {w : World} {x : It} (h : x.holds b0 w) (hw : x.wr = true) (ha : x.area = some g) : b0 ≤ g := by
  cases x with
  | bl g' t cs => cases ha; exact h.1
  | ow e s v n xs => exact (World.ownsRow.lt h _ ha).1
  | rd s A n xs => cases hw
  | raw g' o => cases ha; exact h.1
theorem own_grownS {w w' : World} {base size n : Nat} {e : TypeId} {v : Value} {xs : List Value} {row : Option Nat} (h : w.ownsRow base e size v n xs) (hg : w.grownBy w' row) (hne : ∀ g, v.ownBlock = some g → row ≠ some g) : w'.ownsRow base e size v n xs := by
  refine ⟨h.1, ?_⟩
  rcases h.2 with hn | ⟨g, cap, cur, rfl, hb, hh, r⟩
  · exact .inl hn
  · have hlt : g < w.heap.size := by
      rcases Nat.lt_or_ge g w.heap.size with h' | h'
      · exact h'
      · rw [Array.getElem?_eq_none h'] at hh; cases hh
    exact .inr ⟨g, cap, cur, rfl, hb, by rw [hg.block g hlt (fun h => hne g rfl h.symm)]; exact hh, r⟩
theorem It.grown {b0 : Nat} {w w' : World} {x : It} {row : Option Nat} (h : x.holds b0 w) (hg : w.grownBy w' row) (hne : ∀ g, x.area = some g → row ≠ some g) : x.holds b0 w' := by
  cases x with
  | bl g' t cs => exact ⟨h.1, h.2.grown hg (fun e => hne _ rfl e.symm)⟩
  | ow e s v n xs => exact own_grownS h hg hne
  | rd s A n xs =>
    refine ⟨h.1, fun hn => ?_⟩
    obtain ⟨ad, rfl, hb, hc⟩ := h.2 hn
    refine ⟨ad, rfl, Nat.lt_of_lt_of_le hb hg.size, fun j u hu => ?_⟩
    rw [← hc j u hu]
    have h1 : row ≠ some ad.block := hne _ (by simp only [It.area]; rw [if_neg (by omega)]; rfl)
    exact World.cell?_of_block (hg.block _ (by rw [block_of_add]; exact hb) (by rw [block_of_add]; exact fun e => h1 e.symm))
  | raw g o =>
    refine ⟨h.1, ?_⟩
    rw [hg.block g (It.lt (x := .raw g o) h rfl) (fun e => hne g rfl e.symm)]
    exact h.2
theorem grown_of_below {w w' : World} (h : Below w.heap.size w w') : w.grownBy w' none := ⟨h.os, h.tape, h.output, h.size, fun k hk _ => h.block k hk⟩

section
variable {w0 w w' : World} {I J : List It} {x y : It}
theorem St.start (w : World) : St w w [] := ⟨Below.refl _ _, fun _ h => (by cases h), List.Pairwise.nil⟩
theorem St.grown (H : St w0 w I) (hg : w.grownBy w' none) : St w0 w' I :=
  ⟨H.bel.grown hg H.bel.size (fun _ h => by cases h), fun x hx => It.grown (H.all x hx) hg (fun _ _ h => by cases h), H.apart⟩
theorem St.below (H : St w0 w I) (hb : Below w.heap.size w w') : St w0 w' I := H.grown (grown_of_below hb)
theorem St.drew (H : St w0 w I) : St w0 w.drew I := H.below (Below.refl _ _).drew
theorem St.drewN (H : St w0 w I) (n : Nat) : St w0 (w.drewN n) I := ⟨below_drewN0 H.bel n, fun x hx => It.grown (H.all x hx) ⟨rfl, rfl, rfl, Nat.le_refl _, fun _ _ _ => rfl⟩ (row := none) (fun _ _ h => by cases h), H.apart⟩
where below_drewN0 {B : Nat} {a w : World} (h : Below B a w) (n : Nat) : Below B a (w.drewN n) := ⟨h.os, h.tape, h.output, h.size, h.block⟩
theorem St.tail (H : St w0 w (x :: I)) : St w0 w I := ⟨H.bel, fun y hy => H.all y (List.mem_cons_of_mem _ hy), (List.pairwise_cons.1 H.apart).2⟩
/-- something new -/
theorem St.push (H : St w0 w I) (hg : w.grownBy w' none) (hh : y.holds w0.heap.size w') (ha : ∀ g, y.area = some g → w.heap.size ≤ g) : St w0 w' (y :: I) := by
  have H' := H.grown hg
  refine ⟨H'.bel, fun x hx => ?_, List.pairwise_cons.2 ⟨fun z hz _ g h1 h2 => ?_, H.apart⟩⟩
  · rcases List.mem_cons.1 hx with rfl | hx
    · exact hh
    · exact H'.all x hx
  · have := ha g h1
    have := It.lt (H.all z hz) h2
    omega
/-- several new things -/
theorem St.pushes (H : St w0 w I) (hg : Below w.heap.size w w') (Y : List It) (hh : ∀ y ∈ Y, y.holds w0.heap.size w' ∧ ∀ g, y.area = some g → w.heap.size ≤ g) (hp : Y.Pairwise It.off) : St w0 w' (Y ++ I) := by
  have H' := H.below hg
  refine ⟨H'.bel, fun x hx => ?_, List.pairwise_append.2 ⟨hp, H.apart, fun y hy z hz _ g h1 h2 => ?_⟩⟩
  · rcases List.mem_append.1 hx with hx | hx
    · exact (hh x hx).1
    · exact H'.all x hx
  · have := (hh y hy).2 g h1
    have := It.lt (H.all z hz) h2
    omega
theorem off_rd {s s' : Nat} {A A' : Option Addr} {n n' : Nat} {xs xs' : List Value} : (It.rd s A n xs).off (.rd s' A' n' xs') := fun h => by rcases h with h | h <;> cases h
theorem rd_pair {s s' : Nat} {A A' : Option Addr} {n n' : Nat} {xs xs' : List Value} : [It.rd s A n xs, It.rd s' A' n' xs'].Pairwise It.off := List.pairwise_cons.2 ⟨fun _ h => by rw [List.mem_singleton.1 h]; exact off_rd, List.pairwise_singleton _ _⟩
/-- a slice that was there at the beginning -/
theorem St.old {s n : Nat} {A : Option Addr} {xs : List Value} (H : St w0 w I) (hr : Reads w0 w0.heap.size s A n xs) : St w0 w (.rd s A n xs :: I) := by
  have hlt : ∀ g, (It.rd s A n xs).area = some g → g < w0.heap.size := fun g h => It.lt (b0 := 0) (w := w0) (x := .rd s A n xs) hr h
  refine ⟨H.bel, fun x hx => ?_, List.pairwise_cons.2 ⟨fun z hz hw g h1 h2 => ?_, H.apart⟩⟩
  · rcases List.mem_cons.1 hx with rfl | hx
    · exact (hr.below H.bel).more H.bel.size
    · exact H.all x hx
  · have := hlt g h1
    rcases hw with hw | hw
    · cases hw
    · have := It.ge (H.all z hz) hw h2
      omega
/-- one thing becomes another one -/
class Upd (I : List It) (x y : It) (J : outParam (List It)) : Prop where
  out : ∃ P R, I = P ++ x :: R ∧ J = P ++ y :: R
instance (priority := high) Upd.here : Upd (x :: I) x y (y :: I) := ⟨[], I, rfl, rfl⟩
instance (priority := low) Upd.there {u : It} [h : Upd I x y J] : Upd (u :: I) x y (u :: J) := by
  obtain ⟨P, R, rfl, rfl⟩ := h.out
  exact ⟨u :: P, R, rfl, rfl⟩
theorem It.off.symm {a b : It} (h : a.off b) : b.off a := fun hw g h1 h2 => h hw.symm g h2 h1
theorem St.upd (H : St w0 w I) [U : Upd I x y J] (hx : x.wr = true) (hg : w.grownBy w' x.area) (hh : y.holds w0.heap.size w') (ha : ∀ g, y.area = some g → x.area = some g ∨ w.heap.size ≤ g) : St w0 w' J := by
  obtain ⟨P, R, rfl, rfl⟩ := U.out
  obtain ⟨p1, p2, p3⟩ := List.pairwise_append.1 H.apart
  obtain ⟨q1, q2⟩ := List.pairwise_cons.1 p2
  have hP : ∀ z ∈ P, z.off x := fun z hz => p3 z hz x (List.mem_cons_self ..)
  have hxh := H.all x (by simp)
  have hkeep : ∀ z, z ∈ P ∨ z ∈ R → z.holds w0.heap.size w' := fun z hz => by
    have hz1 : z.holds w0.heap.size w := H.all z (by rcases hz with h | h <;> simp [h])
    have hz2 : z.off x := by
      rcases hz with h | h
      · exact hP z h
      · exact (q1 z h).symm
    exact It.grown hz1 hg (fun g h1 h2 => hz2 (.inr hx) g h1 h2)
  have hy : ∀ z, z ∈ P ∨ z ∈ R → y.off z := fun z hz _ g h1 h2 => by
    have hz1 : z.holds w0.heap.size w := H.all z (by rcases hz with h | h <;> simp [h])
    have hz2 : z.off x := by
      rcases hz with h | h
      · exact hP z h
      · exact (q1 z h).symm
    rcases ha g h1 with h | h
    · exact hz2 (.inr hx) g h2 h
    · have := It.lt hz1 h2
      omega
  refine ⟨H.bel.grown hg H.bel.size (fun g h => It.ge hxh hx h), fun z hz => ?_, ?_⟩
  · rcases List.mem_append.1 hz with h | h
    · exact hkeep z (.inl h)
    · rcases List.mem_cons.1 h with rfl | h
      · exact hh
      · exact hkeep z (.inr h)
  · refine List.pairwise_append.2 ⟨p1, List.pairwise_cons.2 ⟨fun z hz => hy z (.inr hz), q2⟩, fun a haP b hb => ?_⟩
    rcases List.mem_cons.1 hb with rfl | hb
    · exact (hy a (.inl haP)).symm
    · exact p3 a haP b (List.mem_cons_of_mem _ hb)
/-- something is known -/
class Has (I : List It) (x : It) : Prop where
  mem : x ∈ I
class HasB (I : List It) (g : Nat) (t : outParam TypeId) (cs : outParam (Array Value)) : Prop where
  mem : It.bl g t cs ∈ I
instance (priority := high) HasB.here {g : Nat} {t : TypeId} {cs : Array Value} : HasB (.bl g t cs :: I) g t cs := ⟨List.mem_cons_self ..⟩
instance (priority := low) HasB.there {g : Nat} {t : TypeId} {cs : Array Value} [h : HasB I g t cs] : HasB (x :: I) g t cs := ⟨List.mem_cons_of_mem _ h.mem⟩
instance (priority := high) Has.here : Has (x :: I) x := ⟨List.mem_cons_self ..⟩
instance (priority := low) Has.there [h : Has I x] : Has (y :: I) x := ⟨List.mem_cons_of_mem _ h.mem⟩
/-- a block turns -/
class UpdB (I : List It) (g : Nat) (t : outParam TypeId) (cs : outParam (Array Value)) (ds : Array Value) (J : outParam (List It)) : Prop where
  out : Upd I (.bl g t cs) (.bl g t ds) J
instance (priority := high) UpdB.here {g : Nat} {t : TypeId} {cs ds : Array Value} : UpdB (.bl g t cs :: I) g t cs ds (.bl g t ds :: I) := ⟨Upd.here⟩
instance (priority := low) UpdB.there {g : Nat} {t : TypeId} {cs ds : Array Value} [h : UpdB I g t cs ds J] : UpdB (x :: I) g t cs ds (x :: J) := ⟨@Upd.there _ _ _ _ _ h.out⟩
/-- less is known -/
class Sub (J I : List It) : Prop where
  out : J.Sublist I
instance (priority := high) Sub.self : Sub I I := ⟨List.Sublist.refl _⟩
instance (priority := low) Sub.cut [h : Sub J I] : Sub J (x :: I) := ⟨h.out.cons _⟩
instance Sub.both [h : Sub J I] : Sub (x :: J) (x :: I) := ⟨h.out.cons_cons _⟩
theorem St.sub (H : St w0 w I) [h : Sub J I] : St w0 w J := ⟨H.bel, fun x hx => H.all x (h.out.mem hx), H.apart.sublist h.out⟩
theorem St.get (H : St w0 w I) (x : It) [h : Has I x] : x.holds w0.heap.size w := H.all x h.mem
theorem St.blk (H : St w0 w I) (g : Nat) {t : TypeId} {cs : Array Value} [h : HasB I g t cs] : Blk w g t cs := (H.all _ h.mem).2
theorem St.blk_ge (H : St w0 w I) (g : Nat) {t : TypeId} {cs : Array Value} [h : HasB I g t cs] : w0.heap.size ≤ g := (H.all _ h.mem).1
theorem St.updB {g : Nat} {t : TypeId} {cs ds : Array Value} (H : St w0 w I) [U : UpdB I g t cs ds J] (hg : w.grownBy w' (some g)) (hh : Blk w' g t ds) : St w0 w' J := by
  have hU := U.out
  have hin : It.bl g t cs ∈ I := by
    obtain ⟨P, R, rfl, _⟩ := hU.out
    simp
  exact St.upd (U := hU) H rfl hg ⟨(H.all _ hin).1, hh⟩ (fun _ h => .inl h)
theorem St.allocd {g : Nat} {t : TypeId} {cs : Array Value} (H : St w0 w I) (E : Blk w' w.heap.size t cs) (hg : w.grownBy w' none) (hgg : w.heap.size = g) : St w0 w' (.bl g t cs :: I) := by
  subst hgg
  exact H.push hg ⟨H.bel.size, E⟩ (fun _ h => by cases h; exact Nat.le_refl _)
/-- a block that the walk has spelled -/
theorem St.box (H : St w0 w I) (t : TypeId) (cs : Array Value) : St w0 (w.alloc (.cells cs t)) (.bl w.heap.size t cs :: I) :=
  H.allocd (Blk.new w t cs) ⟨rfl, rfl, rfl, by simp, fun k hk _ => Below.heap_alloc w _ k hk⟩ rfl
end

/-! ### Operations -/
/-- the goal is a list of operations, and the first of them is .. -/
theorem here_load {P : Program} {ops : Array Oper} {rest : List Oper} {d : Option Tmp} {ty : TypeId} {x : Operand} {t : TypeId} {p : String} {af : Array Edge} {gd : Option (Nat × Bool)} {a : Act} {w : World} {Q : Exit → Act → World → Prop} (h : wpList P ops Q (⟨d, .load ty x, t, p, af, gd⟩ :: rest) a w) : wpList P ops Q (⟨d, .load ty x, t, p, af, gd⟩ :: rest) a w := h
theorem here_store {P : Program} {ops : Array Oper} {rest : List Oper} {d : Option Tmp} {ty : TypeId} {x y : Operand} {t : TypeId} {p : String} {af : Array Edge} {gd : Option (Nat × Bool)} {a : Act} {w : World} {Q : Exit → Act → World → Prop} (h : wpList P ops Q (⟨d, .store ty x y, t, p, af, gd⟩ :: rest) a w) : wpList P ops Q (⟨d, .store ty x y, t, p, af, gd⟩ :: rest) a w := h
theorem here_alloc {P : Program} {ops : Array Oper} {rest : List Oper} {d : Option Tmp} {ty : TypeId} {t : TypeId} {p : String} {af : Array Edge} {gd : Option (Nat × Bool)} {a : Act} {w : World} {Q : Exit → Act → World → Prop} (h : wpList P ops Q (⟨d, .alloc ty, t, p, af, gd⟩ :: rest) a w) : wpList P ops Q (⟨d, .alloc ty, t, p, af, gd⟩ :: rest) a w := h
theorem here_box {P : Program} {ops : Array Oper} {rest : List Oper} {d : Option Tmp} {ty : TypeId} {x : Operand} {t : TypeId} {p : String} {af : Array Edge} {gd : Option (Nat × Bool)} {a : Act} {w : World} {Q : Exit → Act → World → Prop} (h : wpList P ops Q (⟨d, .box ty x, t, p, af, gd⟩ :: rest) a w) : wpList P ops Q (⟨d, .box ty x, t, p, af, gd⟩ :: rest) a w := h
theorem here_buildSlice {P : Program} {ops : Array Oper} {rest : List Oper} {d : Option Tmp} {ty : TypeId} {n : Nat} {ps : Array (Nat × Operand)} {t : TypeId} {p : String} {af : Array Edge} {gd : Option (Nat × Bool)} {a : Act} {w : World} {Q : Exit → Act → World → Prop} (h : wpList P ops Q (⟨d, .buildSlice ty n ps, t, p, af, gd⟩ :: rest) a w) : wpList P ops Q (⟨d, .buildSlice ty n ps, t, p, af, gd⟩ :: rest) a w := h
theorem here_call {P : Program} {ops : Array Oper} {rest : List Oper} {d : Option Tmp} {c : Call} {t : TypeId} {p : String} {af : Array Edge} {gd : Option (Nat × Bool)} {a : Act} {w : World} {Q : Exit → Act → World → Prop} (h : wpList P ops Q (⟨d, .call c, t, p, af, gd⟩ :: rest) a w) : wpList P ops Q (⟨d, .call c, t, p, af, gd⟩ :: rest) a w := h
/-- a part of a row is read as a whole -/
theorem wp_load_partS {P : Program} {o : Oper} {a : Act} {w : World} {K : Act → World → Prop} {Q : Exit → Act → World → Prop} (ty : TypeId) (x : Operand) (ho : o.op = .load ty x)
    (g p m : Nat) (hx : a.eval x = .pointer (some ⟨g, p, none⟩)) (t : TypeId) (cs : Array Value) (d : TypeDesc) (hg : Blk w g t cs)
    (hu : P.underlying ty = some d) (hd : (match d with | .struct _ | .array _ _ => true | _ => false) = true) (hi : (P.info? ty).map (·.size) = some m) (hm : p + m ≤ cs.size)
    (h : K (a.put o.dst (.agg (cs.extract p (p + m)))) w) : o.wp P a w K Q := by
  have hl : (loadCells ⟨g, p, none⟩ (cs.extract p (p + m)).toList.length).run P w = .ok (cs.extract p (p + m)).toList.toArray w :=
    run_loadCells_list (P := P) w ⟨g, p, none⟩ (cs.extract p (p + m)).toList (fun j v hv => by
      have hadd : (⟨g, p, none⟩ : Addr).add j = ⟨g, p + j, none⟩ := by unfold Addr.add; split <;> simp_all
      rw [hadd, hg.cell]
      have hv2 : (cs.extract p (p + m))[j]? = some v := by rw [← Array.getElem?_toList]; exact hv
      rw [Array.getElem?_extract] at hv2
      split at hv2
      · exact hv2
      · cases hv2)
  have hz : (cs.extract p (p + m)).toList.length = m := by simp; omega
  rw [hz] at hl
  cases hq : P.info? ty with
  | none => simp [hq] at hi
  | some i =>
    have hs : i.size = m := by simpa [hq] using hi
    have hagg : (isAgg ty).run P w = .ok true w := by
      unfold isAgg
      rw [Sem.run_bind, run_underlying hu w]
      cases d <;> simp_all
    have hrun : (loadVar ty ⟨g, p, none⟩).run P w = .ok (.agg (cs.extract p (p + m))) w := by
      simp only [Array.toArray_toList] at hl
      simp [loadVar, Sem.run_bind, hagg, sizeOf, typeInfo, hq, hs, hl]
    unfold Oper.wp execOp
    simp only [ho, hx, Instr.loadAt, Instr.sureAddr, Sem.run_bind, Sem.run_pure, Result.andThen_ok, hrun]
    exact h
theorem wpList_load_partS {P : Program} {ops : Array Oper} {rest : List Oper} {o : Oper} {a : Act} {w : World} {Q : Exit → Act → World → Prop} (hgd : o.guard = none) (ty : TypeId) (x : Operand) (ho : o.op = .load ty x)
    (g p m : Nat) (hx : a.eval x = .pointer (some ⟨g, p, none⟩)) (t : TypeId) (cs : Array Value) (d : TypeDesc) (hg : Blk w g t cs)
    (hu : P.underlying ty = some d) (hd : (match d with | .struct _ | .array _ _ => true | _ => false) = true) (hi : (P.info? ty).map (·.size) = some m) (hm : p + m ≤ cs.size)
    (h : wpList P ops Q rest (a.put o.dst (.agg (cs.extract p (p + m)))) w) : wpList P ops Q (o :: rest) a w :=
  wpList_plain hgd fun _ hK => wp_load_partS ty x ho g p m hx t cs d hg hu hd hi hm (hK _ _ h)

section
variable {P : Program} {ops : Array Oper} {rest : List Oper} {o : Oper} {a : Act} {w0 w : World} {I J : List It} {Q : Exit → Act → World → Prop}
theorem wpList_alloc_st (H : St w0 w I) (hgd : o.guard = none) (ty : TypeId) (ho : o.op = .alloc ty) (zs : Array Value) (hz : (P.info? ty).bind (·.zero) = some (.agg zs))
    (h : ∀ g w', St w0 w' (.bl g ty zs :: I) → wpList P ops Q rest (a.put o.dst (.pointer (some ⟨g, 0, none⟩))) w') : wpList P ops Q (o :: rest) a w :=
  wpList_alloc_row hgd ty ho zs hz fun w' E hg _ => h _ w' (H.allocd E hg rfl)
theorem run_alloc_one (ty : TypeId) (z : Value) (w : World) (hz : (P.info? ty).bind (·.zero) = some z) (h1 : z.cells = #[z]) :
    (Instr.alloc ty true (.tuple #[])).run P w = .ok (.pointer (some ⟨w.heap.size, 0, none⟩)) (w.alloc (.cells #[z] ty)) := by
  cases hq : P.info? ty with
  | none => simp [hq] at hz
  | some i =>
    have hz' : i.zero = some z := by simpa [hq] using hz
    have hv : (Go.zeroValue ty).run P w = .ok z w := by simp [Go.zeroValue, Sem.run_bind, typeInfo, hq, hz']
    unfold Instr.alloc
    simp [Sem.run_bind, hv, newVar, newRow, go_sem]
    exact congrArg (fun c => w.alloc (.cells c ty)) h1
theorem wpList_alloc1_st (H : St w0 w I) (hgd : o.guard = none) (ty : TypeId) (ho : o.op = .alloc ty) (z : Value) (hz : (P.info? ty).bind (·.zero) = some z) (h1 : z.cells = #[z])
    (h : ∀ g w', St w0 w' (.bl g ty #[z] :: I) → wpList P ops Q rest (a.put o.dst (.pointer (some ⟨g, 0, none⟩))) w') : wpList P ops Q (o :: rest) a w :=
  wpList_plain hgd fun _ hK => by
    unfold Oper.wp execOp
    simp only [ho, Sem.run_bind, run_alloc_one ty z w hz h1, Result.andThen_ok, Sem.run_pure]
    exact hK _ _ (h _ _ (H.box ty #[z]))
theorem wpList_box_st (H : St w0 w I) (hgd : o.guard = none) (ty : TypeId) (x : Operand) (ho : o.op = .box ty x) (cs : Array Value) (hx : a.eval x = .agg cs)
    (h : ∀ g w', St w0 w' (.bl g ty cs :: I) → wpList P ops Q rest (a.put o.dst (.pointer (some ⟨g, 0, none⟩))) w') : wpList P ops Q (o :: rest) a w :=
  wpList_plain hgd fun _ hK => by
    have hrun : (Instr.box ty (.agg cs)).run P w = .ok (.pointer (some ⟨w.heap.size, 0, none⟩)) (w.alloc (.cells cs ty)) := by
      unfold Instr.box
      simp [newVar, newRow, Value.cells, go_sem]
    unfold Oper.wp execOp
    simp only [ho, hx, Sem.run_bind, hrun, Result.andThen_ok, Sem.run_pure]
    exact hK _ _ (h _ _ (H.box ty cs))
theorem wpList_box1_st (H : St w0 w I) (hgd : o.guard = none) (ty : TypeId) (x : Operand) (ho : o.op = .box ty x) (v : Value) (hx : a.eval x = v) (hv : v.cells = #[v])
    (h : ∀ g w', St w0 w' (.bl g ty #[v] :: I) → wpList P ops Q rest (a.put o.dst (.pointer (some ⟨g, 0, none⟩))) w') : wpList P ops Q (o :: rest) a w :=
  wpList_plain hgd fun _ hK => by
    have hrun : (Instr.box ty v).run P w = .ok (.pointer (some ⟨w.heap.size, 0, none⟩)) (w.alloc (.cells #[v] ty)) := by
      have hn : newVar ty v = newRow ty #[v] := by unfold newVar; rw [hv]
      unfold Instr.box
      rw [hn]
      simp [newRow, go_sem]
    unfold Oper.wp execOp
    simp only [ho, hx, Sem.run_bind, hrun, Result.andThen_ok, Sem.run_pure]
    exact hK _ _ (h _ _ (H.box ty #[v]))
theorem wpList_store_st {g : Nat} {t : TypeId} {old cells : Array Value} (H : St w0 w I) (hgd : o.guard = none) (ty : TypeId) (x y : Operand) (ho : o.op = .store ty x y)
    (hx : a.eval x = .pointer (some ⟨g, 0, none⟩)) (hy : a.eval y = .agg cells) [U : UpdB I g t old cells J] (hi : (P.info? ty).map (·.size) = some cells.size)
    (hold : old.size = cells.size) (h1 : cells.all (·.oneCell') = true)
    (h : ∀ w', St w0 w' J → wpList P ops Q rest (a.put o.dst undef) w') : wpList P ops Q (o :: rest) a w := by
  have hin : It.bl g t old ∈ I := by
    obtain ⟨P, R, rfl, _⟩ := U.out.out
    simp
  exact wpList_store_rowQ hgd ty x y ho g cells hx hy t old (H.all _ hin).2 hi hold h1 fun w' E hg _ => h w' (H.updB hg E)
theorem wpList_load_st {g : Nat} {t : TypeId} {cs : Array Value} (H : St w0 w I) (hgd : o.guard = none) (ty : TypeId) (x : Operand) (ho : o.op = .load ty x)
    (hx : a.eval x = .pointer (some ⟨g, 0, none⟩)) [hm : HasB I g t cs] (hu : (match P.underlying ty with | some (.struct _) | some (.array _ _) => true | _ => false) = true) (hi : (P.info? ty).map (·.size) = some cs.size)
    (h : wpList P ops Q rest (a.put o.dst (.agg cs)) w) : wpList P ops Q (o :: rest) a w := by
  cases hd : P.underlying ty with
  | none => simp [hd] at hu
  | some d =>
    rw [hd] at hu
    exact wpList_load_row hgd ty x ho g hx t cs (0, 0) d (H.blk g) hd (by cases d <;> simp_all) hi h
/-! a part of a block -/
/-- cells put into an array, one behind the other -/
def spl (cur : Array Value) : Nat → List Value → Array Value
  | _, [] => cur
  | p, v :: vs => spl (cur.setIfInBounds p v) (p + 1) vs
theorem spl_size : ∀ (vs : List Value) (cur : Array Value) (p : Nat), (spl cur p vs).size = cur.size
  | [], _, _ => rfl
  | v :: vs, cur, p => by rw [spl, spl_size vs]; simp
theorem spl_list : ∀ (vs : List Value) (cur : Array Value) (p : Nat), p + vs.length ≤ cur.size → (spl cur p vs).toList = cur.toList.take p ++ vs ++ cur.toList.drop (p + vs.length)
  | [], cur, p, _ => by simp [spl]
  | v :: vs, cur, p, h => by
    simp only [List.length_cons] at h
    rw [spl, spl_list vs _ _ (by simp; omega)]
    apply List.ext_getElem?
    intro k
    simp only [Array.toList_setIfInBounds, List.getElem?_append, List.length_append, List.length_take, List.length_set, Array.length_toList, List.length_cons, List.getElem?_take, List.getElem?_drop, List.getElem?_set, List.getElem?_cons]
    have e1 : min (p + 1) cur.size = p + 1 := by omega
    have e2 : min p cur.size = p := by omega
    rw [e1, e2]
    by_cases h1 : k < p
    · simp [h1, show k < p + 1 by omega, show k < p + 1 + vs.length by omega, show k < p + (vs.length + 1) by omega, show p ≠ k by omega]
    · by_cases h2 : k = p
      · subst h2
        simp [show k < k + 1 + vs.length by omega, show k < cur.size by omega]
      · by_cases h3 : k < p + 1 + vs.length
        · simp [h1, h3, show ¬ k < p + 1 by omega, show k < p + (vs.length + 1) by omega, show k - p ≠ 0 by omega, show k - p - 1 = k - (p + 1) by omega]
        · simp [h3, show ¬ k < p + (vs.length + 1) by omega, show p + 1 + vs.length + (k - (p + 1 + vs.length)) = p + (vs.length + 1) + (k - (p + (vs.length + 1))) by omega, show p ≠ p + (vs.length + 1) + (k - (p + (vs.length + 1))) by omega]
/-- the first part of a block -/
theorem spl_front (A B T : Array Value) (h : A.size = B.size) : spl (A ++ T) 0 B.toList = B ++ T := by
  apply Array.toList_inj.1
  rw [spl_list _ _ _ (by simp; omega)]
  have hl : B.toList.length = A.toList.length := by simp [h]
  rw [Nat.zero_add, hl]
  simp
theorem run_storeCells_spl (g p : Nat) (t : TypeId) : ∀ (vs : List Value) (i : Nat) (cur : Array Value) (w : World), w.heap[g]? = some (.cells cur t (0, 0)) → p + i + vs.length ≤ cur.size → (∀ v ∈ vs, v.oneCell' = true) →
    (storeCells ⟨g, p, none⟩ vs i).run P w = .ok () (w.setRow g (spl cur (p + i) vs))
  | [], i, cur, w, hg, _, _ => by
    have h := run_storeCells_from (P := P) g t [] cur.size cur w hg (by simp) (by simp)
    rw [show cur.toList.take cur.size = cur.toList from List.take_of_length_le (by simp)] at h
    simpa [spl, storeCells] using h
  | v :: rest, i, cur, w, hg, hl, h1 => by
    simp only [List.length_cons] at hl
    have hi : p + i < cur.size := by omega
    have hadd : (⟨g, p, none⟩ : Addr).add i = ⟨g, p + i, none⟩ := by unfold Addr.add; split <;> simp_all
    have hcell : w.cell? ⟨g, p + i, none⟩ = some cur[p + i] := by simp [World.cell?, hg, hi]
    have hfro : w.frozen? ⟨g, p + i, none⟩ = false := by simp [World.frozen?, hg]
    have hst : (store ((⟨g, p, none⟩ : Addr).add i) v).run P w = .ok () (w.setRow g (cur.setIfInBounds (p + i) v)) := by
      rw [hadd, run_store P w _ v _ (h1 v (by simp)), hcell]
      simp [hfro, setCell_eq_setRow w g (p + i) cur t (0, 0) v hg]
    have ih := run_storeCells_spl g p t rest (i + 1) (cur.setIfInBounds (p + i) v) (w.setRow g (cur.setIfInBounds (p + i) v)) (setRow_heap w g cur _ t _ hg) (by simp; omega) (fun x hx => h1 x (by simp [hx]))
    simp only [storeCells, Sem.run_bind, hst, Result.andThen_ok, ih, setRow_setRow, spl]
    rfl
/-- a struct, an array into a part of a block -/
theorem wpList_storePart_st {g p : Nat} {t : TypeId} {old cells : Array Value} (H : St w0 w I) (hgd : o.guard = none) (ty : TypeId) (x y : Operand) (ho : o.op = .store ty x y)
    (hx : a.eval x = .pointer (some ⟨g, p, none⟩)) (hy : a.eval y = .agg cells) [U : UpdB I g t old (spl old p cells.toList) J] (hi : (P.info? ty).map (·.size) = some cells.size)
    (hold : Nat.ble (p + cells.size) old.size = true) (h1 : cells.all (·.oneCell') = true)
    (h : ∀ w', St w0 w' J → wpList P ops Q rest (a.put o.dst undef) w') : wpList P ops Q (o :: rest) a w := by
  have hin : It.bl g t old ∈ I := by
    obtain ⟨P, R, rfl, _⟩ := U.out.out
    simp
  have hb := (H.all _ hin).2
  replace hold := Nat.le_of_ble_eq_true hold
  refine wpList_plain hgd fun _ hK => ?_
  have hrun : (storeVar ty ⟨g, p, none⟩ (.agg cells)).run P w = .ok () (w.setRow g (spl old p cells.toList)) := by
    have := run_storeCells_spl (P := P) g p t cells.toList 0 old w hb (by simp; omega) (fun v hv => (Array.all_eq_true_iff_forall_mem.1 h1) v (by simpa using hv))
    cases hq : P.info? ty with
    | none => simp [hq] at hi
    | some i =>
      have hs : cells.size = i.size := by simp [hq] at hi; omega
      simp only [Nat.add_zero] at this
      simp [storeVar, sizeOf, typeInfo, hq, Value.cells, hs, this]
  unfold Oper.wp execOp
  simp only [ho, hx, hy, Instr.storeAt, Instr.sureAddr, Sem.run_bind, Sem.run_pure, Result.andThen_ok, hrun]
  exact hK _ _ (h _ (H.updB setRow_grown hb.setRow_))
/-- one cell -/
theorem wpList_store1_st {g j : Nat} {t : TypeId} {old : Array Value} (H : St w0 w I) (hgd : o.guard = none) (ty : TypeId) (x y : Operand) (ho : o.op = .store ty x y)
    (hx : a.eval x = .pointer (some ⟨g, j, none⟩)) (v : Value) (hy : a.eval y = v) (hv : v.cells = #[v]) [U : UpdB I g t old (old.setIfInBounds j v) J] (hi : (P.info? ty).map (·.size) = some 1)
    (hold : Nat.blt j old.size = true) (h1 : v.oneCell' = true)
    (h : ∀ w', St w0 w' J → wpList P ops Q rest (a.put o.dst undef) w') : wpList P ops Q (o :: rest) a w := by
  have hin : It.bl g t old ∈ I := by
    obtain ⟨P, R, rfl, _⟩ := U.out.out
    simp
  have hb := (H.all _ hin).2
  replace hold : j < old.size := by simpa [Nat.blt_eq] using hold
  refine wpList_plain hgd fun _ hK => ?_
  have hrun : (storeVar ty ⟨g, j, none⟩ v).run P w = .ok () (w.setRow g (old.setIfInBounds j v)) := by
    have := run_storeCells_spl (P := P) g j t [v] 0 old w hb (by simp; omega) (by simpa using h1)
    cases hq : P.info? ty with
    | none => simp [hq] at hi
    | some i =>
      have hs : i.size = 1 := by simp [hq] at hi; omega
      simp only [Nat.add_zero, spl] at this
      simp [storeVar, sizeOf, typeInfo, hq, hv, hs, this]
  unfold Oper.wp execOp
  simp only [ho, hx, hy, Instr.storeAt, Instr.sureAddr, Sem.run_bind, Sem.run_pure, Result.andThen_ok, hrun]
  exact hK _ _ (h _ (H.updB setRow_grown hb.setRow_))
theorem wpList_loadPart_st {g p m : Nat} {t : TypeId} {cs : Array Value} (H : St w0 w I) (hgd : o.guard = none) (ty : TypeId) (x : Operand) (ho : o.op = .load ty x)
    (hx : a.eval x = .pointer (some ⟨g, p, none⟩)) [hm : HasB I g t cs] (hu : (match P.underlying ty with | some (.struct _) | some (.array _ _) => true | _ => false) = true) (hi : (P.info? ty).map (·.size) = some m) (hsz : Nat.ble (p + m) cs.size = true)
    (ds : Array Value) (hds : cs.extract p (p + m) = ds) (h : wpList P ops Q rest (a.put o.dst (.agg ds)) w) : wpList P ops Q (o :: rest) a w := by
  subst hds
  cases hd : P.underlying ty with
  | none => simp [hd] at hu
  | some d =>
    rw [hd] at hu
    exact wpList_load_partS hgd ty x ho g p m hx t cs d (H.blk g) hd (by cases d <;> simp_all) hi (Nat.le_of_ble_eq_true hsz) h
theorem wpList_load1_st {g j : Nat} {t : TypeId} {cs : Array Value} {v : Value} (H : St w0 w I) (hgd : o.guard = none) (ty : TypeId) (x : Operand) (ho : o.op = .load ty x)
    (hx : a.eval x = .pointer (some ⟨g, j, none⟩)) [hm : HasB I g t cs] (hu : (match P.underlying ty with | some (.struct _) | some (.array _ _) | none => true | _ => false) = false) (hv : cs.toList[j]? = some v)
    (h : wpList P ops Q rest (a.put o.dst v) w) : wpList P ops Q (o :: rest) a w := by
  cases hd : P.underlying ty with
  | none => simp [hd] at hu
  | some d =>
    rw [hd] at hu
    refine wpList_plain hgd fun _ hK => ?_
    have hagg : (isAgg ty).run P w = .ok false w := by
      unfold isAgg
      rw [Sem.run_bind, run_underlying hd w]
      cases d <;> simp_all
    have hc : w.cell? ⟨g, j, none⟩ = some v := ((H.blk g).cell j).trans (by rw [← Array.getElem?_toList]; exact hv)
    have hrun : (loadVar ty ⟨g, j, none⟩).run P w = .ok v w := by
      simp [loadVar, Sem.run_bind, hagg, hc]
    unfold Oper.wp execOp
    simp only [ho, hx, Instr.loadAt, Instr.sureAddr, Sem.run_bind, Sem.run_pure, Result.andThen_ok, hrun]
    exact hK _ _ h
end

/-! .. under a guard -/
section
variable {P : Program} {ops : Array Oper} {rest : List Oper} {o : Oper} {a : Act} {w0 w : World} {I J : List It} {Q : Exit → Act → World → Prop}
theorem run_load1_ {g j : Nat} {t : TypeId} {cs : Array Value} {v : Value} (hg : Blk w g t cs) (ty : TypeId) (x : Operand) (ho : o.op = .load ty x)
    (hx : a.eval x = .pointer (some ⟨g, j, none⟩)) (hu : (match P.underlying ty with | some (.struct _) | some (.array _ _) | none => true | _ => false) = false) (hv : cs.toList[j]? = some v) : (execOp a.eval o).run P w = .ok (.value v) w := by
  cases hd : P.underlying ty with
  | none => simp [hd] at hu
  | some d =>
    rw [hd] at hu
    have hagg : (isAgg ty).run P w = .ok false w := by
      unfold isAgg
      rw [Sem.run_bind, run_underlying hd w]
      cases d <;> simp_all
    have hc : w.cell? ⟨g, j, none⟩ = some v := (hg.cell j).trans (by rw [← Array.getElem?_toList]; exact hv)
    have hrun : (loadVar ty ⟨g, j, none⟩).run P w = .ok v w := by
      simp [loadVar, Sem.run_bind, hagg, hc]
    unfold execOp
    simp only [ho, hx, Instr.loadAt, Instr.sureAddr, Sem.run_bind, Sem.run_pure, Result.andThen_ok, hrun]
theorem wpList_load1_stG {g j : Nat} {t : TypeId} {cs : Array Value} {v : Value} (H : St w0 w I) (hw : Region.wanted o (yielded ops a.tmps) = true) (ty : TypeId) (x : Operand) (ho : o.op = .load ty x)
    (hx : a.eval x = .pointer (some ⟨g, j, none⟩)) [hm : HasB I g t cs] (hu : (match P.underlying ty with | some (.struct _) | some (.array _ _) | none => true | _ => false) = false) (hv : cs.toList[j]? = some v)
    (h : wpList P ops Q rest (a.put o.dst v) w) : wpList P ops Q (o :: rest) a w :=
  Go.BigFrame.wpList_want hw fun _ hK => by
    unfold Oper.wp
    rw [run_load1_ (H.blk g) ty x ho hx hu hv]
    exact hK _ _ h
theorem wpList_loadPart_stG {g p m : Nat} {t : TypeId} {cs : Array Value} (H : St w0 w I) (hw : Region.wanted o (yielded ops a.tmps) = true) (ty : TypeId) (x : Operand) (ho : o.op = .load ty x)
    (hx : a.eval x = .pointer (some ⟨g, p, none⟩)) [hm : HasB I g t cs] (hu : (match P.underlying ty with | some (.struct _) | some (.array _ _) => true | _ => false) = true) (hi : (P.info? ty).map (·.size) = some m) (hsz : Nat.ble (p + m) cs.size = true)
    (ds : Array Value) (hds : cs.extract p (p + m) = ds) (h : wpList P ops Q rest (a.put o.dst (.agg ds)) w) : wpList P ops Q (o :: rest) a w := by
  subst hds
  cases hd : P.underlying ty with
  | none => simp [hd] at hu
  | some d =>
    rw [hd] at hu
    exact Go.BigFrame.wpList_want hw fun _ hK => wp_load_partS ty x ho g p m hx t cs d (H.blk g) hd (by cases d <;> simp_all) hi (Nat.le_of_ble_eq_true hsz) (hK _ _ h)
end

/-! ### Rows of the call's own -/
/-- one of them becomes something else -/
class RepO (I : List It) (e : TypeId) (v : Value) (size n : outParam Nat) (xs : outParam (List Value)) (J : outParam (It → List It)) : Prop where
  out : ∃ P R, I = P ++ .ow e size v n xs :: R ∧ ∀ y, J y = P ++ y :: R
section
variable {w0 w w' : World} {I : List It} {x : It} {J : It → List It} {e : TypeId} {v : Value} {size n : Nat} {xs : List Value}
instance (priority := high) RepO.here : RepO (.ow e size v n xs :: I) e v size n xs (fun y => y :: I) := ⟨[], I, rfl, fun _ => rfl⟩
instance (priority := low) RepO.there [h : RepO I e v size n xs J] : RepO (x :: I) e v size n xs (fun y => x :: J y) := by
  obtain ⟨P, R, h1, h2⟩ := h.out
  exact ⟨x :: P, R, by rw [h1]; rfl, fun y => by rw [h2]; rfl⟩
theorem RepO.upd (h : RepO I e v size n xs J) (y : It) : Upd I (.ow e size v n xs) y (J y) := by
  obtain ⟨P, R, h1, h2⟩ := h.out
  exact ⟨P, R, h1, h2 y⟩
theorem RepO.mem (h : RepO I e v size n xs J) : It.ow e size v n xs ∈ I := by
  obtain ⟨P, R, h1, _⟩ := h.out
  rw [h1]
  simp
theorem St.own (H : St w0 w I) (e : TypeId) (v : Value) [h : RepO I e v size n xs J] : w.ownsRow w0.heap.size e size v n xs := H.all _ h.mem
theorem St.nilOwn (H : St w0 w I) (e : TypeId) (size : Nat) : St w0 w (.ow e size (.slice none 0 0) 0 [] :: I) :=
  H.push ⟨rfl, rfl, rfl, Nat.le_refl _, fun _ _ _ => rfl⟩ (World.ownsRow_nil _ _ _ _) (fun _ h => by cases h)
theorem St.newOwn {v : Value} (H : St w0 w I) (hb : Below w.heap.size w w') (ho : w'.ownsRow w.heap.size e size v n xs) : St w0 w' (.ow e size v n xs :: I) :=
  H.push (grown_of_below hb) (own_base ho H.bel.size) (fun g h => (World.ownsRow.lt ho g h).1)
theorem St.newRd {A : Option Addr} (H : St w0 w I) (hb : Below w.heap.size w w') (ho : Reads w' w'.heap.size size A n xs) (hA : ∀ ad, A = some ad → w.heap.size ≤ ad.block) : St w0 w' (.rd size A n xs :: I) :=
  H.push (grown_of_below hb) ho (fun g h => by
    simp only [It.area] at h
    split at h
    · cases h
    · cases hA' : A with
      | none => rw [hA'] at h; cases h
      | some ad => rw [hA'] at h; cases h; exact hA ad hA')
theorem rd_area {A : Option Addr} {B : Nat} (hA : ∀ ad, A = some ad → B ≤ ad.block) (g : Nat) (h : (It.rd size A n xs).area = some g) : B ≤ g := by
  simp only [It.area] at h
  split at h
  · cases h
  · cases hA' : A with
    | none => rw [hA'] at h; cases h
    | some ad => rw [hA'] at h; cases h; exact hA ad hA'
theorem St.newRds (H : St w0 w I) (l : List It) (hb : Below w.heap.size w w') (hl : ∀ y ∈ l, ∃ s A n xs, y = .rd s A n xs ∧ Reads w' w'.heap.size s A n xs ∧ ∀ ad, A = some ad → w.heap.size ≤ ad.block) : St w0 w' (l ++ I) :=
  H.pushes hb l (fun y hy => by
    obtain ⟨s, A, n, xs, rfl, h1, h2⟩ := hl y hy
    exact ⟨h1, fun g hg => rd_area h2 g hg⟩) (List.pairwise_of_forall_mem_list (fun a ha b hb => by
    obtain ⟨s, A, n, xs, rfl, _⟩ := hl a ha
    obtain ⟨s', A', n', xs', rfl, _⟩ := hl b hb
    exact off_rd))
theorem St.appended (H : St w0 w I) [h : RepO I e v size n xs J] {v' : Value} {n' : Nat} {xs' : List Value} (ho : w'.ownsRow w0.heap.size e size v' n' xs') (hg : w.grownBy w' v.ownBlock) (hv : v'.ownBlock = v.ownBlock ∨ v'.ownBlock = some w.heap.size) : St w0 w' (J (.ow e size v' n' xs')) :=
  St.upd (U := h.upd _) H rfl hg ho (fun g h => by
    rcases hv with hv | hv
    · exact .inl (hv.symm.trans h)
    · have h2 : v'.ownBlock = some g := h
      rw [hv] at h2
      cases h2
      exact .inr (Nat.le_refl _))
/-- .. is only read from here on -/
theorem St.freeze {A : Option Addr} {c : Nat} (H : St w0 w I) [h : RepO I e (.slice A n c) size n xs J] : St w0 w (J (.rd size A n xs)) :=
  St.upd (U := h.upd _) H rfl ⟨rfl, rfl, rfl, Nat.le_refl _, fun _ _ _ => rfl⟩ (Reads.of_own (H.all _ h.mem)) (fun g hg => .inl (by
    simp only [It.area] at hg ⊢
    split at hg
    · cases hg
    · cases A with
      | none => cases hg
      | some a => exact hg))
end
section
variable {P : Program} {ops : Array Oper} {rest : List Oper} {o : Oper} {a : Act} {w0 w : World} {I : List It} {J : It → List It} {Q : Exit → Act → World → Prop}
/-- one element more, that has just been laid -/
theorem wpList_appendNew_st {v : Value} {e : TypeId} {size n : Nat} {xs : List Value} {cs : Array Value} (H : St w0 w I) (hgd : o.guard = none) (s x : Operand) (t : TypeId)
    (ho : o.op = .call { callee := .builtin .append, args := #[s, x], argTypes := #[t, t] }) (hs : a.eval s = v) (hx : a.eval x = .slice (some ⟨w.heap.size, 0, none⟩) 1 1)
    (ht : P.underlying t = some (.slice e)) [h : RepO I e v size n xs J] (z : Value) (bytes : Nat) (hi : (P.info? e).map (fun i => (i.zero, i.size, i.bytes)) = some (some z, size, bytes))
    (hzs : z.cells.size = size) (hsz : 0 < size) (hcs : cs.size = size) (h1 : cs.all (·.oneCell') = true)
    (h63 : n + 1 ≤ maxLen) (hbytes : (n + 1) * bytes ≤ 140737488355328)
    (hk : ∀ A c w', St w0 w' (J (.ow e size (.slice A (n + 1) c) (n + 1) (xs ++ cs.toList))) → wpList P ops Q rest (a.put o.dst (.slice A (n + 1) c)) w') : wpList P ops Q (o :: rest) a (w.alloc (.cells cs e)) := by
  cases hq : P.info? e with
  | none => simp [hq] at hi
  | some i =>
    simp only [hq, Option.map_some, Option.some.injEq, Prod.mk.injEq] at hi
    have hg : w.grownBy (w.alloc (.cells cs e)) none := ⟨rfl, rfl, rfl, by simp, fun k hk _ => Below.heap_alloc w _ k hk⟩
    have H' := H.grown hg
    have hr : Reads (w.alloc (.cells cs e)) (w.alloc (.cells cs e)).heap.size size (some ⟨w.heap.size, 0, none⟩) 1 cs.toList :=
      ⟨by simp [hcs], fun _ => ⟨_, rfl, by simp, fun j u hu => by
        have hadd : (⟨w.heap.size, 0, none⟩ : Addr).add j = ⟨w.heap.size, j, none⟩ := by unfold Addr.add; split <;> simp_all
        rw [hadd, (Blk.new w e cs).cell, ← Array.getElem?_toList, hu]⟩⟩
    refine wpList_append_any _ hgd s x t ho w0.heap.size e i z size bytes ht hq hi.1 hi.2.1 hi.2.2 hzs hsz v n xs hs (H'.own e v) _ _ 1 1 cs.toList hx hr (fun u hu => (Array.all_eq_true_iff_forall_mem.1 h1) u (by simpa using hu)) h63 hbytes (Nat.le_trans H.bel.size (by simp)) fun v' w' ho' hg' hv' => ?_
    obtain ⟨A', c', rfl, _⟩ := own_shape ho'
    exact hk A' c' w' (H'.appended ho' hg' hv')
/-- all that another slice holds -/
theorem wpList_append_st {v : Value} {e : TypeId} {size n m c : Nat} {A : Option Addr} {xs news : List Value} (H : St w0 w I) (hgd : o.guard = none) (s x : Operand) (t : TypeId)
    (ho : o.op = .call { callee := .builtin .append, args := #[s, x], argTypes := #[t, t] }) (hs : a.eval s = v) (hx : a.eval x = .slice A m c)
    (ht : P.underlying t = some (.slice e)) [h : RepO I e v size n xs J] (z : Value) (bytes : Nat) (hi : (P.info? e).map (fun i => (i.zero, i.size, i.bytes)) = some (some z, size, bytes))
    (hzs : z.cells.size = size) (hsz : 0 < size) (hr : Reads w w.heap.size size A m news) (h1 : ∀ u ∈ news, u.oneCell' = true)
    (h63 : n + m ≤ maxLen) (hbytes : (n + m) * bytes ≤ 140737488355328)
    (hk : ∀ A c w', n + m ≤ c → c ≤ maxLen → St w0 w' (J (.ow e size (.slice A (n + m) c) (n + m) (xs ++ news))) → wpList P ops Q rest (a.put o.dst (.slice A (n + m) c)) w') : wpList P ops Q (o :: rest) a w := by
  cases hq : P.info? e with
  | none => simp [hq] at hi
  | some i =>
    simp only [hq, Option.map_some, Option.some.injEq, Prod.mk.injEq] at hi
    refine wpList_append_any _ hgd s x t ho w0.heap.size e i z size bytes ht hq hi.1 hi.2.1 hi.2.2 hzs hsz v n xs hs (H.own e v) _ _ m c news hx hr h1 h63 hbytes H.bel.size fun v' w' ho' hg' hv' => ?_
    obtain ⟨A', c', rfl, hc1, hc2⟩ := own_shape ho'
    exact hk A' c' w' hc1 hc2 (H.appended ho' hg' hv')
end

/-! ### Loads in a region that draws its order -/
section
variable {P : Program} {ops : Array Oper} {rest : List Oper} {o : Oper} {a : Act} {w0 w : World} {I : List It} {Q : Act → Prop}
theorem still_of {v : Value} (hw : Region.wanted o (yielded ops a.tmps) = true) (hrun : (execOp a.eval o).run P w = .ok (.value v) w) (h : wpStill P ops w Q rest (a.put o.dst v)) : wpStill P ops w Q (o :: rest) a :=
  wpStill_step fun K hK => by
    rw [if_pos hw]
    unfold Oper.still
    rw [hrun, Oper.stillUpon_value]
    exact hK _ h
theorem quiet_of {C : World → Prop} {v : Value} (hw : Region.wanted o (yielded ops a.tmps) = true) (hrun : ∀ w, C w → (execOp a.eval o).run P w = .ok (.value v) w) (h : wpQuiet P ops C Q rest (a.put o.dst v)) : wpQuiet P ops C Q (o :: rest) a :=
  wpQuiet_step fun K hK => by
    rw [if_pos hw]
    exact ⟨v, fun w hC => by unfold Oper.quietAt; rw [hrun w hC]; exact ⟨rfl, rfl⟩, hK _ h⟩
theorem run_loadPart {g p m : Nat} {t : TypeId} {cs : Array Value} (hg : Blk w g t cs) (ty : TypeId) (x : Operand) (ho : o.op = .load ty x)
    (hx : a.eval x = .pointer (some ⟨g, p, none⟩)) (hu : (match P.underlying ty with | some (.struct _) | some (.array _ _) => true | _ => false) = true) (hi : (P.info? ty).map (·.size) = some m) (hsz : p + m ≤ cs.size) : (execOp a.eval o).run P w = .ok (.value (.agg (cs.extract p (p + m)))) w := by
  have hl : (loadCells ⟨g, p, none⟩ (cs.extract p (p + m)).toList.length).run P w = .ok (cs.extract p (p + m)).toList.toArray w :=
    run_loadCells_list (P := P) w ⟨g, p, none⟩ (cs.extract p (p + m)).toList (fun j v hv => by
      have hadd : (⟨g, p, none⟩ : Addr).add j = ⟨g, p + j, none⟩ := by unfold Addr.add; split <;> simp_all
      rw [hadd, hg.cell]
      have hv2 : (cs.extract p (p + m))[j]? = some v := by rw [← Array.getElem?_toList]; exact hv
      rw [Array.getElem?_extract] at hv2
      split at hv2
      · exact hv2
      · cases hv2)
  have hz : (cs.extract p (p + m)).toList.length = m := by simp; omega
  rw [hz] at hl
  cases hd : P.underlying ty with
  | none => simp [hd] at hu
  | some d =>
    rw [hd] at hu
    cases hq : P.info? ty with
    | none => simp [hq] at hi
    | some i =>
      have hs : i.size = m := by simpa [hq] using hi
      have hagg : (isAgg ty).run P w = .ok true w := by
        unfold isAgg
        rw [Sem.run_bind, run_underlying hd w]
        cases d <;> simp_all
      have hrun : (loadVar ty ⟨g, p, none⟩).run P w = .ok (.agg (cs.extract p (p + m))) w := by
        simp only [Array.toArray_toList] at hl
        simp [loadVar, Sem.run_bind, hagg, sizeOf, typeInfo, hq, hs, hl]
      unfold execOp
      simp only [ho, hx, Instr.loadAt, Instr.sureAddr, Sem.run_bind, Sem.run_pure, Result.andThen_ok, hrun]
theorem run_load1 {g j : Nat} {t : TypeId} {cs : Array Value} {v : Value} (hg : Blk w g t cs) (ty : TypeId) (x : Operand) (ho : o.op = .load ty x)
    (hx : a.eval x = .pointer (some ⟨g, j, none⟩)) (hu : (match P.underlying ty with | some (.struct _) | some (.array _ _) | none => true | _ => false) = false) (hv : cs.toList[j]? = some v) : (execOp a.eval o).run P w = .ok (.value v) w := by
  cases hd : P.underlying ty with
  | none => simp [hd] at hu
  | some d =>
    rw [hd] at hu
    have hagg : (isAgg ty).run P w = .ok false w := by
      unfold isAgg
      rw [Sem.run_bind, run_underlying hd w]
      cases d <;> simp_all
    have hc : w.cell? ⟨g, j, none⟩ = some v := (hg.cell j).trans (by rw [← Array.getElem?_toList]; exact hv)
    have hrun : (loadVar ty ⟨g, j, none⟩).run P w = .ok v w := by
      simp [loadVar, Sem.run_bind, hagg, hc]
    unfold execOp
    simp only [ho, hx, Instr.loadAt, Instr.sureAddr, Sem.run_bind, Sem.run_pure, Result.andThen_ok, hrun]
theorem wpStill_loadPart_st {g p m : Nat} {t : TypeId} {cs : Array Value} (H : St w0 w I) (hw : Region.wanted o (yielded ops a.tmps) = true) (ty : TypeId) (x : Operand) (ho : o.op = .load ty x)
    (hx : a.eval x = .pointer (some ⟨g, p, none⟩)) [hm : HasB I g t cs] (hu : (match P.underlying ty with | some (.struct _) | some (.array _ _) => true | _ => false) = true) (hi : (P.info? ty).map (·.size) = some m) (hsz : Nat.ble (p + m) cs.size = true)
    (ds : Array Value) (hds : cs.extract p (p + m) = ds) (h : wpStill P ops w Q rest (a.put o.dst (.agg ds))) : wpStill P ops w Q (o :: rest) a := by
  subst hds
  exact still_of hw (run_loadPart (H.blk g) ty x ho hx hu hi (Nat.le_of_ble_eq_true hsz)) h
theorem wpStill_load1_st {g j : Nat} {t : TypeId} {cs : Array Value} {v : Value} (H : St w0 w I) (hw : Region.wanted o (yielded ops a.tmps) = true) (ty : TypeId) (x : Operand) (ho : o.op = .load ty x)
    (hx : a.eval x = .pointer (some ⟨g, j, none⟩)) [hm : HasB I g t cs] (hu : (match P.underlying ty with | some (.struct _) | some (.array _ _) | none => true | _ => false) = false) (hv : cs.toList[j]? = some v)
    (h : wpStill P ops w Q rest (a.put o.dst v)) : wpStill P ops w Q (o :: rest) a :=
  still_of hw (run_load1 (H.blk g) ty x ho hx hu hv) h
theorem wpQuiet_loadPart_st {g p m : Nat} {t : TypeId} {cs : Array Value} (H : St w0 w I) (hw : Region.wanted o (yielded ops a.tmps) = true) (ty : TypeId) (x : Operand) (ho : o.op = .load ty x)
    (hx : a.eval x = .pointer (some ⟨g, p, none⟩)) [hm : HasB I g t cs] (hu : (match P.underlying ty with | some (.struct _) | some (.array _ _) => true | _ => false) = true) (hi : (P.info? ty).map (·.size) = some m) (hsz : Nat.ble (p + m) cs.size = true)
    (ds : Array Value) (hds : cs.extract p (p + m) = ds) (h : wpQuiet P ops (fun w' => ∃ n, w' = w.drewN n) Q rest (a.put o.dst (.agg ds))) : wpQuiet P ops (fun w' => ∃ n, w' = w.drewN n) Q (o :: rest) a := by
  subst hds
  exact quiet_of hw (fun w' ⟨n, e⟩ => by subst e; exact run_loadPart ((H.blk g).drewN n) ty x ho hx hu hi (Nat.le_of_ble_eq_true hsz)) h
theorem wpQuiet_load1_st {g j : Nat} {t : TypeId} {cs : Array Value} {v : Value} (H : St w0 w I) (hw : Region.wanted o (yielded ops a.tmps) = true) (ty : TypeId) (x : Operand) (ho : o.op = .load ty x)
    (hx : a.eval x = .pointer (some ⟨g, j, none⟩)) [hm : HasB I g t cs] (hu : (match P.underlying ty with | some (.struct _) | some (.array _ _) | none => true | _ => false) = false) (hv : cs.toList[j]? = some v)
    (h : wpQuiet P ops (fun w' => ∃ n, w' = w.drewN n) Q rest (a.put o.dst v)) : wpQuiet P ops (fun w' => ∃ n, w' = w.drewN n) Q (o :: rest) a :=
  quiet_of hw (fun w' ⟨n, e⟩ => by subst e; exact run_load1 ((H.blk g).drewN n) ty x ho hx hu hv) h
end

/-! ### Less is known, in another order -/
/-- one thing is taken out -/
class Rem (I : List It) (x : It) (J : outParam (List It)) : Prop where
  out : I.Perm (x :: J)
class Subm (J I : List It) : Prop where
  out : ∃ R, I.Perm (J ++ R)
section
variable {w0 w w' : World} {I J K : List It} {x y : It}
instance (priority := high) Rem.here : Rem (x :: I) x I := ⟨List.Perm.refl _⟩
instance (priority := low) Rem.there [h : Rem I x J] : Rem (y :: I) x (y :: J) := ⟨(h.out.cons y).trans (List.Perm.swap x y J)⟩
instance (priority := high) Subm.self : Subm I I := ⟨[], by simp⟩
instance Subm.take [h : Rem I x K] [k : Subm J K] : Subm (x :: J) I := by
  obtain ⟨R, hR⟩ := k.out
  exact ⟨R, h.out.trans (hR.cons x)⟩
instance (priority := low) Subm.cut [h : Subm J I] : Subm J (x :: I) := by
  obtain ⟨R, hR⟩ := h.out
  exact ⟨x :: R, (hR.cons x).trans List.perm_middle.symm⟩
theorem St.subm (H : St w0 w I) (J : List It) [h : Subm J I] : St w0 w J := by
  obtain ⟨R, hR⟩ := h.out
  refine ⟨H.bel, fun x hx => H.all x (hR.mem_iff.2 (List.mem_append_left _ hx)), ?_⟩
  have := (hR.pairwise_iff (fun {a b} h => It.off.symm h)).1 H.apart
  exact (List.pairwise_append.1 this).1
end

/-- as before, at another world -/
theorem St.of {w0 w w' : World} {I J : List It} (_ : St w0 w J) (H : St w0 w' I) [Subm J I] : St w0 w' J := H.subm J

/-! ### Regions in whatever order -/
section
variable {P : Program} {l : List Oper} {Q : Exit → Act → World → Prop} {md : Region.Mode} {S : World → Prop} {fuel : Nat} {listed : Array Bool} {a : Act} {w : World}
def StepH (P : Program) (md : Region.Mode) (l : List Oper) (Q : Exit → Act → World → Prop) (S : World → Prop) (fuel : Nat) (listed : Array Bool) (a : Act) (w : World) (i : Nat) : Prop :=
  (Region.ready md l.toArray listed).contains i = true → wpOp P l.toArray Q i (fun a' w' => S w' ∧ wpAnyH P md l.toArray Q S fuel (listed.setIfInBounds i true) a' w') a w
def AllStep (P : Program) (md : Region.Mode) (l : List Oper) (Q : Exit → Act → World → Prop) (S : World → Prop) (fuel : Nat) (listed : Array Bool) (a : Act) (w : World) (hs : List Nat) : Prop := ∀ i ∈ hs, StepH P md l Q S fuel listed a w i
theorem AllStep.nil : AllStep P md l Q S fuel listed a w [] := fun _ h => by cases h
theorem AllStep.cons {i : Nat} {hs : List Nat} (h : StepH P md l Q S fuel listed a w i) (k : AllStep P md l Q S fuel listed a w hs) : AllStep P md l Q S fuel listed a w (i :: hs) := fun j hj => by
  rcases List.mem_cons.1 hj with rfl | hj
  · exact h
  · exact k j hj
theorem branchH (hs : List Nat) (hsub : (Region.ready md l.toArray listed).all (hs.contains ·) = true) (hne : (Region.ready md l.toArray listed).isEmpty = false) (h : AllStep P md l Q S fuel listed a w hs) : wpAnyH P md l.toArray Q S (fuel + 1) listed a w := by
  refine ⟨fun h0 => (by rw [h0] at hne; cases hne), fun i hi => ?_⟩
  have h1 : i ∈ hs := by simpa using List.all_eq_true.1 hsub i hi
  exact h i h1 (by simpa using hi)
theorem stepH_skip {i : Nat} (h : (Region.ready md l.toArray listed).contains i = false) : StepH P md l Q S fuel listed a w i := fun h' => by rw [h] at h'; cases h'
theorem stepH_do {i : Nat} {o : Oper} {rest : List Oper} (hi : l.drop i = o :: rest) (hg : Region.wanted o (yielded l.toArray a.tmps) = true) (h : o.wp P a w (fun a' w' => S w' ∧ wpAnyH P md l.toArray Q S fuel (listed.setIfInBounds i true) a' w') Q) : StepH P md l Q S fuel listed a w i := fun _ => by
  unfold wpOp
  rw [at_of_drop hi]
  simp only [hg, if_true]
  exact .inl h
theorem doneH (hr : Region.ready md l.toArray listed = []) (h : Q .normal a w) : wpAnyH P md l.toArray Q S fuel listed a w := wpAnyH_done hr h fuel
theorem startH {id : Nat} (hm : P.follows .mixedOrders = true) (h : wpAnyH P .any l.toArray Q S l.length (Array.replicate l.length false) a w.drew) : (Code.region id l.toArray true).wp P Q a w := wp_region_held (S := S) hm (by simpa using h)
/-- what is taken first: nothing is read -/
theorem takeV {i : Nat} {oi : Oper} {rest : List Oper} {v : Value} (hi : l.drop i = oi :: rest)
    (hs : Region.noSelect l.toArray = true) (hf : Region.free md l.toArray listed i = true) (hr : (Region.ready md l.toArray listed).contains i = true)
    (hQ : ∀ c a w, Q (.panic c) (a.put oi.dst v) w → Q (.panic c) a w) (hw : Region.wanted oi (yielded l.toArray a.tmps) = true) (hy : ∀ w, S w → (execOp a.eval oi).run P w = .ok (.value v) w) (hS : S w)
    (h : wpAnyH P md l.toArray Q S fuel (listed.setIfInBounds i true) (a.put oi.dst v) w) : wpAnyH P md l.toArray Q S (fuel + 1) listed a w :=
  wpAnyH_take (at_of_drop hi) hs hf hr hQ (.inl ⟨hw, hy⟩) hS h
theorem eval_tmp {t : Nat} {v : Value} (h : a.tmps.toList[t]? = some v) : a.eval (.tmp t) = v := by
  have h' : a.tmps[t]? = some v := by rw [← Array.getElem?_toList]; exact h
  simp [Act.eval, h']
theorem run_extract_st {o : Oper} {x : Operand} {k : Nat} {vs : List Value} {v : Value} {W : World} (ho : o.op = .extract x k) (hx : a.eval x = .tuple vs.toArray) (hv : vs[k]? = some v) : (execOp a.eval o).run P W = .ok (.value v) W := by
  unfold execOp
  simp only [ho, hx]
  simp [Instr.extract, hv]
theorem takeMove {i t : Nat} {oi : Oper} {rest : List Oper} (hi : l.drop i = oi :: rest) (ho : oi.op = .move (.tmp t)) (v : Value) (hv : a.tmps.toList[t]? = some v)
    (hs : Region.noSelect l.toArray = true) (hf : Region.free md l.toArray listed i = true) (hr : (Region.ready md l.toArray listed).contains i = true)
    (hQ : ∀ c a v w, Q (.panic c) (a.put oi.dst v) w → Q (.panic c) a w) (hw : Region.wanted oi (yielded l.toArray a.tmps) = true) (hS : S w)
    (h : wpAnyH P md l.toArray Q S fuel (listed.setIfInBounds i true) (a.put oi.dst v) w) : wpAnyH P md l.toArray Q S (fuel + 1) listed a w :=
  takeV hi hs hf hr (fun c a w => hQ c a _ w) hw (fun _ _ => by unfold execOp; rw [ho]; simp only [eval_tmp hv]; rfl) hS h
theorem takeAssign {i t : Nat} {oi : Oper} {rest : List Oper} (hi : l.drop i = oi :: rest) (ho : oi.op = .assign (.tmp t)) (v : Value) (hv : a.tmps.toList[t]? = some v)
    (hs : Region.noSelect l.toArray = true) (hf : Region.free md l.toArray listed i = true) (hr : (Region.ready md l.toArray listed).contains i = true)
    (hQ : ∀ c a v w, Q (.panic c) (a.put oi.dst v) w → Q (.panic c) a w) (hw : Region.wanted oi (yielded l.toArray a.tmps) = true) (hS : S w)
    (h : wpAnyH P md l.toArray Q S fuel (listed.setIfInBounds i true) (a.put oi.dst v) w) : wpAnyH P md l.toArray Q S (fuel + 1) listed a w :=
  takeV hi hs hf hr (fun c a w => hQ c a _ w) hw (fun _ _ => by unfold execOp; rw [ho]; simp only [eval_tmp hv]; rfl) hS h
theorem takeExtract {i t k : Nat} {oi : Oper} {rest : List Oper} (hi : l.drop i = oi :: rest) (ho : oi.op = .extract (.tmp t) k) (vs : List Value) (v : Value) (hx : a.tmps.toList[t]? = some (.tuple vs.toArray)) (hv : vs[k]? = some v)
    (hs : Region.noSelect l.toArray = true) (hf : Region.free md l.toArray listed i = true) (hr : (Region.ready md l.toArray listed).contains i = true)
    (hQ : ∀ c a v w, Q (.panic c) (a.put oi.dst v) w → Q (.panic c) a w) (hw : Region.wanted oi (yielded l.toArray a.tmps) = true) (hS : S w)
    (h : wpAnyH P md l.toArray Q S fuel (listed.setIfInBounds i true) (a.put oi.dst v) w) : wpAnyH P md l.toArray Q S (fuel + 1) listed a w :=
  takeV hi hs hf hr (fun c a w => hQ c a _ w) hw (fun _ _ => run_extract_st ho (eval_tmp hx) hv) hS h
end
section
variable {P : Program} {l : List Oper} {o : Oper} {a : Act} {w0 w : World} {I J : List It} {Q : Exit → Act → World → Prop} {K : Act → World → Prop} {md : Region.Mode} {fuel : Nat} {listed : Array Bool}
theorem takePart_st {i g p m : Nat} {oi : Oper} {rest : List Oper} {t : TypeId} {cs : Array Value} (ty : TypeId) (x : Operand) (hi : l.drop i = oi :: rest) (ho : oi.op = .load ty x) (hx : a.eval x = .pointer (some ⟨g, p, none⟩)) [hm : HasB I g t cs]
    (hu : (match P.underlying ty with | some (.struct _) | some (.array _ _) => true | _ => false) = true) (hii : (P.info? ty).map (·.size) = some m) (hsz : Nat.ble (p + m) cs.size = true) (ds : Array Value) (hds : cs.extract p (p + m) = ds)
    (hs : Region.noSelect l.toArray = true) (hf : Region.free md l.toArray listed i = true) (hr : (Region.ready md l.toArray listed).contains i = true)
    (hQ : ∀ c a v w, Q (.panic c) (a.put oi.dst v) w → Q (.panic c) a w) (hw : Region.wanted oi (yielded l.toArray a.tmps) = true) (hS : St w0 w I)
    (h : wpAnyH P md l.toArray Q (fun W => St w0 W I) fuel (listed.setIfInBounds i true) (a.put oi.dst (.agg ds)) w) : wpAnyH P md l.toArray Q (fun W => St w0 W I) (fuel + 1) listed a w := by
  subst hds
  exact takeV hi hs hf hr (fun c a w => hQ c a _ w) hw (fun _ h => run_loadPart (h.blk g) ty x ho hx hu hii (Nat.le_of_ble_eq_true hsz)) hS h
theorem take1_st {i g j : Nat} {oi : Oper} {rest : List Oper} {t : TypeId} {cs : Array Value} (ty : TypeId) (x : Operand) (hi : l.drop i = oi :: rest) (ho : oi.op = .load ty x) (hx : a.eval x = .pointer (some ⟨g, j, none⟩)) [hm : HasB I g t cs]
    (hu : (match P.underlying ty with | some (.struct _) | some (.array _ _) | none => true | _ => false) = false) (v : Value) (hv : cs.toList[j]? = some v)
    (hs : Region.noSelect l.toArray = true) (hf : Region.free md l.toArray listed i = true) (hr : (Region.ready md l.toArray listed).contains i = true)
    (hQ : ∀ c a v w, Q (.panic c) (a.put oi.dst v) w → Q (.panic c) a w) (hw : Region.wanted oi (yielded l.toArray a.tmps) = true) (hS : St w0 w I)
    (h : wpAnyH P md l.toArray Q (fun W => St w0 W I) fuel (listed.setIfInBounds i true) (a.put oi.dst v) w) : wpAnyH P md l.toArray Q (fun W => St w0 W I) (fuel + 1) listed a w :=
  takeV hi hs hf hr (fun c a w => hQ c a _ w) hw (fun _ h => run_load1 (h.blk g) ty x ho hx hu hv) hS h
/-! the operations that make or write memory, one at a time -/
theorem wp_alloc_st (H : St w0 w I) (ty : TypeId) (ho : o.op = .alloc ty) (zs : Array Value) (hz : (P.info? ty).bind (·.zero) = some (.agg zs))
    (h : ∀ g w', St w0 w' (.bl g ty zs :: I) → K (a.put o.dst (.pointer (some ⟨g, 0, none⟩))) w') : o.wp P a w K Q :=
  wp_alloc_row ty ho zs hz fun w' E hg _ => h _ w' (H.allocd E hg rfl)
theorem wp_alloc1_st (H : St w0 w I) (ty : TypeId) (ho : o.op = .alloc ty) (z : Value) (hz : (P.info? ty).bind (·.zero) = some z) (h1 : z.cells = #[z])
    (h : ∀ g w', St w0 w' (.bl g ty #[z] :: I) → K (a.put o.dst (.pointer (some ⟨g, 0, none⟩))) w') : o.wp P a w K Q := by
  unfold Oper.wp execOp
  simp only [ho, Sem.run_bind, run_alloc_one ty z w hz h1, Result.andThen_ok, Sem.run_pure]
  exact h _ _ (H.box ty #[z])
theorem wp_store_st {g : Nat} {t : TypeId} {old cells : Array Value} (H : St w0 w I) (ty : TypeId) (x y : Operand) (ho : o.op = .store ty x y)
    (hx : a.eval x = .pointer (some ⟨g, 0, none⟩)) (hy : a.eval y = .agg cells) [U : UpdB I g t old cells J] (hi : (P.info? ty).map (·.size) = some cells.size)
    (hold : old.size = cells.size) (h1 : cells.all (·.oneCell') = true)
    (h : ∀ w', St w0 w' J → K (a.put o.dst undef) w') : o.wp P a w K Q := by
  have hin : It.bl g t old ∈ I := by
    obtain ⟨P, R, rfl, _⟩ := U.out.out
    simp
  exact wp_store_rowQ ty x y ho g cells hx hy t old (H.all _ hin).2 hi hold h1 fun w' E hg _ => h w' (H.updB hg E)
/-- a call of a Go function -/
theorem wp_call_st {f : FuncId} {fn : Func} {xs : Array Operand} {ats : Array TypeId} (ho : o.op = .call { callee := .value (.func f), args := xs, argTypes := ats }) (hf : P.funcs[f]? = some fn) (hname : (fn.name == "runtime.NumGoroutine") = false) (hb : fn.body.isSome = true)
    (vl : List Value) (hxs : xs.toList.map a.eval = vl) (h : Calls P f vl.toArray w fun e w' => ∃ v, e = .returned v ∧ K (a.put o.dst v) w') : o.wp P a w K Q := by
  have hxs : xs.map a.eval = vl.toArray := by
    subst hxs
    cases xs
    simp
  have h1 : ¬ fn.name = "runtime.NumGoroutine" := by simpa using hname
  have h2 : ¬ fn.body = none := by cases hx : fn.body <;> simp_all
  have hrun : (execOp a.eval o).run P w = .ok (.enter f (xs.map a.eval)) w := by
    unfold execOp
    simp [ho, resolve, Deferred.ofValue, invoke, callFunc, hf, h1, h2, Act.eval]
  unfold Oper.wp
  rw [hrun, hxs]
  refine h.mono fun e w' he => ?_
  obtain ⟨v, rfl, hk⟩ := he
  exact hk
end

section
variable {P : Program} {l : List Oper} {a : Act} {w0 w : World} {I : List It} {Q : Exit → Act → World → Prop} {md : Region.Mode} {fuel : Nat} {listed : Array Bool}
theorem startS {id : Nat} (H : St w0 w I) (hm : P.follows .mixedOrders = true) (h : St w0 w.drew I → wpAnyH P .any l.toArray Q (fun W => St w0 W I) l.length (Array.replicate l.length false) a w.drew) : (Code.region id l.toArray true).wp P Q a w := startH hm (h H.drew)
theorem takeRow_st {i g : Nat} {oi : Oper} {rest : List Oper} {t : TypeId} {cs : Array Value} (ty : TypeId) (x : Operand) (hi : l.drop i = oi :: rest) (ho : oi.op = .load ty x) (hx : a.eval x = .pointer (some ⟨g, 0, none⟩)) [hm : HasB I g t cs]
    (hu : (match P.underlying ty with | some (.struct _) | some (.array _ _) => true | _ => false) = true) (hii : (P.info? ty).map (·.size) = some cs.size)
    (hs : Region.noSelect l.toArray = true) (hf : Region.free md l.toArray listed i = true) (hr : (Region.ready md l.toArray listed).contains i = true)
    (hQ : ∀ c a v w, Q (.panic c) (a.put oi.dst v) w → Q (.panic c) a w) (hw : Region.wanted oi (yielded l.toArray a.tmps) = true) (hS : St w0 w I)
    (h : wpAnyH P md l.toArray Q (fun W => St w0 W I) fuel (listed.setIfInBounds i true) (a.put oi.dst (.agg cs)) w) : wpAnyH P md l.toArray Q (fun W => St w0 W I) (fuel + 1) listed a w := by
  refine takePart_st (p := 0) (m := cs.size) ty x hi ho hx hu hii (by simp) cs ?_ hs hf hr hQ hw hS h
  simp
end

/-! ### A slice of one element, that is laid; append -/
theorem fold_spl : ∀ (vs : List Value) (k off : Nat) (cs : Array Value), (vs.zipIdx k).foldl (fun cs (c, j) => cs.setIfInBounds (off + j) c) cs = spl cs (off + k) vs
  | [], _, _, _ => rfl
  | v :: vs, k, off, cs => by
    rw [List.zipIdx_cons, List.foldl_cons, fold_spl vs (k + 1) off]
    rfl
theorem spl_all (A B : Array Value) (h : A.size = B.size) : spl A 0 B.toList = B := by
  have := spl_front A B #[] h
  simpa using this
section
variable {P : Program} {o : Oper} {a : Act} {w0 w : World} {I : List It} {J : It → List It} {Q : Exit → Act → World → Prop} {K : Act → World → Prop}
theorem run_buildSlice1 (t e : TypeId) (z : Value) (cs : Array Value) (ht : P.underlying t = some (.slice e)) (hi : (P.info? e).map (fun i => (i.zero, i.size)) = some (some z, cs.size)) (h0 : 0 < cs.size) (hsm : cs.size ≤ 1000) (v : Value) (hv : v.cells = cs) :
    (Instr.buildSlice t 1 #[(0, v)]).run P w = .ok (.slice (some ⟨w.heap.size, 0, none⟩) 1 1) (w.alloc (.cells cs e)) := by
  cases hq : P.info? e with
  | none => simp [hq] at hi
  | some i =>
    simp only [hq, Option.map_some, Option.some.injEq, Prod.mk.injEq] at hi
    obtain ⟨hz, hs⟩ := hi
    have hzv : (Go.zeroValue e).run P w = .ok z w := by simp [Go.zeroValue, Sem.run_bind, typeInfo, hq, hz]
    have hfill : ∀ A : Array Value, A.size = cs.size → Instr.fill (fun i => some (i * cs.size, cs.size)) A [(0, v)] = some cs := by
      intro A hA
      unfold Instr.fill
      simp only [hv, Nat.zero_mul, Nat.zero_add, hA]
      rw [if_neg (by simp)]
      unfold Instr.fill
      have := fold_spl cs.toList 0 0 A
      rw [spl_all A cs hA] at this
      simp only [Nat.zero_add] at this
      rw [← Array.foldl_toList, Array.toList_zipIdx]
      exact congrArg some this
    have hso : (sizeOf e).run P w = .ok cs.size w := by simp [sizeOf, typeInfo, hq, hs]
    have hne : ¬ cs.size = 0 := by omega
    have hle : ¬ 16777216 < cs.size := by omega
    have hF := hfill (Array.map (fun x => z.cells[x % z.cells.size]!) (Array.range cs.size)) (by simp)
    have hF' : ∀ pl : Nat → Option (Nat × Nat), (∀ i, pl i = some (i * cs.size, cs.size)) → Instr.fill pl (Array.map (fun x => z.cells[x % z.cells.size]!) (Array.range cs.size)) [(0, v)] = some cs := fun pl h => by
      rw [show pl = fun i => some (i * cs.size, cs.size) from funext h]
      exact hF
    unfold Instr.buildSlice
    simp [Sem.run_bind, run_underlying ht, hso, hzv, hne, hle, hF']
    simp [newRow, go_sem]
theorem wp_buildSlice1_st (H : St w0 w I) (t : TypeId) (x : Operand) (ho : o.op = .buildSlice t 1 #[(0, x)]) (e : TypeId) (ht : P.underlying t = some (.slice e)) (cs : Array Value) (hx : a.eval x = .agg cs) (z : Value) (hi : (P.info? e).map (fun i => (i.zero, i.size)) = some (some z, cs.size)) (h0 : Nat.blt 0 cs.size = true) (hsm : Nat.ble cs.size 1000 = true)
    (h : ∀ g w', St w0 w' (.bl g e cs :: I) → K (a.put o.dst (.slice (some ⟨g, 0, none⟩) 1 1)) w') : o.wp P a w K Q := by
  have hrun := run_buildSlice1 (P := P) (w := w) t e z cs ht hi (by simpa [Nat.blt_eq] using h0) (Nat.le_of_ble_eq_true hsm) (.agg cs) rfl
  unfold Oper.wp execOp
  simp only [ho, List.map_toArray, List.map_cons, List.map_nil, hx, Sem.run_bind, hrun, Result.andThen_ok, Sem.run_pure]
  exact h _ _ (H.box e cs)
/-- append of what a block holds -/
theorem wp_appendB_st {g : Nat} {v : Value} {e : TypeId} {size n : Nat} {xs : List Value} {cs : Array Value} (H : St w0 w I) (s x : Operand) (t : TypeId)
    (ho : o.op = .call { callee := .builtin .append, args := #[s, x], argTypes := #[t, t] }) (hs : a.eval s = v) (hx : a.eval x = .slice (some ⟨g, 0, none⟩) 1 1)
    (ht : P.underlying t = some (.slice e)) [hb : HasB I g e cs] [h : RepO I e v size n xs J] (z : Value) (bytes : Nat) (hi : (P.info? e).map (fun i => (i.zero, i.size, i.bytes)) = some (some z, size, bytes))
    (hzs : z.cells.size = size) (hsz : Nat.blt 0 size = true) (hcs : cs.size = size) (h1 : cs.all (·.oneCell') = true)
    (h63 : n + 1 ≤ maxLen) (hbytes : (n + 1) * bytes ≤ 140737488355328)
    (hk : ∀ A c w', n + 1 ≤ c → c ≤ maxLen → St w0 w' (J (.ow e size (.slice A (n + 1) c) (n + 1) (xs ++ cs.toList))) → K (a.put o.dst (.slice A (n + 1) c)) w') : o.wp P a w K Q := by
  cases hq : P.info? e with
  | none => simp [hq] at hi
  | some i =>
    simp only [hq, Option.map_some, Option.some.injEq, Prod.mk.injEq] at hi
    have hB := H.blk g (t := e) (cs := cs)
    have hr : Reads w w.heap.size size (some ⟨g, 0, none⟩) 1 cs.toList :=
      ⟨by simp [hcs], fun _ => ⟨_, rfl, hB.lt, fun j u hu => by
        have hadd : (⟨g, 0, none⟩ : Addr).add j = ⟨g, j, none⟩ := by unfold Addr.add; split <;> simp_all
        rw [hadd, hB.cell, ← Array.getElem?_toList, hu]⟩⟩
    refine wp_append_any _ s x t ho w0.heap.size e i z size bytes ht hq hi.1 hi.2.1 hi.2.2 hzs (by simpa [Nat.blt_eq] using hsz) v n xs hs (H.own e v) _ _ 1 1 cs.toList hx hr (fun u hu => (Array.all_eq_true_iff_forall_mem.1 h1) u (by simpa using hu)) h63 hbytes H.bel.size fun v' w' ho' hg' hv' => ?_
    obtain ⟨A', c', rfl, hc1, hc2⟩ := own_shape ho'
    exact hk A' c' w' hc1 hc2 (H.appended ho' hg' hv')
/-- one cell is stored -/
theorem wp_store1_st {g j : Nat} {t : TypeId} {old : Array Value} {I' : List It} (H : St w0 w I) (ty : TypeId) (x y : Operand) (ho : o.op = .store ty x y)
    (hx : a.eval x = .pointer (some ⟨g, j, none⟩)) (v : Value) (hy : a.eval y = v) (hv : v.cells = #[v]) (new : Array Value) [U : UpdB I g t old new I'] (hnew : old.setIfInBounds j v = new) (hi : (P.info? ty).map (·.size) = some 1)
    (hold : Nat.blt j old.size = true) (h1 : v.oneCell' = true)
    (h : ∀ w', St w0 w' I' → K (a.put o.dst undef) w') : o.wp P a w K Q := by
  subst hnew
  have hin : It.bl g t old ∈ I := by
    obtain ⟨P, R, rfl, _⟩ := U.out.out
    simp
  have hb := (H.all _ hin).2
  replace hold : j < old.size := by simpa [Nat.blt_eq] using hold
  have hrun : (storeVar ty ⟨g, j, none⟩ v).run P w = .ok () (w.setRow g (old.setIfInBounds j v)) := by
    have := run_storeCells_spl (P := P) g j t [v] 0 old w hb (by simp; omega) (by simpa using h1)
    cases hq : P.info? ty with
    | none => simp [hq] at hi
    | some i =>
      have hs : i.size = 1 := by simp [hq] at hi; omega
      simp only [Nat.add_zero, spl] at this
      simp [storeVar, sizeOf, typeInfo, hq, hv, hs, this]
  unfold Oper.wp execOp
  simp only [ho, hx, hy, Instr.storeAt, Instr.sureAddr, Sem.run_bind, Sem.run_pure, Result.andThen_ok, hrun]
  exact h _ (H.updB setRow_grown hb.setRow_)
/-- a struct, an array into a part of a block -/
theorem wp_storePart_st {g p : Nat} {t : TypeId} {old cells : Array Value} {I' : List It} (H : St w0 w I) (ty : TypeId) (x y : Operand) (ho : o.op = .store ty x y)
    (hx : a.eval x = .pointer (some ⟨g, p, none⟩)) (hy : a.eval y = .agg cells) (new : Array Value) [U : UpdB I g t old new I'] (hnew : spl old p cells.toList = new) (hi : (P.info? ty).map (·.size) = some cells.size)
    (hold : Nat.ble (p + cells.size) old.size = true) (h1 : cells.all (·.oneCell') = true)
    (h : ∀ w', St w0 w' I' → K (a.put o.dst undef) w') : o.wp P a w K Q := by
  subst hnew
  have hin : It.bl g t old ∈ I := by
    obtain ⟨P, R, rfl, _⟩ := U.out.out
    simp
  have hb := (H.all _ hin).2
  replace hold := Nat.le_of_ble_eq_true hold
  have hrun : (storeVar ty ⟨g, p, none⟩ (.agg cells)).run P w = .ok () (w.setRow g (spl old p cells.toList)) := by
    have := run_storeCells_spl (P := P) g p t cells.toList 0 old w hb (by simp; omega) (fun v hv => (Array.all_eq_true_iff_forall_mem.1 h1) v (by simpa using hv))
    cases hq : P.info? ty with
    | none => simp [hq] at hi
    | some i =>
      have hs : cells.size = i.size := by simp [hq] at hi; omega
      simp only [Nat.add_zero] at this
      simp [storeVar, sizeOf, typeInfo, hq, Value.cells, hs, this]
  unfold Oper.wp execOp
  simp only [ho, hx, hy, Instr.storeAt, Instr.sureAddr, Sem.run_bind, Sem.run_pure, Result.andThen_ok, hrun]
  exact h _ (H.updB setRow_grown hb.setRow_)
end

section
variable {P : Program} {l : List Oper} {o : Oper} {a : Act} {w0 w : World} {I : List It} {Q : Exit → Act → World → Prop} {K : Act → World → Prop}
theorem startT {id : Nat} (hm : P.follows .mixedOrders = true) (h : wpAnyH P .any l.toArray Q (fun _ => True) l.length (Array.replicate l.length false) a w.drew) : (Code.region id l.toArray true).wp P Q a w := startH hm h
theorem wp_load1_st {g j : Nat} {t : TypeId} {cs : Array Value} {v : Value} (H : St w0 w I) (ty : TypeId) (x : Operand) (ho : o.op = .load ty x)
    (hx : a.eval x = .pointer (some ⟨g, j, none⟩)) [hm : HasB I g t cs] (hu : (match P.underlying ty with | some (.struct _) | some (.array _ _) | none => true | _ => false) = false) (hv : cs.toList[j]? = some v)
    (h : K (a.put o.dst v) w) : o.wp P a w K Q := by
  unfold Oper.wp
  rw [run_load1 (H.blk g) ty x ho hx hu hv]
  exact h
theorem wp_loadPart_st {g p m : Nat} {t : TypeId} {cs : Array Value} (H : St w0 w I) (ty : TypeId) (x : Operand) (ho : o.op = .load ty x)
    (hx : a.eval x = .pointer (some ⟨g, p, none⟩)) [hm : HasB I g t cs] (hu : (match P.underlying ty with | some (.struct _) | some (.array _ _) => true | _ => false) = true) (hi : (P.info? ty).map (·.size) = some m) (hsz : Nat.ble (p + m) cs.size = true)
    (ds : Array Value) (hds : cs.extract p (p + m) = ds) (h : K (a.put o.dst (.agg ds)) w) : o.wp P a w K Q := by
  subst hds
  unfold Oper.wp
  rw [run_loadPart (H.blk g) ty x ho hx hu hi (Nat.le_of_ble_eq_true hsz)]
  exact h
theorem wp_loadRow_st {g : Nat} {t : TypeId} {cs : Array Value} (H : St w0 w I) (ty : TypeId) (x : Operand) (ho : o.op = .load ty x)
    (hx : a.eval x = .pointer (some ⟨g, 0, none⟩)) [hm : HasB I g t cs] (hu : (match P.underlying ty with | some (.struct _) | some (.array _ _) => true | _ => false) = true) (hi : (P.info? ty).map (·.size) = some cs.size)
    (h : K (a.put o.dst (.agg cs)) w) : o.wp P a w K Q :=
  wp_loadPart_st (p := 0) (m := cs.size) H ty x ho hx hu hi (by simp) cs (by simp) h
end

section
variable {P : Program} {ops : Array Oper} {rest : List Oper} {o : Oper} {a : Act} {w0 w : World} {I I' : List It} {Q : Exit → Act → World → Prop}
theorem wpList_storePart2_st {g p : Nat} {t : TypeId} {old cells : Array Value} (H : St w0 w I) (hgd : o.guard = none) (ty : TypeId) (x y : Operand) (ho : o.op = .store ty x y)
    (hx : a.eval x = .pointer (some ⟨g, p, none⟩)) (hy : a.eval y = .agg cells) (new : Array Value) [U : UpdB I g t old new I'] (hnew : spl old p cells.toList = new) (hi : (P.info? ty).map (·.size) = some cells.size)
    (hold : Nat.ble (p + cells.size) old.size = true) (h1 : cells.all (·.oneCell') = true)
    (h : ∀ w', St w0 w' I' → wpList P ops Q rest (a.put o.dst undef) w') : wpList P ops Q (o :: rest) a w :=
  wpList_plain hgd fun _ hK => wp_storePart_st H ty x y ho hx hy new hnew hi hold h1 fun w' h' => hK _ _ (h w' h')
end

theorem St.loadRow {P : Program} {w0 w : World} {I : List It} (H : St w0 w I) (ty : TypeId) (g : Nat) {t : TypeId} {cs : Array Value} [hm : HasB I g t cs] (hu : (match P.underlying ty with | some (.struct _) | some (.array _ _) => true | _ => false) = true) (hi : (P.info? ty).map (·.size) = some cs.size) :
    (loadVar ty ⟨g, 0, none⟩).run P w = .ok (.agg cs) w := by
  cases hd : P.underlying ty with
  | none => simp [hd] at hu
  | some d =>
    rw [hd] at hu
    exact run_loadVar_row w g t ty cs (0, 0) d (H.blk g) hd (by cases d <;> simp_all) hi

section
variable {P : Program} {ops : Array Oper} {rest : List Oper} {o : Oper} {a : Act} {w0 w : World} {I : List It} {J : It → List It} {Q : Exit → Act → World → Prop}
theorem wpList_buildSlice1_st (H : St w0 w I) (hgd : o.guard = none) (t : TypeId) (x : Operand) (ho : o.op = .buildSlice t 1 #[(0, x)]) (e : TypeId) (ht : P.underlying t = some (.slice e)) (cs : Array Value) (hx : a.eval x = .agg cs) (z : Value) (hi : (P.info? e).map (fun i => (i.zero, i.size)) = some (some z, cs.size)) (h0 : Nat.blt 0 cs.size = true) (hsm : Nat.ble cs.size 1000 = true)
    (h : ∀ g w', St w0 w' (.bl g e cs :: I) → wpList P ops Q rest (a.put o.dst (.slice (some ⟨g, 0, none⟩) 1 1)) w') : wpList P ops Q (o :: rest) a w :=
  wpList_plain hgd fun _ hK => wp_buildSlice1_st H t x ho e ht cs hx z hi h0 hsm fun g w' H' => hK _ _ (h g w' H')
theorem wpList_appendB_st {g : Nat} {v : Value} {e : TypeId} {size n : Nat} {xs : List Value} {cs : Array Value} (H : St w0 w I) (hgd : o.guard = none) (s x : Operand) (t : TypeId)
    (ho : o.op = .call { callee := .builtin .append, args := #[s, x], argTypes := #[t, t] }) (hs : a.eval s = v) (hx : a.eval x = .slice (some ⟨g, 0, none⟩) 1 1)
    (ht : P.underlying t = some (.slice e)) [hb : HasB I g e cs] [hr : RepO I e v size n xs J] (z : Value) (bytes : Nat) (hi : (P.info? e).map (fun i => (i.zero, i.size, i.bytes)) = some (some z, size, bytes))
    (hzs : z.cells.size = size) (hsz : Nat.blt 0 size = true) (hcs : cs.size = size) (h1 : cs.all (·.oneCell') = true)
    (h63 : n + 1 ≤ maxLen) (hbytes : (n + 1) * bytes ≤ 140737488355328)
    (hk : ∀ A c w', n + 1 ≤ c → c ≤ maxLen → St w0 w' (J (.ow e size (.slice A (n + 1) c) (n + 1) (xs ++ cs.toList))) → wpList P ops Q rest (a.put o.dst (.slice A (n + 1) c)) w') : wpList P ops Q (o :: rest) a w :=
  wpList_plain hgd fun _ hK => wp_appendB_st H s x t ho hs hx ht z bytes hi hzs hsz hcs h1 h63 hbytes fun A c w' k1 k2 H' => hK _ _ (hk A c w' k1 k2 H')
end
theorem off_of_mem {x z : It} : ∀ {I : List It}, I.Pairwise It.off → x ∈ I → z ∈ I → x ≠ z → x.off z
  | [], _, hx, _, _ => by cases hx
  | a :: I, hp, hx, hz, hne => by
    obtain ⟨h1, h2⟩ := List.pairwise_cons.1 hp
    cases hx with
    | head => cases hz with
      | head => exact absurd rfl hne
      | tail _ hz' => exact h1 z hz'
    | tail _ hx' => cases hz with
      | head => exact (h1 x hx').symm
      | tail _ hz' => exact off_of_mem h2 hx' hz' hne
/-- a part of what is read -/
theorem St.again {w0 w : World} {I : List It} {s s' n n' : Nat} {A A' : Option Addr} {xs xs' : List Value} (H : St w0 w I) [h : Has I (.rd s A n xs)] (hy : Reads w w.heap.size s' A' n' xs') (ha : ∀ g, (It.rd s' A' n' xs').area = some g → (It.rd s A n xs).area = some g) : St w0 w (.rd s' A' n' xs' :: I) := by
  refine ⟨H.bel, fun x hx => ?_, List.pairwise_cons.2 ⟨fun z hz hw g h1 h2 => ?_, H.apart⟩⟩
  · rcases List.mem_cons.1 hx with rfl | hx
    · exact hy
    · exact H.all x hx
  · have hzw : z.wr = true := by
      rcases hw with hw | hw
      · cases hw
      · exact hw
    have hne : It.rd s A n xs ≠ z := fun e => by rw [← e] at hzw; cases hzw
    exact off_of_mem H.apart h.mem hz hne (.inr hzw) g (ha g h1) h2

section
variable {P : Program} {o : Oper} {a : Act} {w0 w : World} {I : List It} {J : It → List It} {Q : Exit → Act → World → Prop} {K : Act → World → Prop}
theorem wp_append_st {v : Value} {e : TypeId} {size n m c : Nat} {A : Option Addr} {xs news : List Value} (H : St w0 w I) (s x : Operand) (t : TypeId)
    (ho : o.op = .call { callee := .builtin .append, args := #[s, x], argTypes := #[t, t] }) (hs : a.eval s = v) (hx : a.eval x = .slice A m c)
    (ht : P.underlying t = some (.slice e)) [h : RepO I e v size n xs J] (z : Value) (bytes : Nat) (hi : (P.info? e).map (fun i => (i.zero, i.size, i.bytes)) = some (some z, size, bytes))
    (hzs : z.cells.size = size) (hsz : 0 < size) (hr : Reads w w.heap.size size A m news) (h1 : ∀ u ∈ news, u.oneCell' = true)
    (h63 : n + m ≤ maxLen) (hbytes : (n + m) * bytes ≤ 140737488355328)
    (hk : ∀ A c w', n + m ≤ c → c ≤ maxLen → St w0 w' (J (.ow e size (.slice A (n + m) c) (n + m) (xs ++ news))) → K (a.put o.dst (.slice A (n + m) c)) w') : o.wp P a w K Q := by
  cases hq : P.info? e with
  | none => simp [hq] at hi
  | some i =>
    simp only [hq, Option.map_some, Option.some.injEq, Prod.mk.injEq] at hi
    refine wp_append_any _ s x t ho w0.heap.size e i z size bytes ht hq hi.1 hi.2.1 hi.2.2 hzs hsz v n xs hs (H.own e v) _ _ m c news hx hr h1 h63 hbytes H.bel.size fun v' w' ho' hg' hv' => ?_
    obtain ⟨A', c', rfl, hc1, hc2⟩ := own_shape ho'
    exact hk A' c' w' hc1 hc2 (H.appended ho' hg' hv')
end

end Go.Proofs.YtjakmpkfniangaaDoor
