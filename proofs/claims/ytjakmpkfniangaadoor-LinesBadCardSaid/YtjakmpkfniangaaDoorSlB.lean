/- Parts of slices: what 'x[l:h:m]' is, and the facts on the part. -/
import Derived.Deep.RegionHeld3
import Derived.Deep.DeepCutAuto
import Derived.Test.YtjakmpkfniangaaDoorStT
namespace Go.Proofs.YtjakmpkfniangaaDoor
open Go.RowKit

/-- where the part from place l on begins, if m places are left of it and what is ahead -/
def subA (A : Option Addr) (l m s : Nat) : Option Addr := if m = l then A else A.map (·.add (l * s))
/-- a bound: given as a number, or left out (then it is d) -/
def BndIs (o : Option Value) (k d : Nat) : Prop := (∃ x : Int, o = some (.int .i64 x) ∧ x = (k : Int)) ∨ (o = none ∧ k = d)
theorem run_sliceBound {P : Program} (x : Int) (k y : Nat) (code : BoundsCode) (w : World) (hx : x = (k : Int)) (hk : k ≤ y) : (Instr.sliceBound (.int .i64 x) y code).run P w = .ok k w := by
  subst hx
  have h : (0 : Int) ≤ (k : Int) ∧ (k : Int) ≤ (y : Int) := ⟨by omega, by omega⟩
  simp [Instr.sliceBound, go_sem, h]
theorem run_sliceAt_sl {P : Program} (t e : TypeId) (s : Nat) (ht : P.underlying t = some (.slice e)) (hi : (P.info? e).map (·.size) = some s) (A : Option Addr) (n c : Nat) (lo hi_ mx : Option Value) (l h m : Nat)
    (hlo : BndIs lo l 0) (hhi : BndIs hi_ h n) (hmx : BndIs mx m c) (hxx : hi_ = none → mx = none) (h1 : l ≤ h) (h2 : h ≤ m) (h3 : m ≤ c) (w : World) :
    (Instr.sliceAt t (.slice A n c) lo hi_ mx).run P w = .ok (.slice (subA A l m s) (h - l) (m - l)) w := by
  have hs : (sizeOf e).run P w = .ok s w := by
    cases hq : P.info? e with
    | none => simp [hq] at hi
    | some i =>
      have : i.size = s := by simpa [hq] using hi
      simp [sizeOf, typeInfo, hq, this]
  have hb : ∀ (W : World), (Instr.sliceBounds true n c lo hi_ mx).run P W = .ok (l, h, m) W := by
    intro W
    unfold Instr.sliceBounds
    rcases hmx with ⟨z, rfl, hz⟩ | ⟨rfl, rfl⟩
    · rcases hhi with ⟨y, rfl, hy⟩ | ⟨rfl, rfl⟩
      · rcases hlo with ⟨x, rfl, hx⟩ | ⟨rfl, rfl⟩
        · simp [Sem.run_bind, run_sliceBound z m c _ W hz h3, run_sliceBound y h m _ W hy h2, run_sliceBound x l h _ W hx h1]
        · simp [Sem.run_bind, run_sliceBound z m c _ W hz h3, run_sliceBound y h m _ W hy h2]
      · cases hxx rfl
    · rcases hhi with ⟨y, rfl, hy⟩ | ⟨rfl, rfl⟩
      · rcases hlo with ⟨x, rfl, hx⟩ | ⟨rfl, rfl⟩
        · simp [Sem.run_bind, run_sliceBound y h m _ W hy h2, run_sliceBound x l h _ W hx h1]
        · simp [run_sliceBound y h m _ W hy h2]
      · rcases hlo with ⟨x, rfl, hx⟩ | ⟨rfl, rfl⟩
        · simp [run_sliceBound x l h _ W hx h1]
        · simp
  unfold Instr.sliceAt Instr.slice
  rw [Sem.run_bind, run_underlying ht w]
  simp only [Result.andThen_ok]
  rw [Sem.run_bind, run_underlying ht w]
  simp only [Result.andThen_ok]
  rw [Sem.run_bind, hb]
  simp only [Result.andThen_ok]
  rw [Sem.run_bind, hs]
  simp only [Result.andThen_ok, Sem.run_pure]
  rfl

section
variable {P : Program} {ops : Array Oper} {rest : List Oper} {o : Oper} {a : Act} {w0 w : World} {I : List It} {Q : Exit → Act → World → Prop}
theorem run_exec_slice {t e : TypeId} {s : Nat} {x : Operand} {lo hi_ mx : Option Operand} (ho : o.op = .slice t x lo hi_ mx) (ht : P.underlying t = some (.slice e)) (hi : (P.info? e).map (·.size) = some s) {A : Option Addr} {n c : Nat} (hx : a.eval x = .slice A n c) (l h m : Nat)
    (hlo : BndIs (lo.map a.eval) l 0) (hhi : BndIs (hi_.map a.eval) h n) (hmx : BndIs (mx.map a.eval) m c) (hxx : hi_.map a.eval = none → mx.map a.eval = none) (h1 : l ≤ h) (h2 : h ≤ m) (h3 : m ≤ c) (w : World) :
    (execOp a.eval o).run P w = .ok (.value (.slice (subA A l m s) (h - l) (m - l))) w := by
  unfold execOp
  simp only [ho, hx, Sem.run_bind, run_sliceAt_sl t e s ht hi A n c _ _ _ l h m hlo hhi hmx hxx h1 h2 h3 w, Result.andThen_ok, Sem.run_pure]
theorem wpList_slice_st {t e : TypeId} {s : Nat} {x : Operand} {lo hi_ mx : Option Operand} (hgd : o.guard = none) (ho : o.op = .slice t x lo hi_ mx) (ht : P.underlying t = some (.slice e)) (hi : (P.info? e).map (·.size) = some s) {A : Option Addr} {n c : Nat} (hx : a.eval x = .slice A n c) (l h m : Nat)
    (hlo : BndIs (lo.map a.eval) l 0) (hhi : BndIs (hi_.map a.eval) h n) (hmx : BndIs (mx.map a.eval) m c) (hxx : hi_.map a.eval = none → mx.map a.eval = none) (h1 : l ≤ h) (h2 : h ≤ m) (h3 : m ≤ c) (q r : Nat) (hq : h - l = q) (hqr : m - l = r)
    (hk : wpList P ops Q rest (a.put o.dst (.slice (subA A l m s) q r)) w) : wpList P ops Q (o :: rest) a w :=
  wpList_plain hgd fun _ hK => by
    subst hq hqr
    unfold Oper.wp
    simp only [run_exec_slice ho ht hi hx l h m hlo hhi hmx hxx h1 h2 h3 w]
    exact hK _ _ hk
theorem here_slice {t : TypeId} {x : Operand} {lo hi_ mx : Option Operand} {d : Option Tmp} {ty : TypeId} {p : String} {af : Array Edge} {gd : Option (Nat × Bool)} (h : wpList P ops Q (⟨d, .slice t x lo hi_ mx, ty, p, af, gd⟩ :: rest) a w) : wpList P ops Q (⟨d, .slice t x lo hi_ mx, ty, p, af, gd⟩ :: rest) a w := h
end
section
variable {P : Program} {md : Region.Mode} {l : List Oper} {Q : Exit → Act → World → Prop} {S : World → Prop} {fuel : Nat} {listed : Array Bool} {a : Act} {w : World}
theorem takeSlice {i : Nat} {oi : Oper} {rest : List Oper} {t e : TypeId} {s : Nat} {x : Operand} {lo hi_ mx : Option Operand} (hi : l.drop i = oi :: rest) (ho : oi.op = .slice t x lo hi_ mx) (ht : P.underlying t = some (.slice e)) (hsz : (P.info? e).map (·.size) = some s) {A : Option Addr} {n c : Nat} (hx : a.eval x = .slice A n c) (k h m : Nat)
    (hlo : BndIs (lo.map a.eval) k 0) (hhi : BndIs (hi_.map a.eval) h n) (hmx : BndIs (mx.map a.eval) m c) (hxx : hi_.map a.eval = none → mx.map a.eval = none) (h1 : k ≤ h) (h2 : h ≤ m) (h3 : m ≤ c)
    (q r : Nat) (hq : h - k = q) (hqr : m - k = r) (hs : Region.noSelect l.toArray = true) (hf : Region.free md l.toArray listed i = true) (hr : (Region.ready md l.toArray listed).contains i = true)
    (hQ : ∀ c a v w, Q (.panic c) (a.put oi.dst v) w → Q (.panic c) a w) (hw : Region.wanted oi (yielded l.toArray a.tmps) = true) (hS : S w)
    (hk : wpAnyH P md l.toArray Q S fuel (listed.setIfInBounds i true) (a.put oi.dst (.slice (subA A k m s) q r)) w) : wpAnyH P md l.toArray Q S (fuel + 1) listed a w :=
  takeV hi hs hf hr (fun c a w => hQ c a _ w) hw (fun W _ => by rw [← hq, ← hqr]; exact run_exec_slice ho ht hsz hx k h m hlo hhi hmx hxx h1 h2 h3 W) hS hk
theorem takeSkip {i : Nat} {oi : Oper} {rest : List Oper} (hi : l.drop i = oi :: rest)
    (hs : Region.noSelect l.toArray = true) (hf : Region.free md l.toArray listed i = true) (hr : (Region.ready md l.toArray listed).contains i = true)
    (hQ : ∀ c a v w, Q (.panic c) (a.put oi.dst v) w → Q (.panic c) a w) (hw : Region.wanted oi (yielded l.toArray a.tmps) = false) (hS : S w)
    (hk : wpAnyH P md l.toArray Q S fuel (listed.setIfInBounds i true) (a.put oi.dst undef) w) : wpAnyH P md l.toArray Q S (fuel + 1) listed a w :=
  wpAnyH_take (at_of_drop hi) hs hf hr (fun c a w => hQ c a _ w) (.inr ⟨hw, rfl⟩) hS hk
end


end Go.Proofs.YtjakmpkfniangaaDoor
