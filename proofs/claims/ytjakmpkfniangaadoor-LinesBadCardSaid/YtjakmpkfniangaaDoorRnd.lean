/- A round's operations: what is walked as everywhere is walked in a round, too. -/
import Derived.RangeFuncNested
import Derived.RangeFuncCalls
import Derived.RangeFuncIn
import Derived.OwnWalkIn
import Derived.Test.YtjakmpkfniangaaDoorStT
namespace Go.Proofs.YtjakmpkfniangaaDoor
open Go.RowKit
section
variable {P : Program} {a : Act} {w : World} {n : Nat}
theorem callsIn_round {f : FuncId} {args : Array Value} {R : Ending → World → Prop} (l : Nat) (h : Calls P f args w R) : CallsIn (Fence.wide.inRound l) n P f args w R := CallsIn.inRound l (callsIn_wide.2 h)
theorem rowsIn_round {row : String} {args : Array Value} {R : Value → World → Prop} (l : Nat) (h : Rows P row args w R) : RowsIn (Fence.wide.inRound l) n P row args w R :=
  fun c cs _ => let ⟨v, w', r, s⟩ := h c cs; ⟨v, w', r, stepsIn_wide.2 s⟩
theorem uponIn_of_upon {o : Oper} {K : Act → World → Prop} {Q : Exit → Act → World → Prop} (l : Nat) (r : Result Next) (h : o.upon P a K Q r) : o.uponIn (Fence.wide.inRound l) n P a K Q r := by
  match r, h with
  | .ok (.value v) w', h => exact h
  | .ok .skip w', h => exact h
  | .ok (.defer d) w', h => exact h
  | .ok (.enter f args) w', h => exact ⟨fun h0 => (by cases h0), (callsIn_round l h).mono (fun e w h => h)⟩
  | .ok (.row row args) w', h => exact ⟨fun h0 => (by cases h0), rowsIn_round l h⟩
  | .halt (.panic v) w', h => exact h
theorem wpIn_of_wp {o : Oper} {K : Act → World → Prop} {Q : Exit → Act → World → Prop} (l : Nat) (hd : ∀ c, o.op ≠ .defer c) (h : o.wp P a w K Q) : o.wpIn (Fence.wide.inRound l) n P a w K Q := by
  refine ⟨fun f hf => trivial, ?_⟩
  show o.uponIn (Fence.wide.inRound l) n P a K Q ((o.semAt (some l) a.eval).run P w)
  rw [Oper.semAt_some l _ _ hd]
  exact uponIn_of_upon l _ h
/-- no operation of the list is a defer statement -/
def noDefer (l : List Oper) : Bool := l.all fun o => match o.op with
  | .defer _ => false
  | _ => true
theorem listIn_of_list {ops : Array Oper} {Q : Exit → Act → World → Prop} (r : Nat) (hq : ¬ LetsOut Q) : ∀ (l : List Oper) (a : Act) (w : World), noDefer l = true → wpList P ops Q l a w → wpListIn (Fence.wide.inRound r) n P ops Q l a w
  | [], a, w, _, h => h
  | o :: rest, a, w, hd, h => by
    simp only [noDefer, List.all_cons, Bool.and_eq_true] at hd
    simp only [wpList] at h
    simp only [wpListIn]
    split
    · rename_i hw
      rw [if_pos hw] at h
      rcases h with h | h
      · exact Oper.wpIn_mono (fun a w k => listIn_of_list r hq rest a w hd.2 k) (wpIn_of_wp r (fun c hc => by rw [hc] at hd; cases hd.1) h)
      · exact (hq h.2).elim
    · rename_i hw
      rw [if_neg hw] at h
      exact ⟨fun f hf => trivial, listIn_of_list r hq rest _ w hd.2 h⟩
/-- a region of a round's body, walked as everywhere -/
theorem regionIn_of {Q : Exit → Act → World → Prop} {id : Nat} {l : List Oper} (r : Nat) (hq : ¬ LetsOut Q) (hd : noDefer l = true) (h : wpList P l.toArray Q l a w) : (Code.region id l.toArray false).wpIn (Fence.wide.inRound r) n P Q a w :=
  wpIn_region_lit (listIn_of_list r hq l a w hd h)
theorem noDefer_at {l : List Oper} (hd : noDefer l = true) {i : Nat} {o : Oper} (h : l.toArray[i]? = some o) : ∀ c, o.op ≠ .defer c := by
  intro c hc
  have hm : o ∈ l := List.mem_of_getElem? (by simpa using h)
  have := List.all_eq_true.1 hd o hm
  rw [hc] at this
  cases this
theorem anyIn_of_any {md : Region.Mode} {l : List Oper} {Q : Exit → Act → World → Prop} (r : Nat) (hq : ¬ LetsOut Q) (hd : noDefer l = true) : ∀ (fuel : Nat) (listed : Array Bool) (a : Act) (w : World), wpAny P md l.toArray Q fuel listed a w → wpAnyIn (Fence.wide.inRound r) n P md l.toArray Q fuel listed a w
  | 0, _, _, _, h => h
  | fuel + 1, listed, a, w, h => ⟨h.1, fun i hi => by
      have h2 := h.2 i hi
      unfold wpOp at h2
      unfold wpOpIn
      cases ho : l.toArray[i]? with
      | none =>
        rw [ho] at h2
        exact anyIn_of_any r hq hd fuel _ a w h2
      | some o =>
        rw [ho] at h2
        dsimp only at h2 ⊢
        split
        · rename_i hw
          rw [if_pos hw] at h2
          rcases h2 with h2 | h2
          · exact Oper.wpIn_mono (fun a w k => anyIn_of_any r hq hd fuel _ a w k) (wpIn_of_wp r (noDefer_at hd ho) h2)
          · exact (hq h2.2).elim
        · rename_i hw
          rw [if_neg hw] at h2
          exact ⟨fun f hf => trivial, anyIn_of_any r hq hd fuel _ _ w h2⟩⟩
/-- a region of a round's body that draws its order, walked as everywhere -/
theorem regionIn_of_held {S : World → Prop} {Q : Exit → Act → World → Prop} {id : Nat} {l : List Oper} (r : Nat) (hq : ¬ LetsOut Q) (hd : noDefer l = true) (hm : P.follows .mixedOrders = true)
    (h : wpAnyH P .any l.toArray Q S l.length (Array.replicate l.length false) a w.drew) : (Code.region id l.toArray true).wpIn (Fence.wide.inRound r) n P Q a w :=
  wpIn_region_any hm (anyIn_of_any r hq hd _ _ _ _ (wpAny_of_held _ _ _ _ (by simpa using h)))
end
end Go.Proofs.YtjakmpkfniangaaDoor
