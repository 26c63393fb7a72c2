/- A range over strings.Lines, over St. -/
import Derived.BigQuiet
import Derived.BigRegion
import Derived.Deep.DeepCutAuto
import Derived.Deep.QuietTactic
import Derived.Deep.RegionHeld3
import Derived.StillTailTactics
import Derived.Test.YtjakmpkfniangaaDoorLns
namespace Go.Proofs.YtjakmpkfniangaaDoor
open Go.RowKit

set_option linter.unusedVariables false
/-- how a round's body ends -/
def RBPost {τ σ : Type} (w0 : World) (l D gs : Nat) (r : Loop) (Ix : τ → List It) (Ik : σ → List It) (Hn : τ → Prop) (Sp : σ → Prop) (rest : ByteArray) (e : Exit) (a : Act) (W' : World) : Prop :=
  match e with
  | .normal => ∃ t', Hn t' ∧ St w0 W' (.raw l (.loop r) :: .raw D (.deferred (some [])) :: .bl gs 9 #[.string rest] :: Ix t')
  | .ret => ∃ k, Sp k ∧ St w0 W' (.raw l (.loop r) :: .raw D (.deferred (some [])) :: Ik k)
  | _ => False
theorem RBPost.keeps {τ σ : Type} {w0 : World} {l D gs : Nat} {r : Loop} {Ix : τ → List It} {Ik : σ → List It} {Hn : τ → Prop} {Sp : σ → Prop} {rest : ByteArray} : ¬ LetsOut (RBPost w0 l D gs r Ix Ik Hn Sp rest) := fun ⟨_, _, h⟩ => h
theorem then_keeps {K : Act → World → Prop} {Q : Exit → Act → World → Prop} (h : ¬ LetsOut Q) : ¬ LetsOut (Exit.then K Q) := fun ⟨a, w, k⟩ => h ⟨a, w, k⟩
theorem inBlock_keeps {id : Nat} {Q : Exit → Act → World → Prop} (h : ¬ LetsOut Q) : ¬ LetsOut (Exit.inBlock id Q) := fun ⟨a, w, k⟩ => h ⟨a, w, k⟩
def markOf (D : Nat) (a : Act) : Act := { a with defers := { target := .collected D, args := #[] } :: a.defers }
theorem wp_rangeLines {τ σ : Type} {g : Operand} {p : Tmp} {asg bd : Code} {Q : Exit → Act → World → Prop} {a : Act} {w0 w : World} {gs N : Nat} (Ix : τ → List It) (Ik : σ → List It) (Hv : ByteArray → τ → Prop) (Sp : σ → Prop) (a₁ : ByteArray → Act)
    (hg : a.eval g = .func (.func 19) #[] #[.pointer (some ⟨gs, 0, none⟩)]) (hN : N ≤ 4000000) (s : ByteArray) (t : τ) (hs : s.size ≤ N) (h0 : Hv s t) (H : St w0 w (.bl gs 9 #[.string s] :: Ix t))
    (hassign : ∀ (l : Nat) (line : ByteArray) (W : World) (K : Act → World → Prop), K (a₁ line) W → asg.wpIn (Fence.wide.inRound l) 0 Tryd.prog (Exit.then K (fun _ _ _ => False)) { tmps := a.tmps.setIfInBounds p (.string line), defers := [] } W)
    (hbody : ∀ (l D : Nat) (r : Loop) (s : ByteArray) (t : τ) (W : World), s.size ≤ N → 0 < s.size → Hv s t → St w0 W (.raw l (.loop r) :: .raw D (.deferred (some [])) :: .bl gs 9 #[.string (cutLn s).2] :: Ix t) → bd.wpIn (Fence.wide.inRound l) 0 Tryd.prog (RBPost w0 l D gs r Ix Ik (Hv (cutLn s).2) Sp (cutLn s).2) (a₁ (cutLn s).1) W)
    (hdone : ∀ (D : Nat) (t : τ) (W : World), Hv ⟨#[]⟩ t → St w0 W (.raw D (.deferred (some [])) :: .bl gs 9 #[.string ⟨#[]⟩] :: Ix t) → Q .normal (markOf D a) W)
    (hstop : ∀ (D : Nat) (k : σ) (W : World), Sp k → St w0 W (.raw D (.deferred (some [])) :: Ik k) → Q .ret (markOf D a) W) :
    (Code.rangeFunc g #[p] asg bd).wp Tryd.prog Q a w := by
  refine (wpIn_wide (n := 0)).1 (wpIn_rangeFunc ?_)
  intro fn _
  obtain ⟨rec, hrec⟩ : ∃ rec : LoopState → Option Code → Loop, rec = fun st pe => { state := st, pending := pe, fn, tmps := a.tmps, params := #[p], assign := asg, body := bd, defers := w.heap.size } := ⟨_, rfl⟩
  have H1 := H.newRaw (.deferred (some []))
  have H2 := H1.newRaw (.loop (rec .ready none))
  obtain ⟨W1, hW1⟩ : ∃ W1, (w.alloc (.deferred (some []))).alloc (.loop (rec .ready none)) = W1 := ⟨_, rfl⟩
  rw [hW1, World.size_alloc] at H2
  obtain ⟨l, hl⟩ : ∃ l, w.heap.size + 1 = l := ⟨_, rfl⟩
  obtain ⟨D, hD⟩ : ∃ D, w.heap.size = D := ⟨_, rfl⟩
  rw [hl, hD] at H2
  refine ⟨l, [{ target := .collected D, args := #[] }], W1, { target := .fn (.func 19) #[.pointer (some ⟨gs, 0, none⟩)], args := #[.func (.yield l) #[] #[]] }, W1, 19, #[.func (.yield l) #[] #[], .pointer (some ⟨gs, 0, none⟩)], W1, ?_, ?_, fun f' hf' => trivial, ?_, fun h => (by cases h), ?_⟩
  · rw [← hW1, hrec, ← hl, ← hD]
    exact run_enterLoop_outer _ _ _ _ _
  · simp only [resolve, hg]
    simp [go_sem]
  · simp [invoke, go_sem]
  refine callsIn_wide.2 ((lines1_st (w0 := w0) l gs N (fun t => .raw l (.loop (rec .ready none)) :: .raw D (.deferred (some [])) :: Ix t) Hv (fun W' => ∃ k, Sp k ∧ St w0 W' (.raw l (.loop (rec .done (some .ret))) :: .raw D (.deferred (some [])) :: Ik k)) hN ?_ s t hs h0 (H2.subm _)).mono ?_)
  · intro s t W hsN hs0 hv H
    have hL := H.raw (g := l) (o := .loop (rec .ready none))
    have hy : (Instr.yield l #[.string (cutLn s).1]).run Tryd.prog W = .ok (.round l fn (a.tmps.setIfInBounds p (.string (cutLn s).1)) asg bd) W := by
      have hy := run_yield (P := Tryd.prog) (args := #[.string (cutLn s).1]) hL (by rw [hrec]; rfl)
      rw [hrec] at hy
      simpa using hy
    refine ⟨_, _, _, _, hy, roundIn_of_wpIn trivial ?_⟩
    refine hassign l (cutLn s).1 W _ ?_
    refine ⟨_, run_beginRound hL (by rw [hrec]), ?_⟩
    have H3 := H.putRaw (g := l) (o := .loop (rec .ready none)) (o' := .loop { rec .ready none with state := .busy })
    refine wpIn_mono (hbody l D { rec .ready none with state := .busy } s t _ hsN hs0 hv (H3.subm _)) ?_
    intro e a' W' hp
    cases e with
    | normal =>
      obtain ⟨t', hn, H4⟩ := hp
      have hL4 := H4.raw (g := l) (o := .loop { rec .ready none with state := .busy })
      have hr := run_endRound (P := Tryd.prog) none hL4
      have H5 := H4.putRaw (g := l) (o := .loop { rec .ready none with state := .busy }) (o' := .loop { ({ rec .ready none with state := .busy } : Loop) with state := .ready, pending := none })
      refine ⟨_, _, hr, .inl ⟨rfl, t', hn, ?_⟩⟩
      rw [hrec] at H5 ⊢
      exact H5.subm _
    | ret =>
      obtain ⟨k, hn, H4⟩ := hp
      have hL4 := H4.raw (g := l) (o := .loop { rec .ready none with state := .busy })
      have hr := run_endRound (P := Tryd.prog) (some .ret) hL4
      have H5 := H4.putRaw (g := l) (o := .loop { rec .ready none with state := .busy }) (o' := .loop { ({ rec .ready none with state := .busy } : Loop) with state := .done, pending := some .ret })
      refine ⟨_, _, hr, .inr ⟨rfl, k, hn, ?_⟩⟩
      rw [hrec] at H5 ⊢
      exact H5
    | exit id => exact hp.elim
    | goto t => exact hp.elim
    | panic c => exact hp.elim
    | outgrown => exact hp.elim
  · rintro e W' ⟨⟨v, rfl⟩, ⟨t', hv', H'⟩ | ⟨k, hk, H'⟩⟩
    · have hL := H'.raw (g := l) (o := .loop (rec .ready none))
      refine ⟨_, _, run_endLoop hL (by rw [hrec]; simp), ?_⟩
      have H6 := H'.putRaw (g := l) (o := .loop (rec .ready none)) (o' := .loop { rec .ready none with state := .exhausted })
      rw [hrec]
      rw [hrec] at H6
      exact hdone D t' _ hv' (H6.subm _)
    · have hL := H'.raw (g := l) (o := .loop (rec .done (some .ret)))
      refine ⟨_, _, run_endLoop hL (by rw [hrec]; simp), ?_⟩
      have H6 := H'.putRaw (g := l) (o := .loop (rec .done (some .ret))) (o' := .loop { rec .done (some .ret) with state := .exhausted })
      rw [hrec]
      rw [hrec] at H6
      exact wpIn_ret (hstop D k _ hk (H6.subm _))

end Go.Proofs.YtjakmpkfniangaaDoor
