/- slices.Equal of events. -/
import Derived.Test.YtjgbkicnagcmdaaHCom
namespace Go.Proofs.Ytjgbkicnagcmdaa
open Go.RowKit

theorem ev_ne_val (e f : Ev) (hef : e ≠ f) (w : World) : (binOp .neq 37 e.val f.val).run Try.prog w = .ok (.bool true) w := by
  have hq := ev_neq e.kind e.prod e.id e.body e.hep e.hno f.kind f.prod f.id f.body f.hep f.hno w
  rw [evNe_of hef] at hq
  exact hq
theorem same_of_getD {es fs : List Ev} (hl : es.length = fs.length) (h : ∀ j, j < es.length → es.getD j .zero0 = fs.getD j .zero0) : es = fs := by
  apply List.ext_getElem hl
  intro i h1 h2
  have := h i h1
  simpa [List.getD, h1, h2] using this
def EqOk (v : Bool) (es fs : List Ev) : Prop := v = true ↔ es = fs
def EqPost (w0 : World) (I : List It) (es fs : List Ev) (ed : Ending) (w' : World) : Prop :=
  ∃ v, ed = .returned (.bool v) ∧ EqOk v es fs ∧ St w0 w' I
set_option maxRecDepth 100000 in
set_option maxHeartbeats 8000000 in
theorem eqEv_st {w0 w : World} {I : List It} (es fs : List Ev) (A B : Option Addr) (n c d : Nat) (hn : es.length = n) (hm : fs.length = n) (H : St w0 w I) [h1 : Has I (evIt A es)] [h2 : Has I (evIt B fs)]
    (hn1 : n ≤ 1000) (hc : n ≤ c) (hd : n ≤ d) :
    Calls Try.prog 47 #[.slice A n c, .slice B n d] w (EqPost w0 I es fs) := by
  have HF := Lib.hid (show ∀ v W, EqOk v es fs → St w0 W I → EqPost w0 I es fs (Ending.returned (.bool v)) W from fun v W h1 h2 => ⟨v, rfl, h1, h2⟩)
  generalize EqPost w0 I es fs = POST at *
  have HI := Lib.hid (show Has I (evIt A es) ∧ Has I (evIt B fs) from ⟨h1, h2⟩)
  have HN := Lib.hid hn
  have HM := Lib.hid hm
  clear h1 h2 hn hm
  go_enter Try.func47, Try.ntmps47
  go_upto_region 4 with fail
  go_loopw [13] (fun s13 wr => ∃ (i : Nat), i ≤ n ∧ s13 = .int .i64 i ∧ (∀ j, j < i → es.getD j .zero0 = fs.getD j .zero0) ∧ St w0 wr I) (fun s13 _ => n - (intOf s13).toNat)
  case atStart => exact ⟨0, by omega, rfl, fun j hj => absurd hj (by omega), H⟩
  case round =>
    clear H
    obtain ⟨i, hi, rfl, hall, H⟩ := hrel
    have HALL := Lib.hid hall
    clear hall
    by_cases hlt : i < n
    · obtain ⟨h1, h2⟩ := HI.out
      obtain ⟨b, off, hA, hb, q0, q1, q2, q3, q4, q5⟩ := qevAt (H.get (evIt A es)) rfl (show i < es.length by rw [HN.out]; exact hlt)
      obtain ⟨b', off', hB, hb', r0, r1, r2, r3, r4, r5⟩ := qevAt (H.get (evIt B fs)) rfl (show i < fs.length by rw [HM.out]; exact hlt)
      clear h1 h2
      subst hA
      have HB := Lib.hid hB
      clear hB
      obtain rfl := HB.out
      obtain ⟨e, he⟩ : ∃ e, es.getD i .zero0 = e := ⟨_, rfl⟩
      obtain ⟨f, hf⟩ : ∃ f, fs.getD i .zero0 = f := ⟨_, rfl⟩
      have HE := Lib.hid he
      have HG := Lib.hid hf
      rw [he] at q0 q1 q2 q3 q4 q5
      rw [hf] at r0 r1 r2 r3 r4 r5
      have k6 : (0 : Int) ≤ (i : Int) := by omega
      have k7 : (i : Int) < (n : Int) := by omega
      have k8 : (n : Int) ≤ (c : Int) := by omega
      have k9 : (n : Int) ≤ (d : Int) := by omega
      have w1 : IntKind.i64.wrap ((i : Int) + 1) = (i : Int) + 1 := IntWalk.i64_in _ (by omega)
      have HH := Lib.hid H
      have HLT := Lib.hid hlt
      clear hb hb' he hf hlt HB
      by_cases hef : e = f
      · subst hef
        have hq := ev_neq e.kind e.prod e.id e.body e.hep e.hno e.kind e.prod e.id e.body e.hep e.hno
        rw [evNe_self] at hq
        obtain ⟨e0, e1, e2, e3, e4, e5⟩ := e
        dsimp only at q0 q1 q2 q3 q4 q5 r0 r1 r2 r3 r4 r5 hq
        go_upto_region 6 with fail
        clear H
        go_quiet (fail)
        have H := HH.out.drewN nq
        clear HH q0 q1 q2 q3 q4 q5 r0 r1 r2 r3 r4 r5 hq
        go_wp2_with fail
        go_roundw
        case rel =>
          refine ⟨i + 1, by have := HLT.out; omega, by go_num, fun j hj => ?_, H⟩
          rcases Nat.lt_succ_iff_lt_or_eq.1 hj with h | rfl
          · exact HALL.out j h
          · rw [HE.out, HG.out]
        case measure => have := HLT.out; simp [intOf]; omega
      · have hq := ev_neq e.kind e.prod e.id e.body e.hep e.hno f.kind f.prod f.id f.body f.hep f.hno
        rw [evNe_of hef] at hq
        have HC := Lib.hid (show EqOk false es fs from ⟨fun h => (by cases h), fun h => absurd (by rw [← HE.out, ← HG.out, h]) hef⟩)
        clear HE HG hef
        obtain ⟨e0, e1, e2, e3, e4, e5⟩ := e
        obtain ⟨f0, f1, f2, f3, f4, f5⟩ := f
        dsimp only at q0 q1 q2 q3 q4 q5 r0 r1 r2 r3 r4 r5 hq
        go_upto_region 6 with fail
        clear H
        go_quiet (fail)
        have H := HH.out.drewN nq
        clear HH q0 q1 q2 q3 q4 q5 r0 r1 r2 r3 r4 r5 hq
        go_wp2_with fail
        exact HF.out _ _ HC.out H
    · obtain rfl : i = n := by omega
      have HC := Lib.hid (show EqOk true es fs from ⟨fun _ => same_of_getD (by rw [HN.out, HM.out]) (fun j hj => HALL.out j (by rw [HN.out] at hj; exact hj)), fun _ => rfl⟩)
      have hlt2 : ¬ (i : Int) < (i : Int) := by omega
      clear hlt hi
      go_wp2_with fail
      exact HF.out _ _ HC.out H

end Go.Proofs.Ytjgbkicnagcmdaa
