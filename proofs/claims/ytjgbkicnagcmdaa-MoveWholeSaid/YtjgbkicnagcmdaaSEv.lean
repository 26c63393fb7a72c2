/- sameEvents: the same events, wherever they lie. -/
import Derived.Test.YtjgbkicnagcmdaaHLaw
import Derived.Deep.QuietTactic
import Derived.BigQuiet
namespace Go.Proofs.Ytjgbkicnagcmdaa
open Go.RowKit

theorem evNe_same (e : Ev) : evNe e.kind e.prod e.id e.body e.hep e.hno e.kind e.prod e.id e.body e.hep e.hno = false := by simp [evNe]
set_option maxRecDepth 100000 in
set_option maxHeartbeats 8000000 in
theorem sameEv_st {w0 w : World} {I : List It} (es : List Ev) (A B : Option Addr) (n c d : Nat) (hn : es.length = n) (H : St w0 w I) [h1 : Has I (evIt A es)] [h2 : Has I (evIt B es)] (hn1 : n ≤ 1000) (hc : n ≤ c) (hd : n ≤ d) :
    Calls Try.prog 25 #[.slice A n c, .slice B n d] w (fun ed w' => ed = .returned (.bool true) ∧ St w0 w' I) := by
  have HF := Lib.hid (show ∀ W, St w0 W I → (fun ed w' => ed = Ending.returned (.bool true) ∧ St w0 w' I) (Ending.returned (.bool true)) W from fun W h => ⟨rfl, h⟩)
  generalize (fun ed w' => ed = Ending.returned (.bool true) ∧ St w0 w' I) = POST at *
  have HI := Lib.hid (show Has I (evIt A es) ∧ Has I (evIt B es) from ⟨h1, h2⟩)
  have HN := Lib.hid hn
  clear h1 h2 hn
  go_enter Try.func25, Try.ntmps25
  go_upto_region 4 with fail
  go_loopw [5] (fun s5 wr => ∃ (i : Nat), i ≤ n ∧ s5 = .int .i64 i ∧ St w0 wr I) (fun s5 _ => n - (intOf s5).toNat)
  case atStart => exact ⟨0, by omega, rfl, H⟩
  case round =>
    clear H
    obtain ⟨i, hi, rfl, H⟩ := hrel
    by_cases hlt : i < n
    · obtain ⟨h1, h2⟩ := HI.out
      obtain ⟨b, off, hA, hb, q0, q1, q2, q3, q4, q5⟩ := qevAt (H.get (evIt A es)) rfl (show i < es.length by rw [HN.out]; exact hlt)
      obtain ⟨b', off', hB, hb', r0, r1, r2, r3, r4, r5⟩ := qevAt (H.get (evIt B es)) rfl (show i < es.length by rw [HN.out]; exact hlt)
      clear h1 h2
      subst hA
      have HA2 := Lib.hid hB
      clear hB
      obtain rfl := HA2.out
      generalize es.getD i .zero0 = e at *
      have hq := ev_neq e.kind e.prod e.id e.body e.hep e.hno e.kind e.prod e.id e.body e.hep e.hno
      rw [evNe_same] at hq
      obtain ⟨e0, e1, e2, e3, e4, e5⟩ := e
      dsimp only at q0 q1 q2 q3 q4 q5 r0 r1 r2 r3 r4 r5 hq
      have k6 : (0 : Int) ≤ (i : Int) := by omega
      have k7 : (i : Int) < (n : Int) := by omega
      have k8 : (n : Int) ≤ (c : Int) := by omega
      have k9 : (n : Int) ≤ (d : Int) := by omega
      have w1 : IntKind.i64.wrap ((i : Int) + 1) = (i : Int) + 1 := IntWalk.i64_in _ (by omega)
      have HH := Lib.hid H
      have HLT := Lib.hid hlt
      clear hb hb' hlt HA2
      go_upto_region 6 with fail
      clear H
      go_quiet (fail)
      have H := HH.out.drewN nq
      clear HH q0 q1 q2 q3 q4 q5 r0 r1 r2 r3 r4 r5 hq
      go_wp2_with fail
      go_roundw
      case rel => exact ⟨i + 1, by have := HLT.out; omega, by go_num, H⟩
      case measure => have := HLT.out; simp [intOf]; omega
    · obtain rfl : i = n := by omega
      have hlt2 : ¬ (i : Int) < (i : Int) := by omega
      clear hlt hi
      go_wp2_with fail
      exact HF.out _ H

end Go.Proofs.Ytjgbkicnagcmdaa
