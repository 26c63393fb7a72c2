/- Common: with how many events two histories begin alike. -/
import Derived.Test.YtkolmpeghnkjkaaHLaw
import Derived.Deep.QuietTactic
import Derived.BigQuiet
namespace Go.Proofs.Ytkolmpeghnkjkaa
open Go.RowKit

/-- with how many events two histories begin alike -/
def IsCommon (es fs : List Ev) (i : Nat) : Prop := i ≤ es.length ∧ i ≤ fs.length ∧ (∀ j, j < i → es.getD j .zero0 = fs.getD j .zero0) ∧ (i = es.length ∨ i = fs.length ∨ es.getD i .zero0 ≠ fs.getD i .zero0)
theorem IsCommon.same {es fs : List Ev} {i j : Nat} (h : IsCommon es fs i) (k : IsCommon fs es j) : i = j := by
  obtain ⟨h1, h2, h3, h4⟩ := h
  obtain ⟨k1, k2, k3, k4⟩ := k
  rcases Nat.lt_trichotomy i j with hlt | he | hlt
  · rcases h4 with h4 | h4 | h4
    · omega
    · omega
    · exact absurd (k3 i hlt).symm h4
  · exact he
  · rcases k4 with k4 | k4 | k4
    · omega
    · omega
    · exact absurd (h3 j hlt).symm k4
theorem IsCommon.self {es : List Ev} {i : Nat} (h : IsCommon es es i) : i = es.length := by
  obtain ⟨h1, h2, h3, h4⟩ := h
  rcases h4 with h4 | h4 | h4
  · exact h4
  · exact h4
  · exact absurd rfl h4
theorem IsCommon.least {es xs : List Ev} {i k : Nat} (h : IsCommon es (es.take k ++ xs) i) (hk : k ≤ es.length) : k ≤ i := by
  obtain ⟨h1, h2, h3, h4⟩ := h
  by_cases hlt : i < k
  · have hl : (es.take k).length = k := by simp; omega
    rcases h4 with h4 | h4 | h4
    · omega
    · rw [List.length_append, hl] at h4
      omega
    · refine absurd ?_ h4
      simp only [List.getD]
      rw [List.getElem?_append_left (by omega), List.getElem?_take]
      simp [hlt]
  · omega
theorem evNe_self (e : Ev) : evNe e.kind e.prod e.id e.body e.hep e.hno e.kind e.prod e.id e.body e.hep e.hno = false := by simp [evNe]
theorem evNe_of {e f : Ev} (h : e ≠ f) : evNe e.kind e.prod e.id e.body e.hep e.hno f.kind f.prod f.id f.body f.hep f.hno = true := by
  cases hb : evNe e.kind e.prod e.id e.body e.hep e.hno f.kind f.prod f.id f.body f.hep f.hno with
  | true => rfl
  | false =>
    refine absurd ?_ h
    obtain ⟨a0, a1, a2, a3, a4, a5⟩ := e
    obtain ⟨b0, b1, b2, b3, b4, b5⟩ := f
    simp only [evNe, Bool.not_eq_false', Bool.and_eq_true, beq_iff_eq] at hb
    obtain ⟨⟨⟨⟨⟨rfl, rfl⟩, rfl⟩, rfl⟩, rfl⟩, rfl⟩ := hb
    rfl

set_option maxRecDepth 100000 in
set_option maxHeartbeats 8000000 in
theorem common_st {w0 w : World} {I : List It} (es fs : List Ev) (A B : Option Addr) (n m c d : Nat) (hn : es.length = n) (hm : fs.length = m) (H : St w0 w I) [h1 : Has I (evIt A es)] [h2 : Has I (evIt B fs)]
    (hn1 : n ≤ 1000) (hm1 : m ≤ 1000) (hc : n ≤ c) (hd : m ≤ d) :
    Calls Try.prog 21 #[.slice A n c, .slice B m d] w (fun ed w' => ∃ i, ed = .returned (.int .i64 (i : Nat)) ∧ IsCommon es fs i ∧ St w0 w' I) := by
  have HF := Lib.hid (show ∀ (i : Nat) W, IsCommon es fs i → St w0 W I → (fun ed w' => ∃ i, ed = Ending.returned (.int .i64 (i : Nat)) ∧ IsCommon es fs i ∧ St w0 w' I) (Ending.returned (.int .i64 i)) W from fun i W h1 h2 => ⟨i, rfl, h1, h2⟩)
  generalize (fun ed w' => ∃ i, ed = Ending.returned (.int .i64 (i : Nat)) ∧ IsCommon es fs i ∧ St w0 w' I) = POST at *
  have HI := Lib.hid (show Has I (evIt A es) ∧ Has I (evIt B fs) from ⟨h1, h2⟩)
  have HN := Lib.hid hn
  have HM := Lib.hid hm
  clear h1 h2 hn hm
  go_enter Try.func21, Try.ntmps21
  go_upto_region 2 with fail
  go_loopw [5] (fun s5 wr => ∃ (i : Nat), i ≤ n ∧ i ≤ m ∧ s5 = .int .i64 i ∧ (∀ j, j < i → es.getD j .zero0 = fs.getD j .zero0) ∧ St w0 wr I) (fun s5 _ => n - (intOf s5).toNat)
  case atStart => exact ⟨0, by omega, by omega, rfl, fun j hj => absurd hj (by omega), H⟩
  case round =>
    clear H
    obtain ⟨i, hi, hi2, rfl, hall, H⟩ := hrel
    have HALL := Lib.hid hall
    clear hall
    obtain ⟨N, hN⟩ : ∃ N : Nat, min n m = N := ⟨_, rfl⟩
    have hmin : min (n : Int) (m : Int) = (N : Int) := by omega
    by_cases hlt : i < n ∧ i < m
    · obtain ⟨h1, h2⟩ := HI.out
      obtain ⟨b, off, hA, hb, q0, q1, q2, q3, q4, q5⟩ := qevAt (H.get (evIt A es)) rfl (show i < es.length by rw [HN.out]; exact hlt.1)
      obtain ⟨b', off', hB, hb', r0, r1, r2, r3, r4, r5⟩ := qevAt (H.get (evIt B fs)) rfl (show i < fs.length by rw [HM.out]; exact hlt.2)
      clear h1 h2
      subst hA
      subst hB
      obtain ⟨e, he⟩ : ∃ e, es.getD i .zero0 = e := ⟨_, rfl⟩
      obtain ⟨f, hf⟩ : ∃ f, fs.getD i .zero0 = f := ⟨_, rfl⟩
      have HE := Lib.hid he
      have HG := Lib.hid hf
      rw [he] at q0 q1 q2 q3 q4 q5
      rw [hf] at r0 r1 r2 r3 r4 r5
      have k6 : (0 : Int) ≤ (i : Int) := by omega
      have k7 : (i : Int) < (n : Int) := by omega
      have k7' : (i : Int) < (m : Int) := by omega
      have k7'' : (i : Int) < (N : Int) := by omega
      have k8 : (n : Int) ≤ (c : Int) := by omega
      have k9 : (m : Int) ≤ (d : Int) := by omega
      have w1 : IntKind.i64.wrap ((i : Int) + 1) = (i : Int) + 1 := IntWalk.i64_in _ (by omega)
      have HH := Lib.hid H
      have HLT := Lib.hid hlt
      clear hb hb' he hf hlt
      by_cases hef : e = f
      · subst hef
        have hq := ev_eql e.kind e.prod e.id e.body e.hep e.hno e.kind e.prod e.id e.body e.hep e.hno
        rw [evNe_self] at hq
        obtain ⟨e0, e1, e2, e3, e4, e5⟩ := e
        dsimp only at q0 q1 q2 q3 q4 q5 r0 r1 r2 r3 r4 r5 hq
        clear H
        go_upto_region 2 with fail
        go_quiet (fail)
        have H := HH.out.drewN nq
        clear HH q0 q1 q2 q3 q4 q5 r0 r1 r2 r3 r4 r5 hq
        go_wp2_with fail
        go_roundw
        case rel =>
          refine ⟨i + 1, by have := HLT.out; omega, by have := HLT.out; omega, by go_num, fun j hj => ?_, H⟩
          rcases Nat.lt_succ_iff_lt_or_eq.1 hj with h | rfl
          · exact HALL.out j h
          · rw [HE.out, HG.out]
        case measure => simp [intOf]; omega
      · have hq := ev_eql e.kind e.prod e.id e.body e.hep e.hno f.kind f.prod f.id f.body f.hep f.hno
        rw [evNe_of hef] at hq
        have HEF := Lib.hid hef
        clear hef
        have HC := Lib.hid (show IsCommon es fs i from ⟨by rw [HN.out]; exact hi, by rw [HM.out]; exact hi2, HALL.out, .inr (.inr (by rw [HE.out, HG.out]; exact HEF.out))⟩)
        clear HE HG HEF
        obtain ⟨e0, e1, e2, e3, e4, e5⟩ := e
        obtain ⟨f0, f1, f2, f3, f4, f5⟩ := f
        dsimp only at q0 q1 q2 q3 q4 q5 r0 r1 r2 r3 r4 r5 hq
        clear H
        go_upto_region 2 with fail
        go_quiet (fail)
        have H := HH.out.drewN nq
        clear HH q0 q1 q2 q3 q4 q5 r0 r1 r2 r3 r4 r5 hq
        go_wp2_with fail
        exact HF.out _ _ HC.out H
    · have hNi : (N : Int) = (i : Int) := by omega
      have hC := Lib.hid (show IsCommon es fs i from ⟨by rw [HN.out]; exact hi, by rw [HM.out]; exact hi2, HALL.out, by rw [HN.out, HM.out]; omega⟩)
      have hlt2 : ¬ (i : Int) < (i : Int) := by omega
      rw [hNi] at hmin
      have HH := Lib.hid H
      clear H hlt hNi hN
      go_upto_region 2 with fail
      go_quiet (fail)
      have H := HH.out.drewN nq
      clear HH
      go_wp2_with fail
      exact HF.out _ _ hC.out H

end Go.Proofs.Ytkolmpeghnkjkaa
