/- Berths: what each function answers, without the program. -/
import Derived.Test.YtjgbkicnagcmdaaBM
namespace Go.Proofs.Ytjgbkicnagcmdaa
open Go.RowKit

def BM.makeR (b : BM) (ep : Int) : BM × Int :=
  if ep < 1 ∨ 1048576 < ep then (BM.zero, 2) else if b.role ≠ 0 then (BM.zero, 8) else if ep ≤ b.ep then (BM.zero, 15) else (BM.made ep, 0)
def BM.goR (b : BM) (dst : Int) : BM × Int :=
  if ¬ (0 ≤ dst ∧ dst < 5) then (BM.zero, 2) else if b.role = 2 ∨ b.role = 3 then (BM.zero, 12) else if b.role ≠ 1 then (BM.zero, 7) else if b.ep = 1048576 then (BM.zero, 14) else (b.go dst, 0)
def BM.caughtR (b : BM) (k : Int) : BM × Int :=
  if b.role ≠ 2 ∧ b.role ≠ 3 then (BM.zero, 7) else if k < 0 ∨ (b.es.length : Int) < k then (BM.zero, 2) else (b.caught k, 0)
def BM.beginR (b : BM) (ep fr : Int) : BM × Int :=
  if ep < 1 ∨ 1048576 < ep ∨ ¬ (0 ≤ fr ∧ fr < 5) then (BM.zero, 2) else if b.role ≠ 0 ∧ b.role ≠ 4 then (BM.zero, 8)
  else if b.role = 4 ∧ b.ep = ep ∧ b.frm = fr then (b, 0) else if ep ≤ b.ep then (BM.zero, 15) else (⟨4, ep, fr, 0, 0, []⟩, 0)
def BM.forgetR (b : BM) (ep : Int) : BM × Int :=
  if b.role ≠ 3 then (BM.zero, 7) else if ep ≤ b.ep then (BM.zero, 15) else (⟨0, b.ep, 0, 0, 0, []⟩, 0)
def BM.wakeR (b : BM) : BM × Int :=
  if b.role ≠ 1 ∧ b.role ≠ 2 then (b, 0) else (⟨1, b.ep, 0, 0, 0, b.es ++ [⟨4, 0, 0, 0, 0, 0⟩]⟩, 0)
/-- a part of the events, and is it the last one? -/
def BM.part (b : BM) (k : Nat) : List Ev := (b.es.drop k).take 3
def BM.partEnd (b : BM) (k : Nat) : Bool := b.role == 3 && min (k + 3) b.es.length == b.es.length

theorem BM.Ok.makeR {b : BM} (ep : Int) : (b.makeR ep).1.Ok 0 := by
  unfold BM.makeR
  split
  · exact BM.zero_ok
  · split
    · exact BM.zero_ok
    · split
      · exact BM.zero_ok
      · exact BM.made_ok ep (by omega) (by omega)
theorem BM.Ok.goR {b : BM} {n : Nat} (h : b.Ok n) (dst : Int) : (b.goR dst).1.Ok n := by
  unfold BM.goR
  split
  · exact BM.zero_ok.more (by omega)
  · split
    · exact BM.zero_ok.more (by omega)
    · split
      · exact BM.zero_ok.more (by omega)
      · split
        · exact BM.zero_ok.more (by omega)
        · exact h.go (by omega) dst (by omega) (by omega)
theorem BM.Ok.caughtR {b : BM} {n : Nat} (h : b.Ok n) (k : Int) : (b.caughtR k).1.Ok n := by
  unfold BM.caughtR
  split
  · exact BM.zero_ok.more (by omega)
  · split
    · exact BM.zero_ok.more (by omega)
    · exact h.caught (by omega) k
theorem BM.Ok.beginR {b : BM} {n : Nat} (h : b.Ok n) (ep fr : Int) : (b.beginR ep fr).1.Ok n := by
  unfold BM.beginR
  split
  · exact BM.zero_ok.more (by omega)
  · split
    · exact BM.zero_ok.more (by omega)
    · split
      · exact h
      · split
        · exact BM.zero_ok.more (by omega)
        · exact BM.Ok.more (n := 0) ⟨.inr ⟨by show 1 ≤ ep; omega, by show ep ≤ 1048576; omega, .inr (.inr (.inr ⟨rfl, by show 0 ≤ fr; omega, by show fr < 5; omega, rfl, rfl⟩))⟩, fun e h => (by cases h), Nat.le_refl _, ⟨[], rfl⟩⟩ (by omega)
theorem BM.Ok.forgetR {b : BM} {n : Nat} (h : b.Ok n) (ep : Int) : (b.forgetR ep).1.Ok 0 := by
  unfold BM.forgetR
  split
  · exact BM.zero_ok
  · split
    · exact BM.zero_ok
    · refine ⟨.inl ⟨rfl, ?_, ?_, rfl, rfl, rfl, rfl⟩, fun e h => (by cases h), Nat.le_refl _, ⟨[], rfl⟩⟩
      · show 0 ≤ b.ep
        rcases h.shape with h1 | h1 <;> omega
      · show b.ep ≤ 1048576
        rcases h.shape with h1 | h1 <;> omega
theorem BM.Ok.wakeR {b : BM} {n : Nat} (h : b.Ok n) : b.wakeR.1.Ok (n + 1) := by
  unfold BM.wakeR
  split
  · exact h.more (by omega)
  · next hr =>
    obtain ⟨_, _, h3⟩ := h.brk (by omega)
    refine ⟨?_, h3.chk, h3.len, h3.told⟩
    rcases h.shape with h1 | h1
    · omega
    · exact .inr ⟨h1.1, h1.2.1, .inl ⟨rfl, rfl, rfl, rfl⟩⟩

end Go.Proofs.Ytjgbkicnagcmdaa
