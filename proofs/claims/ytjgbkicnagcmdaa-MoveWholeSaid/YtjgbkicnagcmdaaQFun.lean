/- Queues: the map of a desk's acts. -/
import Derived.Test.YtjgbkicnagcmdaaQCheck
import Derived.Test.YtjgbkicnagcmdaaQDesk
namespace Go.Proofs.Ytjgbkicnagcmdaa
open Go.RowKit Go.Maps

/-- a desk's act as a value -/
def fv (gd j : Nat) : Value := .func (.func j) #[.pointer (some ⟨gd, 0, none⟩)] #[]
def fnElem (gd : Nat) : Value → Option (DataW Unit × List MemPlace)
  | .func (.func j) cs fs =>
    match cs.toList, fs.toList with
    | [.pointer (some ⟨b, o, none⟩)], [] => if b = gd ∧ o = 0 then some (.lit (.int .i64 j), []) else none
    | _, _ => none
  | .nilFunc => some (.lit (.bool false), [])
  | _ => none
theorem fnElem_mk (gd j : Nat) : fnElem gd (fv gd j) = some (.lit (.int .i64 j), []) := by simp [fnElem, fv]
theorem fnElem_inv {gd j : Nat} {v : Value} {ps : List MemPlace} (h : fnElem gd v = some (.lit (.int .i64 j), ps)) : v = fv gd j := by
  unfold fnElem at h
  split at h
  · rename_i i cs fs
    split at h
    · rename_i b o h1 h2
      split at h
      · rename_i hc
        obtain ⟨rfl, rfl⟩ := hc
        injection h with h
        injection h with h _
        injection h with h
        injection h with _ h
        have hj := Int.ofNat.inj h
        have e1 : cs = #[.pointer (some ⟨b, 0, none⟩)] := by rw [← Array.toArray_toList (xs := cs), h1]
        have e2 : fs = #[] := by rw [← Array.toArray_toList (xs := fs), h2]
        rw [e1, e2, hj]
        rfl
      · cases h
    · cases h
  · injection h with h
    injection h with h _
    injection h with h
    cases h
  · cases h
def actsD (a b c d : Nat) : DataW Unit := ((((DataW.map []).put (.int .i64 1) (.lit (.int .i64 a))).put (.int .i64 2) (.lit (.int .i64 b))).put (.int .i64 3) (.lit (.int .i64 c))).put (.int .i64 4) (.lit (.int .i64 d))
theorem key_i (x : Int) (h : Is64 x) : keyOf Try.prog 3 (.int .i64 x) = some (.int .i64 x) := keyOf_int_mk Try.underlying3 (wf_of_is64 h)
theorem acts_map (gd : Nat) (w : World) : ∃ w1 w2 w3 w4,
    (Instr.mapUpdate 96 (.map (some w.heap.size)) (.int .i64 1) (fv gd 41)).run Try.prog (w.alloc (.map #[] 0)) = .ok () w1 ∧
    (Instr.mapUpdate 96 (.map (some w.heap.size)) (.int .i64 2) (fv gd 42)).run Try.prog w1 = .ok () w2 ∧
    (Instr.mapUpdate 96 (.map (some w.heap.size)) (.int .i64 3) (fv gd 43)).run Try.prog w2 = .ok () w3 ∧
    (Instr.mapUpdate 96 (.map (some w.heap.size)) (.int .i64 4) (fv gd 44)).run Try.prog w3 = .ok () w4 ∧
    w.grownBy w4 none ∧
    (Instr.lookup 96 (.map (some w.heap.size)) (.int .i64 1) false).run Try.prog w4 = .ok (fv gd 41) w4 ∧
    (Instr.lookup 96 (.map (some w.heap.size)) (.int .i64 2) false).run Try.prog w4 = .ok (fv gd 42) w4 ∧
    (Instr.lookup 96 (.map (some w.heap.size)) (.int .i64 3) false).run Try.prog w4 = .ok (fv gd 43) w4 ∧
    (Instr.lookup 96 (.map (some w.heap.size)) (.int .i64 4) false).run Try.prog w4 = .ok (fv gd 44) w4 := by
  have ht := Try.underlying96
  have M0 := World.ownsMap_made w Try.prog 3 (fnElem gd)
  obtain ⟨w1, r1, M1, g1⟩ := M0.update k3 ht (by unfold maxLen; omega) (key_i 1 ⟨by omega, by omega⟩) (fnElem_mk gd 41)
  obtain ⟨w2, r2, M2, g2⟩ := M1.update k3 ht (by unfold maxLen; omega) (key_i 2 ⟨by omega, by omega⟩) (fnElem_mk gd 42)
  obtain ⟨w3, r3, M3, g3⟩ := M2.update k3 ht (by unfold maxLen; omega) (key_i 3 ⟨by omega, by omega⟩) (fnElem_mk gd 43)
  obtain ⟨w4, r4, M4, g4⟩ := M3.update k3 ht (by unfold maxLen; omega) (key_i 4 ⟨by omega, by omega⟩) (fnElem_mk gd 44)
  have M5 : w4.ownsMap Try.prog 3 (fnElem gd) w.heap.size _ (actsD 41 42 43 44) := M4
  have hz : (zeroValue 95).run Try.prog w4 = .ok .nilFunc w4 := by kernel_rfl
  have hne : ∀ a b : Int, a ≠ b → (Lit.int .i64 a) ≠ (Lit.int .i64 b) := fun a b h e => h (by injection e)
  have look : ∀ (x : Int) (j : Nat), Is64 x → (∀ z : DataW Unit, (actsD 41 42 43 44).atKey (.int .i64 x) z = .lit (.int .i64 j)) →
      (Instr.lookup 96 (.map (some w.heap.size)) (.int .i64 x) false).run Try.prog w4 = .ok (fv gd j) w4 := fun x j hx ha => by
    obtain ⟨v, ps, hr, hv⟩ := M5.lookup k3 ht hz (zd := .lit (.bool false)) (zp := []) (by simp [fnElem]) (key_i x hx)
    rw [ha] at hv
    rw [hr, fnElem_inv hv]
  have T0 : IsMap (.map [] : DataW Unit) := isMap_empty
  refine ⟨w1, w2, w3, w4, r1, r2, r3, r4, ?_, look 1 _ ⟨by omega, by omega⟩ (fun z => ?_), look 2 _ ⟨by omega, by omega⟩ (fun z => ?_), look 3 _ ⟨by omega, by omega⟩ (fun z => ?_), look 4 _ ⟨by omega, by omega⟩ (fun z => ?_)⟩
  · have ga := World.grownBy_alloc w (.map #[] 0) none
    have hs := ga.size
    refine ⟨g4.os.trans (g3.os.trans (g2.os.trans (g1.os.trans ga.os))), g4.tape.trans (g3.tape.trans (g2.tape.trans (g1.tape.trans ga.tape))), g4.output.trans (g3.output.trans (g2.output.trans (g1.output.trans ga.output))), Nat.le_trans hs (Nat.le_trans g1.size (Nat.le_trans g2.size (Nat.le_trans g3.size g4.size))), fun k hk _ => ?_⟩
    have n0 : some k ≠ some w.heap.size := fun e => by injection e with e; omega
    have s1 := g1.size
    have s2 := g2.size
    have s3 := g3.size
    exact (g4.block k (by omega) n0).trans ((g3.block k (by omega) n0).trans ((g2.block k (by omega) n0).trans ((g1.block k (by omega) n0).trans (ga.block k hk (by simp)))))
  · unfold actsD; rw [atKey_put_other (hne 1 4 (by omega)), atKey_put_other (hne 1 3 (by omega)), atKey_put_other (hne 1 2 (by omega)), atKey_put_same T0 (int_key 1)]
  · unfold actsD; rw [atKey_put_other (hne 2 4 (by omega)), atKey_put_other (hne 2 3 (by omega)), atKey_put_same (T0.put _ _) (int_key 2)]
  · unfold actsD; rw [atKey_put_other (hne 3 4 (by omega)), atKey_put_same ((T0.put _ _).put _ _) (int_key 3)]
  · unfold actsD; rw [atKey_put_same (((T0.put _ _).put _ _).put _ _) (int_key 4)]

end Go.Proofs.Ytjgbkicnagcmdaa
