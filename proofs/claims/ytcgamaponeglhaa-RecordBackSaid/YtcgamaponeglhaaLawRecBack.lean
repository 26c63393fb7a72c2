/- RecordBack, RecordFixed, RecordTorn: the walks. -/
import Derived.Test.YtcgamaponeglhaaDecLaw
import Derived.Test.YtcgamaponeglhaaLawRecSize
namespace Go.Proofs.Ytcgamaponeglhaa
open Go.RowKit

theorem rec_eql_self (a b c d e f g h i j : Int) (w : World) :
    (binOp .eql 29 (.agg #[.int .i64 a, .int .i64 b, .int .i64 c, .int .i64 d, .int .i64 e, .int .i64 f, .int .i64 g, .int .i64 h, .int .i64 i, .int .i64 j]) (.agg #[.int .i64 a, .int .i64 b, .int .i64 c, .int .i64 d, .int .i64 e, .int .i64 f, .int .i64 g, .int .i64 h, .int .i64 i, .int .i64 j])).run Try.prog w = .ok (.bool true) w := by
  have h1 : Try.prog.underlying 29 = some (.struct (Try.prog.fieldsOf 29)) := by kernel_rfl
  have h2 : Try.prog.stoodInHeld 29 = false := by kernel_rfl
  rw [run_eql_struct, run_equalIn_struct _ _ _ _ _ h1 h2]
  simp [go_sem]

theorem rec_neq_self (a b c d e f g h i j : Int) (w : World) :
    (binOp .neq 29 (.agg #[.int .i64 a, .int .i64 b, .int .i64 c, .int .i64 d, .int .i64 e, .int .i64 f, .int .i64 g, .int .i64 h, .int .i64 i, .int .i64 j]) (.agg #[.int .i64 a, .int .i64 b, .int .i64 c, .int .i64 d, .int .i64 e, .int .i64 f, .int .i64 g, .int .i64 h, .int .i64 i, .int .i64 j])).run Try.prog w = .ok (.bool false) w := by
  have h1 : Try.prog.underlying 29 = some (.struct (Try.prog.fieldsOf 29)) := by kernel_rfl
  have h2 : Try.prog.stoodInHeld 29 = false := by kernel_rfl
  rw [run_neq_struct, run_equalIn_struct _ _ _ _ _ h1 h2]
  simp [go_sem]

/-- Encode, then Decode, at the encoded bytes wherever they lie -/
theorem decode_of_enc (r : Rc) (hc : r.check = 0) (A : Option Addr) (n c B : Nat) (w : World) (h : Reads w B 1 A n ((recBytes r).map (Value.int .u8))) (hB : B ≤ w.heap.size) (hn : n ≤ c) (hcb : c ≤ 9223372036854775807) :
    Calls Try.prog 16 #[.slice A n c] w (DecPost w (0, r)) := by
  have h1 := decode_enc r hc []
  rw [List.append_nil, if_pos rfl] at h1
  rw [← h1]
  exact decode_any A n c B (recBytes r) w h hB hn hcb (bytesOf_bd r.nums (rc_ok r hc).bd)

set_option maxRecDepth 100000 in
set_option maxHeartbeats 800000 in
theorem recordBack_walk (k a b c k' a' b' c' : Int) (w : World) (h0 : Is64 k) (h1 : Is64 a) (h2 : Is64 b) (h3 : Is64 c) (h4 : Is64 k') (h5 : Is64 a') (h6 : Is64 b') (h7 : Is64 c') :
    Calls Try.prog 4 #[.agg #[.int .i64 k, .int .i64 a, .int .i64 b, .int .i64 c], .agg #[.int .i64 k', .int .i64 a', .int .i64 b', .int .i64 c']] w fun e w' => e = .returned (.bool true) ∧ Below w.heap.size w w' := by
  have CR := fun W => Lib.hid (record_any k a b c k' a' b' c' W h0 h1 h2 h3 h4 h5 h6 h7)
  have hc := recOf_check k a b c k' a' b' c'
  have hg : Try.prog.eqGuardType Try.prog.depth 29 = false := by kernel_rfl
  have heq := rec_eql_self
  generalize recOf k a b c k' a' b' c' = r at *
  have CE := fun W => Lib.hid (encode_yes r W hc)
  have CD := Lib.hid (fun A n c B w h hB hn hcb => decode_of_enc r hc A n c B w h hB hn hcb)
  have HL := Lib.hid (recBytes_length r)
  clear hc h0 h1 h2 h3 h4 h5 h6 h7
  obtain ⟨rk, q, ep, p, ⟨x0, x1, x2, x3, x4, x5⟩⟩ := r
  go_enter Try.func4, Try.ntmps4
  go_wp2_with fail
  refine ((CR _).out).mono ?_
  rintro e w1 ⟨rfl, b1⟩
  have bel1 := (((Below.refl w.heap.size w).alloc (Nat.le_refl _) _).alloc (by simp) _).trans (b1.mono (by simp; omega))
  clear b1 CR
  unfold Rc.val Rc.cells
  go_wp2_with fail
  refine ((CE _).out).mono ?_
  rintro e w2 ⟨v, rfl, o2, b2⟩
  have E2 := (Blk.new w1 29 (Rc.cells ⟨rk, q, ep, p, ⟨x0, x1, x2, x3, x4, x5⟩⟩)).below b2 (by simp)
  have bel2 := bel1.trans (((Below.refl _ _).alloc (Nat.le_refl _) _).trans (b2.mono (by simp)) |>.mono bel1.size)
  clear b2 bel1 CE
  have hh := HL.out
  change (recBytes _).length = if hasEv rk then 40 else 16 at hh
  have hn : ∃ nb, (recBytes ⟨rk, q, ep, p, ⟨x0, x1, x2, x3, x4, x5⟩⟩).length = nb ∧ (nb = 40 ∨ nb = 16) := ⟨_, rfl, by rw [hh]; split <;> simp⟩
  obtain ⟨nb, hnb, hnb2⟩ := hn
  rw [hnb] at o2
  obtain ⟨A, cc, rfl, hcc, hcm⟩ := own_shape o2
  have r2 := Reads.of_own o2
  have hcb : cc ≤ 9223372036854775807 := by unfold maxLen at hcm; omega
  have CD2 := Lib.hid (CD.out A nb cc _ w2 r2 (Nat.le_refl _) hcc hcb)
  clear CD r2 o2 hh hnb HL
  go_wp2_with fail
  refine CD2.out.mono ?_
  rintro e w3 ⟨rfl, b3⟩
  have E3 := E2.below b3 E2.lt
  have bel3 := bel2.trans (b3.mono bel2.size)
  clear b3 CD2 E2 bel2
  obtain ⟨d0, d1, d2, d3, d4, d5, d6, d7, d8, d9⟩ := rcBlk E3
  have z3 := E3.lt
  unfold Rc.val Rc.cells
  rcases hnb2 with rfl | rfl
  all_goals
    go_wp2
    go_ret
    exact ⟨ret_true (by simp), bel3.alloc bel3.size _⟩

end Go.Proofs.Ytcgamaponeglhaa
