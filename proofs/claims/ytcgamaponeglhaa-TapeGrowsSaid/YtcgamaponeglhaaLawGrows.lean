/- TapeGrows: the walk. -/
import Derived.Test.YtcgamaponeglhaaTape
import Derived.Test.YtcgamaponeglhaaLawRecSize
import Derived.Deep.QuietTactic
import Derived.BigQuiet
namespace Go.Proofs.Ytcgamaponeglhaa
open Go.RowKit

theorem torn_cut' {A : Option Addr} {n B : Nat} {zs : List Int} {w : World} (h : Reads w B 1 A n (zs.map (Value.int .u8))) {k : Nat} (hk : k ≤ n) : Reads w B 1 A k ((zs.take k).map (Value.int .u8)) := by
  have := h.take hk
  rwa [Nat.mul_one, ← List.map_take] at this

set_option maxRecDepth 100000 in
set_option maxHeartbeats 1000000 in
theorem tapeGrows_walk (A : Option Addr) (n c : Nat) (zs : List Int) (k a b c1 k' a' b' c' : Int) (w : World) (h : IsNums .u8 1 w A n c zs) (h0 : Is64 k) (h1 : Is64 a) (h2 : Is64 b) (h3 : Is64 c1) (h4 : Is64 k') (h5 : Is64 a') (h6 : Is64 b') (h7 : Is64 c') :
    Calls Try.prog 7 #[.slice A n c, .agg #[.int .i64 k, .int .i64 a, .int .i64 b, .int .i64 c1], .agg #[.int .i64 k', .int .i64 a', .int .i64 b', .int .i64 c']] w fun e w' => e = .returned (.bool true) ∧ Below w.heap.size w w' := by
  obtain ⟨hl, hnc, hcb, hr, hwf⟩ := h
  have CR := fun W => Lib.hid (record_any k a b c1 k' a' b' c' W h0 h1 h2 h3 h4 h5 h6 h7)
  have hc := recOf_check k a b c1 k' a' b' c'
  generalize recOf k a b c1 k' a' b' c' = r at *
  have CS := Lib.hid (fun (W : World) (hd : Reads W w.heap.size 1 A n (zs.map (Value.int .u8))) => some_any A n c w.heap.size 100 zs W hd hnc (by omega) (by omega) (by omega))
  have CW := Lib.hid (fun A n c B d s W hd hn hm hB h0 h1 => write_ok A n c B d s r W hd hn hm hB h0 h1 hc)
  have hp := recBytes_le r
  have HL := Lib.hid (frameOf_length (recBytes r))
  clear hc h0 h1 h2 h3 h4 h5 h6 h7 hwf
  obtain ⟨m, hm⟩ : ∃ m : Nat, min n (100 : Int).toNat = m := ⟨_, rfl⟩
  have hm1 : m ≤ n := by omega
  have hm2 : m ≤ 100 := by simp at hm; omega
  have hrm := torn_cut' hr (k := m) hm1
  have HM := Lib.hid hm
  have HZ := Lib.hid (show zs.take (100 : Int).toNat = zs.take m by
    rw [show (100 : Int).toNat = 100 from rfl] at hm ⊢
    by_cases h' : n ≤ 100
    · rw [show m = n by omega, List.take_of_length_le (by omega), List.take_of_length_le (by omega)]
    · rw [show m = 100 by omega])
  clear hm
  obtain ⟨d, hd⟩ : ∃ d, zs.take m = d := ⟨_, rfl⟩
  have hdl : d.length = m := by rw [← hd]; simp; omega
  have HD := Lib.hid hd
  have HDL := Lib.hid hdl
  clear hd hdl hrm
  go_enter Try.func7, Try.ntmps7
  go_wp2_with fail
  refine (CS.out _ ((hr.alloc (Nat.le_refl _) _).alloc (by simp) _)).mono ?_
  rintro e w1 ⟨v1, rfl, o1, b1⟩
  rw [HM.out, HZ.out, HD.out] at o1
  obtain ⟨A1, c2, rfl, hc2, hm3⟩ := own_shape o1
  have rd1 := Reads.of_own o1
  have E1 := ((Blk.new w 23 #[.int .i64 k, .int .i64 a, .int .i64 b, .int .i64 c1]).alloc (.cells #[.int .i64 k', .int .i64 a', .int .i64 b', .int .i64 c'] 23)).below b1 (by simp; omega)
  have E2 := (Blk.new (w.alloc (.cells #[.int .i64 k, .int .i64 a, .int .i64 b, .int .i64 c1] 23)) 23 #[.int .i64 k', .int .i64 a', .int .i64 b', .int .i64 c']).below b1 (by simp)
  rw [World.size_alloc] at E2
  have bel1 := (((Below.refl w.heap.size w).alloc (Nat.le_refl _) _).alloc (by simp) _).trans (b1.mono (by simp; omega))
  have x0 := E1.cell 0
  have x1 := E1.cell 1
  have x2 := E1.cell 2
  have x3 := E1.cell 3
  have y0 := E2.cell 0
  have y1 := E2.cell 1
  have y2 := E2.cell 2
  have y3 := E2.cell 3
  clear b1 CS o1 hm3
  go_wp2_with fail
  refine ((CR _).out).mono ?_
  rintro e w2 ⟨rfl, b2⟩
  have bel2 := bel1.trans (b2.mono bel1.size)
  have rd2 := rd1.below b2
  have hs2 := b2.size
  clear CR x0 x1 x2 x3 y0 y1 y2 y3 E1 E2 b2 rd1
  have CW2 := Lib.hid (CW.out A1 m c2 w1.heap.size d m w2 rd2 hc2 (by omega) hs2 (by omega) (by omega))
  clear CW
  go_wp2_with fail
  refine CW2.out.mono ?_
  rintro e w3 ⟨v3, rfl, o3, b3⟩
  have bel3 := bel2.trans (b3.mono bel2.size)
  have b3s : w1.heap.size ≤ w3.heap.size := Nat.le_trans hs2 b3.size
  have rd3 := rd2.below (b3.mono hs2)
  rw [HDL.out] at o3
  obtain ⟨A3, c3, rfl, hc3, hm3⟩ := own_shape o3
  have rd4 := Reads.of_own o3
  have hcut := torn_cut' rd4 (k := m) (by omega)
  rw [List.take_append_of_le_length (by rw [HDL.out]; omega), List.take_of_length_le (by rw [HDL.out]; omega)] at hcut
  obtain ⟨N, hN⟩ : ∃ N, m + ((recBytes r).length + 6) = N := ⟨_, rfl⟩
  rw [hN] at hc3 ⊢
  have hN1 : (m : Int) + 16 < (N : Int) := by omega
  have hN2 : (m : Int) ≤ (N : Int) := by omega
  have hN3 : (m : Int) ≤ 100 := by omega
  have hN4 : (N : Int) ≤ (c3 : Int) := by omega
  clear hN o3 rd4 rd2 CW2 b3 hp HL HD HDL HM HZ hr bel2 bel1 hm3
  go_wp2_with fail
  obtain ⟨g, hg⟩ : ∃ g, g = w3.heap.size := ⟨_, rfl⟩
  have E4 := Blk.new w3 45 #[.slice A3 N c3, .int .i64 m]
  have rd5 := rd3.alloc (by have := bel3.size; have := b3s; omega) (.cells #[.slice A3 N c3, .int .i64 m] 45)
  have hcut5 := hcut.alloc (Nat.le_refl _) (.cells #[.slice A3 N c3, .int .i64 m] 45)
  have bel4 := bel3.alloc bel3.size (.cells #[.slice A3 N c3, .int .i64 m] 45)
  generalize w3.alloc (.cells #[.slice A3 N c3, .int .i64 m] 45) = w4 at *
  rw [← hg] at E4 ⊢
  clear hg
  have c0 := E4.cell 0
  have c1 := E4.cell 1
  have cv1 := fun q => conv_reads (P := Try.prog) (rd5.drewN q) 31 5 9 Try.underlying31 Try.underlying5 Try.underlying9 c2
  have cv2 := fun q => conv_reads (P := Try.prog) (hcut5.drewN q) 31 5 9 Try.underlying31 Try.underlying5 Try.underlying9 c3
  clear rd5 hcut5 rd3 hcut
  go_quiet (fail)
  go_wp2
  go_ret
  exact ⟨ret_true (by simp), below_drewN bel4 _⟩

end Go.Proofs.Ytcgamaponeglhaa
