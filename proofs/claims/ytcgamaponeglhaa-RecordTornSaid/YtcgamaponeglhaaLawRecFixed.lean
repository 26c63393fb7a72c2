/- RecordFixed, RecordTorn: the walks. -/
import Derived.Test.YtcgamaponeglhaaLawRecBack
namespace Go.Proofs.Ytcgamaponeglhaa
open Go.RowKit

theorem nums_of_wf {zs : List Int} (h : ∀ z ∈ zs, (Lit.int .u8 z).wf = true) : ∀ z ∈ zs, 0 ≤ z ∧ z ≤ 255 := fun z hz => u8_of_wf (h z hz)

set_option maxRecDepth 100000 in
set_option maxHeartbeats 800000 in
theorem recordFixed_walk (A : Option Addr) (n c : Nat) (zs : List Int) (w : World) (h0 : IsNums .u8 1 w A n c zs) :
    Calls Try.prog 5 #[.slice A n c] w fun e w' => e = .returned (.bool true) ∧ Below w.heap.size w w' := by
  obtain ⟨hl, hnc, hcb, hr, hwf⟩ := h0
  obtain ⟨i0, hi0, hz0, hz1, hz2⟩ := info_parts u8_info
  have hg : Try.prog.eqGuardType Try.prog.depth 29 = false := by kernel_rfl
  have heq := rec_eql_self
  have hx := one_nums .u8 zs
  have hbd := nums_of_wf hwf
  have CD := Lib.hid (fun A n c B w h hB hn hcb => decode_any A n c B zs w h hB hn hcb hbd)
  have HF := Lib.hid (decode_fixed zs hbd)
  clear hbd hwf
  generalize decode zs = D at *
  obtain ⟨code, r⟩ := D
  go_enter Try.func5, Try.ntmps5
  go_wp2_with (at_builtin; refine wpList_append_any _ rfl _ _ _ rfl w.heap.size 5 i0 _ 1 1 Try.underlying31 hi0 hz0 hz1 hz2 rfl (by omega) (.slice none 0 0) 0 [] rfl (World.ownsRow_nil _ _ _ _) w.heap.size A n c (zs.map (Value.int .u8)) rfl hr hx (by simp only [maxLen]; omega) (by omega) (Nat.le_refl _) ?_; intro v1 w1 o1 g1 at1)
  rw [List.nil_append, Nat.zero_add] at o1
  have bel1 : Below w.heap.size w w1 := (Below.refl _ _).grown g1 (Nat.le_refl _) (by simp [Value.ownBlock])
  obtain ⟨A1, c1, rfl, hc1, hcm⟩ := own_shape o1
  have r1 := Reads.of_own o1
  have CD2 := Lib.hid (CD.out A1 n c1 _ w1 r1 (Nat.le_refl _) hc1 (by unfold maxLen at hcm; omega))
  clear CD r1 o1 g1 at1
  refine CD2.out.mono ?_
  rintro e w2 ⟨rfl, b2⟩
  have bel2 := bel1.trans (b2.mono bel1.size)
  clear CD2 b2 bel1
  rcases HF.out with ⟨hcode, hz⟩ | ⟨hcode, hck, hbytes⟩
  · subst hz
    have q1 : (code != 0) = true := bne_iff_ne.2 hcode
    clear hcode HF
    unfold Rc.zero Ev.zero Rc.val Rc.cells
    go_wp2
    go_ret
    exact ⟨ret_true (by simp), bel2.alloc bel2.size _⟩
  · subst hcode
    have CE := fun W => Lib.hid (encode_yes r W hck)
    clear HF hck
    have HB := Lib.hid hbytes
    clear hbytes
    obtain ⟨rk, q, ep, p, ⟨x0, x1, x2, x3, x4, x5⟩⟩ := r
    unfold Rc.val Rc.cells
    go_wp2_with fail
    refine ((CE _).out).mono ?_
    rintro e w3 ⟨v, rfl, o3, b3⟩
    rw [HB.out, hl] at o3
    have bel3 := bel2.trans (((Below.refl _ _).alloc (Nat.le_refl _) _).trans (b3.mono (by simp)) |>.mono bel2.size)
    obtain ⟨A3, c3, rfl, _, _⟩ := own_shape o3
    have cv1 := conv_reads (P := Try.prog) (Reads.of_own o3) 31 5 9 Try.underlying31 Try.underlying5 Try.underlying9 c3
    have cv2 := conv_reads (P := Try.prog) (hr.below bel3) 31 5 9 Try.underlying31 Try.underlying5 Try.underlying9 c
    clear CE b3 o3 HB hr hx
    go_wp2
    go_ret
    exact ⟨ret_true (by simp), bel3⟩

theorem torn_cut {A : Option Addr} {n B : Nat} {zs : List Int} {w : World} (h : Reads w B 1 A n (zs.map (Value.int .u8))) {k : Nat} (hk : k ≤ n) : Reads w B 1 A k ((zs.take k).map (Value.int .u8)) := by
  have := h.take hk
  rwa [Nat.mul_one, ← List.map_take] at this

set_option maxRecDepth 100000 in
set_option maxHeartbeats 1000000 in
theorem recordTorn_walk (k a b c k' a' b' c' cut tl : Int) (w : World) (h0 : Is64 k) (h1 : Is64 a) (h2 : Is64 b) (h3 : Is64 c) (h4 : Is64 k') (h5 : Is64 a') (h6 : Is64 b') (h7 : Is64 c') (h8 : Is64 cut) (h9 : 0 ≤ tl ∧ tl ≤ 255) :
    Calls Try.prog 6 #[.agg #[.int .i64 k, .int .i64 a, .int .i64 b, .int .i64 c], .agg #[.int .i64 k', .int .i64 a', .int .i64 b', .int .i64 c'], .int .i64 cut, .int .u8 tl] w fun e w' => e = .returned (.bool true) ∧ Below w.heap.size w w' := by
  have CR := fun W => Lib.hid (record_any k a b c k' a' b' c' W h0 h1 h2 h3 h4 h5 h6 h7)
  have hc := recOf_check k a b c k' a' b' c'
  obtain ⟨h81, h82⟩ := h8
  obtain ⟨h91, h92⟩ := h9
  obtain ⟨i0, hi0, hz0, hz1, hz2⟩ := info_parts u8_info
  generalize recOf k a b c k' a' b' c' = r at *
  have CE := fun W => Lib.hid (encode_yes r W hc)
  have hbd := bytesOf_bd r.nums (rc_ok r hc).bd
  change ∀ z ∈ recBytes r, 0 ≤ z ∧ z ≤ 255 at hbd
  have CT : ∀ (A : Option Addr) (n c B : Nat) (w : World) (m : Nat), Reads w B 1 A n ((recBytes r).map (Value.int .u8)) → B ≤ w.heap.size → m < n → n ≤ c → c ≤ 9223372036854775807 → Calls Try.prog 16 #[.slice A m c] w (DecPost w (4, Rc.zero)) := fun A n c B w m h hB hm hn hcb => by
    have hl : (recBytes r).length = n := by simpa using h.1
    rw [← decode_torn r hc m (by omega)]
    exact decode_any A m c B ((recBytes r).take m) w (torn_cut h (by omega)) hB (by omega) hcb (fun z hz => hbd z (List.mem_of_mem_take hz))
  have CL : ∀ (A : Option Addr) (n c B : Nat) (w : World), Reads w B 1 A n ((recBytes r ++ [tl]).map (Value.int .u8)) → B ≤ w.heap.size → n ≤ c → c ≤ 9223372036854775807 → Calls Try.prog 16 #[.slice A n c] w (DecPost w (3, Rc.zero)) := fun A n c B w h hB hn hcb => by
    have h1 := decode_enc r hc [tl]
    rw [if_neg (by simp)] at h1
    rw [← h1]
    exact decode_any A n c B (recBytes r ++ [tl]) w h hB hn hcb (fun z hz => by
      rcases List.mem_append.1 hz with h | h
      · exact hbd z h
      · simp at h; omega)
  have HCT := Lib.hid CT
  have HCL := Lib.hid CL
  have HL := Lib.hid (recBytes_length r)
  clear hc h0 h1 h2 h3 h4 h5 h6 h7 hbd CT CL
  have hx := one_nums .u8 (recBytes r)
  have hn : ∃ nb, (recBytes r).length = nb ∧ 16 ≤ nb ∧ nb ≤ 40 := ⟨_, rfl, by rw [HL.out]; split <;> omega, by rw [HL.out]; split <;> omega⟩
  obtain ⟨nb, hnb, hnb1, hnb2⟩ := hn
  have HN := Lib.hid hnb
  clear hnb HL
  have pk := pick_lo cut nb (by omega)
  have pk' := pick_hi cut nb (by omega)
  have CP := fun W => Lib.hid (picked_any cut nb W (by omega) (by omega) (by omega) (by omega))
  obtain ⟨m, hm⟩ : ∃ m : Nat, pick cut nb = m := ⟨(pick cut nb).toNat, by omega⟩
  rw [hm] at pk pk' CP
  clear hm
  have hmn : m < nb := by omega
  go_enter Try.func6, Try.ntmps6
  go_wp2_with fail
  refine ((CR _).out).mono ?_
  rintro e w1 ⟨rfl, b1⟩
  have bel1 := (((Below.refl w.heap.size w).alloc (Nat.le_refl _) _).alloc (by simp) _).trans (b1.mono (by simp; omega))
  clear b1 CR
  go_wp2_with fail
  refine ((CE _).out).mono ?_
  rintro e w2 ⟨v, rfl, o2, b2⟩
  have bel2 := bel1.trans (b2.mono bel1.size)
  clear b2 bel1 CE
  rw [HN.out] at o2
  obtain ⟨A, cc, rfl, hcc, hcm⟩ := own_shape o2
  have r2 := Reads.of_own o2
  have hcb : cc ≤ 9223372036854775807 := by unfold maxLen at hcm; omega
  have D1 := Lib.hid (HCT.out A nb cc _ w2 m r2 (Nat.le_refl _) hmn hcc hcb)
  clear HCT o2 hcm
  have hnb0 : ((nb : Int) == 0) = false := beq_eq_false_iff_ne.2 (by omega)
  go_wp2_with fail
  refine ((CP _).out).mono ?_
  rintro e w3 ⟨rfl, rfl⟩
  go_wp2_with fail
  refine D1.out.mono ?_
  rintro e w3 ⟨rfl, b3⟩
  have bel3 := bel2.trans (b3.mono bel2.size)
  have r3 := (r2.below b3).alloc b3.size (.cells (Rc.cells Rc.zero) 29)
  have hs2 := bel2.size
  have hs3 := b3.size
  have bel3a := bel3.alloc bel3.size (.cells (Rc.cells Rc.zero) 29)
  clear b3 D1 r2 bel2 CP bel3
  unfold Rc.zero Ev.zero Rc.val Rc.cells at *
  have hx1 := one_nums .u8 [tl]
  have hsz3 := bel3a.size
  go_wp2_with (first
    | (at_builtin; refine wpList_append_any _ rfl (.const (.slice none 0 0)) (.tmp 40) _ rfl w.heap.size 5 i0 _ 1 1 Try.underlying31 hi0 hz0 hz1 hz2 rfl (by omega) (.slice none 0 0) 0 [] rfl (World.ownsRow_nil _ _ _ _) w2.heap.size A nb cc ((recBytes r).map (Value.int .u8)) rfl r3 hx (by simp only [maxLen]; omega) (by omega) hsz3 ?_; intro v4 w4 o4 g4 at4; have bel4 : Below w.heap.size w w4 := bel3a.grown g4 hsz3 (by simp [Value.ownBlock]))
    | (at_builtin; refine wpList_append_any _ rfl (.tmp 41) (.tmp 43) _ rfl w.heap.size 5 i0 _ 1 1 Try.underlying31 hi0 hz0 hz1 hz2 rfl (by omega) v4 (0 + nb) ([] ++ (recBytes r).map (Value.int .u8)) rfl (o4.alloc _) (w4.alloc (.cells #[.int .u8 tl] 5)).heap.size (some ⟨w4.heap.size, 0, none⟩) 1 1 [.int .u8 tl] rfl (Reads.of_own (new_row w4 5 [.int .u8 tl] _ rfl (by simp [maxLen]))) hx1 (by simp only [maxLen]; omega) (by omega) (Nat.le_trans bel4.size (by simp)) ?_; intro v5 w5 o5 g5 at5))
  have bel5 : Below w.heap.size w w5 := (bel4.alloc bel4.size _).grown g5 (Nat.le_trans bel4.size (by simp)) (own_block_ge o4)
  rw [List.nil_append, Nat.zero_add, show [Value.int .u8 tl] = [tl].map (Value.int .u8) from rfl, ← List.map_append] at o5
  obtain ⟨A5, c5, rfl, hc5, hcm5⟩ := own_shape o5
  have D2 := Lib.hid (HCL.out A5 (nb + 1) c5 _ w5 (Reads.of_own o5) (Nat.le_refl _) hc5 (by unfold maxLen at hcm5; omega))
  clear HCL o5 g5 at5 o4 g4 at4 hcm5 r3 hx hx1
  refine D2.out.mono ?_
  rintro e w6 ⟨rfl, b6⟩
  have bel6 := bel5.trans (b6.mono bel5.size)
  clear b6 D2
  unfold Rc.val Rc.cells
  go_wp2
  go_ret
  exact ⟨ret_true (by simp), bel6.alloc bel6.size _⟩

end Go.Proofs.Ytcgamaponeglhaa
