/- WindowOnce: the walk. -/
import Derived.Test.YtogeeaplepiijaaWinTake
import Derived.Test.YtogeeaplepiijaaWinEq
import Derived.Test.YtogeeaplepiijaaPick
import Derived.Test.YtogeeaplepiijaaView
import Derived.Deep.DeepCutAuto
namespace Go.Proofs.Ytogeeaplepiijaa
open Go.RowKit

theorem int_info : (Try.prog.info? 3).map (fun i => (i.zero, i.size, i.bytes)) = some (some (.int .i64 0), 1, 8) := by kernel_rfl

theorem WOk.none_o : WOk 0 (fun _ => false) := ⟨by omega, by omega, fun _ h => by simp at h, fun h => by omega⟩

set_option maxRecDepth 100000 in
set_option maxHeartbeats 4000000 in
theorem windowOnce_walk (A : Option Addr) (n c : Nat) (zs : List Int) (a1 : Int) (w : World) (h0 : IsNums .i64 8 w A n c zs) (h1 : Is64 a1) :
    Calls Try.prog 8 #[.slice A n c, .int .i64 a1] w fun e w' => e = .returned (.bool true) ∧ Below w.heap.size w w' := by
  obtain ⟨hl, hnc, hcb, hr, hwf⟩ := h0
  obtain ⟨h11, h12⟩ := h1
  obtain ⟨i0, hi0, hz0, hz1, hz2⟩ := info_parts int_info
  go_enter Try.func8, Try.ntmps8
  go_wp2
  go_loopw [6, 7] (fun v s7 wr => ∃ i : Nat, i ≤ n ∧ i ≤ 40 ∧ s7 = .int .i64 i ∧ ∃ (top : Int) (S : Int → Bool) (F : List Int), WOk top S ∧ top ≤ 60 ∧ (∀ x, S x = true ↔ x ∈ F) ∧ F.length ≤ i ∧
      Blk wr w.heap.size 47 (winCells top (shows top S)) ∧ wr.ownsRow w.heap.size 3 1 v F.length (F.map (Value.int .i64)) ∧ Below w.heap.size w wr) (fun _ s7 _ => 40 - (intOf s7).toNat)
  case atStart => exact ⟨0, by omega, by omega, rfl, 0, fun _ => false, [], WOk.none_o, by omega, by simp, by simp, Blk.new w 47 (winCells 0 (shows 0 fun _ => false)), World.ownsRow_nil _ _ _ _, (Below.refl _ _).alloc (Nat.le_refl _) _⟩
  case round =>
    obtain ⟨i, hi, hi40, rfl, top, S, F, ok, htop, hSF, hFl, eB, eF, eW⟩ := hrel
    obtain ⟨B, cp, rfl, hcp, hcm⟩ := own_shape eF
    by_cases hin : i < n ∧ i < 40
    · obtain ⟨hin1, hin2⟩ := hin
      obtain ⟨b, off, rfl, hbb, hcell⟩ := hr.plain (by omega) (by omega)
      have g1 : wr.cell? ⟨b, off + i, none⟩ = some (.int .i64 (zs.getD i 0)) := (eW.cell (p := ⟨b, off + i, none⟩) hbb).trans (hcell i _ (by
        rw [List.getElem?_map, List.getElem?_eq_getElem (show i < zs.length by omega)]; simp [List.getD, List.getElem?_eq_getElem (show i < zs.length by omega)]))
      obtain ⟨l1, l2⟩ := is64_of_wf (hwf (zs.getD i 0) (by rw [List.getD, List.getElem?_eq_getElem (show i < zs.length by omega)]; simp))
      generalize zs.getD i 0 = z at *
      clear hcell hr hwf
      have p1 := pick_lo z 60 (by omega)
      have p2 := pick_hi z 60 (by omega)
      go_wp2_with fail
      refine (picked_any _ _ _ (by omega) (by omega) (by omega) (by omega)).mono ?_
      rintro e w1 ⟨rfl, rfl⟩
      generalize pick z 60 = id at *
      obtain ⟨a0', a1', a2', a3', a4', a5', a6', a7', a8'⟩ := winBlk eB
      have CL := Lib.hid (fun W h => wtake_low top S id W ok (by omega) (by omega) h)
      have CS := Lib.hid (fun W => wtake_seen top S id W ok (by omega) (by omega))
      have CF := Lib.hid (fun W => wtake_fresh top S id W ok (by omega) (by omega))
      obtain ⟨q, hq⟩ : ∃ q, shows top S = q := ⟨_, rfl⟩
      rw [hq] at eB a1' a2' a3' a4' a5' a6' a7' a8'
      have HQ := Lib.hid hq
      have zB := eB.lt
      have HS := Lib.hid hSF
      have HO := Lib.hid ok
      clear hSF ok
      by_cases hlow : id < top - 8
      · go_wp2_with fail
        have C := CL.out wr hlow
        rw [hq] at C
        refine C.mono ?_
        rintro e w2 ⟨rfl, hb⟩
        have eB2 := eB.below hb eB.lt
        have eF2 := own_below eF hb (Nat.le_refl _)
        have eW2 := eW.trans (hb.mono eW.size)
        have x0 := (winBlk eB2).1
        have zz := eB2.lt
        have hI : ¬ top - 8 ≤ id := by omega
        clear C CL CS CF hb a0' a1' a2' a3' a4' a5' a6' a7' a8' eB eF eW
        unfold winCells
        clear hq
        go_wp2
        go_roundw
        case rel => exact ⟨i + 1, by omega, by omega, by go_num, top, S, F, HO.out, htop, HS.out, by omega, by rw [HQ.out]; exact eB2.alloc _, eF2.alloc _, eW2.alloc eW2.size _⟩
        case measure => simp [intOf]; omega
      · have hge : top - 8 ≤ id := by omega
        cases hs : S id with
        | true =>
          have hlt : id < top := (HO.out.in_ id hs).2
          have C := CS.out wr hge hs
          rw [hq] at C
          clear hq hs
          go_wp2_with fail
          refine C.mono ?_
          rintro e w2 ⟨rfl, hb⟩
          have eB2 := eB.below hb eB.lt
          have eF2 := own_below eF hb (Nat.le_refl _)
          have eW2 := eW.trans (hb.mono eW.size)
          have x0 := (winBlk eB2).1
          have zz := eB2.lt
          clear C CL CS CF hb a0' a1' a2' a3' a4' a5' a6' a7' a8' eB eF eW
          unfold winCells
          go_wp2
          go_loop [12] (fun u => ∃ k : Nat, k ≤ F.length ∧ u = .int .i64 k) (fun u => F.length - (intOf u).toNat)
          case atStart => exact ⟨0, Nat.zero_le _, rfl⟩
          case round =>
            obtain ⟨k, hk, rfl⟩ := hrel
            by_cases hkl : k < F.length
            · obtain ⟨gF, cF, hv, _, _, _, hgl⟩ := own_head eF2 (by omega)
              simp only [Value.slice.injEq] at hv
              obtain ⟨rfl, _, _⟩ := hv
              have gc : w2.cell? ⟨gF, k, none⟩ = some (.int .i64 (F.getD k 0)) := by
                rw [eF2.cellAt k (by omega), List.getElem?_map, List.getElem?_eq_getElem hkl]; simp [List.getD, List.getElem?_eq_getElem hkl]
              generalize F.getD k 0 = y at *
              have hkI : (k : Int) < (F.length : Int) := by omega
              by_cases hy : y = id
              · have hyb : (y == id) = true := beq_iff_eq.2 hy
                clear hy
                go_wp2
                go_round
                case rel => exact ⟨k + 1, by omega, by go_num⟩
                case measure => simp [intOf]; omega
              · have hyb : (y == id) = false := beq_eq_false_iff_ne.2 hy
                clear hy
                go_wp2
                go_round
                case rel => exact ⟨k + 1, by omega, by go_num⟩
                case measure => simp [intOf]; omega
            · have hkI : ¬ (k : Int) < (F.length : Int) := by omega
              have fB := eB2.frozen
              obtain ⟨x0', x1, x2, x3, x4, x5, x6, x7, x8⟩ := winBlk eB2
              go_wp2
              rw [put9_eq]
              have eB3 := put9_blk eB2 top q
              have eF3 := put9_own eF2 (own_blk_ne eF2 eB2 (by decide)) top q
              have eW3 := put9_below eW2 (Nat.le_refl w.heap.size) top q
              go_roundw
              case rel => exact ⟨i + 1, by omega, by omega, by go_num, top, S, F, HO.out, htop, HS.out, by omega, by rw [HQ.out]; exact eB3.alloc _, eF3.alloc _, eW3.alloc eW3.size _⟩
              case measure => simp [intOf]; omega
        | false =>
          have C := CF.out wr hge hs (max top (id + 1)) rfl
          rw [hq] at C
          have hs' : ∀ x, (S x || x == id) = true ↔ x ∈ F ++ [id] := fun x => by
            rw [Bool.or_eq_true_iff, HS.out, List.mem_append, beq_iff_eq]; simp
          have HS' := Lib.hid hs'
          have hnot : ∀ k, k < F.length → (F.getD k 0 == id) = false := fun k hk => by
            rw [beq_eq_false_iff_ne]
            intro e
            have hm : id ∈ F := by rw [← e, List.getD, List.getElem?_eq_getElem hk]; simp
            have := (HS.out id).2 hm
            rw [hs] at this
            cases this
          have HN := Lib.hid hnot
          have ok' := HO.out.take (id := id) (by omega) (by omega)
          have HO' := Lib.hid ok'
          have ht1 : top ≤ max top (id + 1) := by omega
          have ht2 : id < max top (id + 1) := by omega
          have ht3 : max top (id + 1) ≤ 60 := by omega
          clear hq hs hs' hnot ok'
          go_wp2_with fail
          refine C.mono ?_
          rintro e w2 ⟨rfl, hb⟩
          generalize max top (id + 1) = t' at *
          obtain ⟨q', hq'⟩ : ∃ q', shows t' (fun x => S x || x == id) = q' := ⟨_, rfl⟩
          rw [hq']
          have HQ' := Lib.hid hq'
          clear hq'
          have eB2 := eB.below hb eB.lt
          have eF2 := own_below eF hb (Nat.le_refl _)
          have eW2 := eW.trans (hb.mono eW.size)
          have x0 := (winBlk eB2).1
          have zz := eB2.lt
          clear C CL CS CF hb a0' a1' a2' a3' a4' a5' a6' a7' a8' eB eF eW
          unfold winCells
          go_wp2
          go_loop [12] (fun u => ∃ k : Nat, k ≤ F.length ∧ u = .int .i64 k) (fun u => F.length - (intOf u).toNat)
          case atStart => exact ⟨0, Nat.zero_le _, rfl⟩
          case round =>
            obtain ⟨k, hk, rfl⟩ := hrel
            by_cases hkl : k < F.length
            · obtain ⟨gF, cF, hv, _, _, _, hgl⟩ := own_head eF2 (by omega)
              simp only [Value.slice.injEq] at hv
              obtain ⟨rfl, _, _⟩ := hv
              have gc : w2.cell? ⟨gF, k, none⟩ = some (.int .i64 (F.getD k 0)) := by
                rw [eF2.cellAt k (by omega), List.getElem?_map, List.getElem?_eq_getElem hkl]; simp [List.getD, List.getElem?_eq_getElem hkl]
              have hyb := HN.out k hkl
              generalize F.getD k 0 = y at *
              have hkI : (k : Int) < (F.length : Int) := by omega
              go_wp2
              go_round
              case rel => exact ⟨k + 1, by omega, by go_num⟩
              case measure => simp [intOf]; omega
            · have hkI : ¬ (k : Int) < (F.length : Int) := by omega
              have fB := eB2.frozen
              obtain ⟨x0', x1, x2, x3, x4, x5, x6, x7, x8⟩ := winBlk eB2
              clear x0 x0' x1 x2 x3 x4 x5 x6 x7 x8 fB
              go_upto_region 19 with fail
              have eB3 := eB2.alloc (.cells (winCells t' q') 47)
              have eN3 := Blk.new w2 47 (winCells t' q')
              have eF3 := eF2.alloc (.cells (winCells t' q') 47)
              have eW3 := eW2.alloc eW2.size (.cells (winCells t' q') 47)
              obtain ⟨gn, hgn⟩ : ∃ gn, gn = w2.heap.size := ⟨_, rfl⟩
              have hgn1 : w.heap.size < gn := by omega
              rw [← hgn] at eN3 ⊢
              clear hgn
              unfold winCells at eB3 eN3 eF3 eW3
              generalize w2.alloc (.cells #[.int .i64 t', .bool (q' 0), .bool (q' 1), .bool (q' 2), .bool (q' 3), .bool (q' 4), .bool (q' 5), .bool (q' 6), .bool (q' 7)] 47) = w3 at *
              have src := Reads.of_own (new_row w3 3 [.int .i64 id] _ rfl (by simp [maxLen]))
              have hsz3 := eW3.size
              go_wp2_with (at_builtin; refine wpList_append_any _ rfl _ _ _ rfl w.heap.size 3 i0 _ 1 8 Try.underlying44 hi0 hz0 hz1 hz2 rfl (by omega) _ F.length (F.map (Value.int .i64)) rfl (eF3.alloc _) _ (some ⟨w3.heap.size, 0, none⟩) 1 1 [.int .i64 id] rfl src (by simp [Value.oneCell']) (by simp only [maxLen]; omega) (by omega) (by simp; omega) ?_; intro v4 w4 o4 g4 at4; have eB4 := (eB3.alloc (.cells #[.int .i64 id] 3)).grown g4 (Ne.symm (own_blk_ne eF3 eB3 (by decide))); have eN4 := (eN3.alloc (.cells #[.int .i64 id] 3)).grown g4 (Ne.symm (own_blk_ne eF3 eN3 (by decide))); have eW4 := (eW3.alloc eW3.size (.cells #[.int .i64 id] 3)).grown g4 (Nat.le_trans eW3.size (by simp)) (fun k hk => (eF3.lt k hk).1); obtain ⟨n0, n1, n2, n3, n4, n5, n6, n7, n8⟩ := winBlk (top := t') (f := q') eN4; obtain ⟨x0', x1, x2, x3, x4, x5, x6, x7, x8⟩ := winBlk eB4; have fB := eB4.frozen)
              rw [put9_eq]
              have eB5 := put9_blk eB4 t' q'
              have eF5 := put9_own o4 (own_blk_ne o4 eB4 (by decide)) t' q'
              have eW5 := put9_below eW4 (Nat.le_refl w.heap.size) t' q'
              have e5 : F.map (Value.int .i64) ++ [.int .i64 id] = (F ++ [id]).map (Value.int .i64) := by simp
              rw [e5] at eF5
              go_roundw
              case rel => exact ⟨i + 1, by omega, by omega, by go_num, t', _, F ++ [id], HO'.out, ht3, HS'.out, by simp; omega, by rw [HQ'.out]; exact eB5, by simpa using eF5, eW5⟩
              case measure => simp [intOf]; omega
    · have HO := Lib.hid ok
      have HS := Lib.hid hSF
      have htop0 := ok.lo
      have htz : F.length = 0 → top = 0 := fun h => by
        have hF : F = [] := List.eq_nil_of_length_eq_zero h
        rcases Int.lt_or_le 0 top with h' | h'
        · have := (hSF _).1 (ok.last h')
          rw [hF] at this
          simp at this
        · omega
      have hmem : ∀ k, k < F.length → S (F.getD k 0) = true := fun k hk => (hSF _).2 (by rw [List.getD, List.getElem?_eq_getElem hk]; simp)
      clear hr hwf hSF ok
      obtain ⟨q, hq⟩ : ∃ q, shows top S = q := ⟨_, rfl⟩
      have x0 := (winBlk eB).1
      have hend : (i : Int) < (n : Int) → ¬ (i : Int) < 40 := fun h h' => hin ⟨by omega, by omega⟩
      have HZ := Lib.hid htz
      have HM := Lib.hid hmem
      clear htz hmem hin
      by_cases hn1 : (i : Int) < (n : Int)
      all_goals
        try have hn2 := hend hn1
        clear hend
        by_cases hF0 : F.length = 0
        · have ht0 := HZ.out hF0
          have hl0 : ((F.length : Int) == 0) = true := by rw [beq_iff_eq]; omega
          have ht1 : (top == 0) = true := by rw [beq_iff_eq]; exact ht0
          clear ht0 hF0 hq
          go_wp2
          go_ret
          exact ⟨rfl, eW⟩
        · have hl0 : ((F.length : Int) == 0) = false := by rw [beq_eq_false_iff_ne]; omega
          have pk := pick_lo a1 F.length (by omega)
          have pk' := pick_hi a1 F.length (by omega)
          clear hq
          go_wp2_with fail
          refine (picked_any _ _ _ (by omega) (by omega) (by omega) (by omega)).mono ?_
          rintro e w1 ⟨rfl, rfl⟩
          obtain ⟨k, hk⟩ := Int.eq_ofNat_of_zero_le pk
          rw [hk] at pk' ⊢
          clear hk pk
          obtain ⟨gF, cF, hv, _, _, _, hgl⟩ := own_head eF (by omega)
          simp only [Value.slice.injEq] at hv
          obtain ⟨rfl, _, _⟩ := hv
          have hkl : k < F.length := by omega
          have gc : wr.cell? ⟨gF, k, none⟩ = some (.int .i64 (F.getD k 0)) := by
            rw [eF.cellAt k (by omega), List.getElem?_map, List.getElem?_eq_getElem hkl]; simp [List.getD, List.getElem?_eq_getElem hkl]
          have hSk := HM.out k hkl
          have hidb := HO.out.in_ _ hSk
          generalize F.getD k 0 = id at *
          have HSk := Lib.hid hSk
          clear hSk
          obtain ⟨q, hq⟩ : ∃ q, shows top S = q := ⟨_, rfl⟩
          rw [hq] at eB
          obtain ⟨x0', x1, x2, x3, x4, x5, x6, x7, x8⟩ := winBlk eB
          have HQ := Lib.hid hq
          clear hq
          go_wp2_with fail
          by_cases hlow : id < top - 8
          · have C := wtake_low top S id wr HO.out (by omega) (by omega) hlow
            rw [HQ.out] at C
            refine C.mono ?_
            rintro e w2 ⟨rfl, hb⟩
            have eW2 := eW.trans (hb.mono eW.size)
            clear C hb
            unfold winCells
            go_wp2
            go_ret
            exact ⟨rfl, eW2.alloc eW2.size _⟩
          · have C := wtake_seen top S id wr HO.out (by omega) (by omega) (by omega) HSk.out
            rw [HQ.out] at C
            refine C.mono ?_
            rintro e w2 ⟨rfl, hb⟩
            have eW2 := eW.trans (hb.mono eW.size)
            clear C hb
            unfold winCells
            go_wp2
            go_ret
            exact ⟨rfl, eW2.alloc eW2.size _⟩

end Go.Proofs.Ytogeeaplepiijaa
