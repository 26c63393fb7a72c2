/- QueueAcked: the walk. -/
import Derived.Test.YtkolmpeghnkjkaaQL
import Derived.Test.YtkolmpeghnkjkaaPlLaw
import Derived.Deep.RegionHeld3
namespace Go.Proofs.Ytkolmpeghnkjkaa
open Go.RowKit

theorem eraseP_gone (no : Int) : ∀ (l : List (Int × Int × Int)), l.Pairwise (fun a b => a.1 < b.1) → (l.eraseP (isNo no)).any (isNo no) = false
  | [], _ => rfl
  | x :: l, h => by
    obtain ⟨h1, h2⟩ := List.pairwise_cons.1 h
    by_cases hx : x.1 = no
    · rw [List.eraseP_cons_of_pos (by simp [isNo, hx])]
      refine List.any_eq_false.2 fun y hy => ?_
      have := h1 y hy
      simp [isNo]
      omega
    · rw [List.eraseP_cons_of_neg (by simp [isNo, hx]), List.any_cons, eraseP_gone no l h2]
      simp [isNo, hx]
theorem any_at (l : List (Int × Int × Int)) (j : Nat) (hj : j < l.length) : l.any (isNo (l.getD j (0, 0, 0)).1) = true := by
  have e : l.getD j (0, 0, 0) = l[j] := by simp [List.getD, List.getElem?_eq_getElem hj]
  rw [e]
  exact List.any_eq_true.2 ⟨l[j], List.getElem_mem hj, by simp [isNo]⟩

set_option maxRecDepth 100000 in
set_option maxHeartbeats 8000000 in
theorem queueAcked_walk (A : Option Addr) (n c : Nat) (rows : List (List Int)) (id : Int) (w : World) (h : IsRows 4 32 w A n c rows) (hid : Is64 id) :
    Calls Try.prog 7 #[.slice A n c, .int .i64 id] w fun e w' => e = .returned (.bool true) ∧ Below w.heap.size w w' := by
  obtain ⟨hd1, hd2⟩ := hid
  go_enter Try.func7, Try.ntmps7
  go_wp2_with fail
  refine (played_any A n c 60 rows w h (by omega)).mono ?_
  rintro e w1 ⟨v, ve, va, lo, rfl, hv, hes, hans, b1⟩
  have hok := playN_ok rows (min n 60) (by omega)
  obtain ⟨p, hp⟩ : ∃ p, playN rows (min n 60) = p := ⟨_, rfl⟩
  simp only [hp] at *
  clear hp
  obtain ⟨cs, A1, c1, A2, c2, rfl, K⟩ := hv.parts
  have HS := Lib.hid K.size
  have HA := Lib.hid K.all
  have HES := Lib.hid hes
  clear hans hes
  go_upto_region 2 with (first
    | (refine wpList_alloc_row rfl 30 rfl _ q_zero ?_; intro w2 E2 g2 z2)
    | (refine wpList_store_rowQ rfl 30 (.tmp 5) (.tmp 25) rfl w1.heap.size cs rfl rfl 30 _ E2 (by rw [q_size, HS.out]) (by rw [HS.out]; rfl) HA.out ?_; intro w3 E3 g3 z3))
  have bw : Below w1.heap.size w1 w3 := ((Below.refl _ _).grown g2 (Nat.le_refl _) (fun _ h => by cases h)).grown g3 (by omega) (fun j h => by cases h; omega)
  have hv3 := hv.below bw
  have hes3 := own_below HES.out bw (Nat.le_refl _)
  have bel3 := b1.trans (bw.mono b1.size)
  have hwq := b1.size
  obtain ⟨gq, hgq⟩ : ∃ gq, gq = w1.heap.size := ⟨_, rfl⟩
  have hsz3 : w3.heap.size = gq + 1 := by omega
  have r13 := K.r1.below bw
  have r23 := K.r2.below bw
  rw [← hgq] at E3 hv3 hwq r13 r23 ⊢
  clear hv HES b1 E2 g2 g3 z2 z3 bw hgq
  have hep0 := hok.inv.e0
  have hep1 := hok.room.2.2.2
  have hlenr := hok.room.1
  have x0 := (E3.cell 0).trans K.ep
  have x4 := (E3.cell 4).trans K.ls
  have x3 := (E3.cell 3).trans K.rd
  have hE3z := E3.lt
  by_cases hls : p.q.ls.length = 0
  · have hl0 : p.q.ls = [] := List.length_eq_zero_iff.1 hls
    have hst : p.q.step ⟨3, 0, 0, 0, p.q.ep, 1000⟩ = (p.q, ⟨7, 0, 0, 0⟩, false) := by
      simp [QM.step, hl0]
    have hck : (⟨3, 0, 0, 0, p.q.ep, 1000⟩ : Ev).check = 0 := by
      unfold Ev.check
      rw [if_neg (by simp), if_pos rfl, if_pos (by simp [Ev.ok3, inB]; omega), if_pos ⟨rfl, rfl, rfl⟩]
    have hcd := do_any p.q ⟨3, 0, 0, 0, p.q.ep, 1000⟩ (.agg cs) lo gq w3 hok.inv (hok.room.less (by omega)) hck hv3 (by omega)
    rw [hst] at hcd
    have CD := Lib.hid hcd
    rw [hls] at x4
    clear hcd hst hck hl0 hls
    go_wp2_with (first
      | refine wpList_load_row rfl 30 (.tmp 5) rfl gq rfl 30 cs (0, 0) _ E3 q_under rfl (by rw [q_size, HS.out]) ?_)
    refine (CD.out).mono ?_
    rintro e waz ⟨v', rfl, hvaz, baz⟩
    obtain ⟨csz, A1z, c1z, A2z, c2z, rfl, Kz⟩ := hvaz.parts
    have HSz := Lib.hid Kz.size
    have HAz := Lib.hid Kz.all
    unfold QA.val ansV
    dsimp only
    go_upto_region 4 with (first
      | (refine wpList_alloc_row rfl 30 rfl _ q_zero ?_; intro wbz Ebz gbz zbz)
      | (refine wpList_alloc_row rfl 47 rfl _ ans_zero ?_; intro wcz Fcz gcz zcz)
      | (refine wpList_store_rowQ rfl 30 (.tmp 9) (.tmp 44) rfl waz.heap.size csz rfl rfl 30 _ (Ebz.grown gcz (by simp)) (by rw [q_size, HSz.out]) (by rw [HSz.out]; rfl) HAz.out ?_; intro wdz Edz gdz zdz)
      | (refine wpList_store_rowQ rfl 47 (.tmp 10) (.tmp 45) rfl wbz.heap.size _ rfl rfl 47 _ (Fcz.grown gdz (by simp; omega)) (by kernel_rfl) rfl (by kernel_rfl) ?_; intro wez Fez gez zez))
    have bbz : Below waz.heap.size waz wez := ((((Below.refl _ _).grown gbz (Nat.le_refl _) (fun _ h => by cases h)).grown gcz (by omega) (fun _ h => by cases h)).grown gdz (by omega) (fun j h => by cases h; omega)).grown gez (by omega) (fun j h => by cases h; omega)
    have Eez := Edz.grown gez (by simp; omega)
    have szz : wez.heap.size = waz.heap.size + 2 := by omega
    have hvez := hvaz.below bbz
    have r1z := Kz.r1.below bbz
    have r2z := Kz.r2.below bbz
    have btz : Below w3.heap.size w3 wez := baz.trans (bbz.mono baz.size)
    have laz := baz.size
    have E3z := E3.below btz (by omega)
    have bel3z := bel3.trans (btz.mono bel3.size)
    obtain ⟨gxz, hgxz⟩ : ∃ g, g = waz.heap.size := ⟨_, rfl⟩
    rw [zbz] at Fez
    rw [← hgxz] at Eez Fez hvez szz laz r1z r2z ⊢
    clear hvaz baz bbz Ebz Fcz Edz gbz gcz gdz gez zbz zcz zdz zez btz hgxz E3 bel3
    have f0 := Fez.cell 0
    clear hv3 hvez r13 r23 r1z r2z Kz K hok x0 x3 x4
    go_wp2_with fail
    go_ret
    exact ⟨rfl, bel3z⟩
  · have hlsI : ¬ ((p.q.ls.length : Nat) : Int) = 0 := by omega
    have hlsB : (((p.q.ls.length : Nat) : Int) == 0) = false := by rw [beq_eq_false_iff_ne]; omega
    obtain ⟨L, hL⟩ : ∃ L, p.q.ls.length = L := ⟨_, rfl⟩
    have j0 := pick_lo id L (by omega)
    have j1 := pick_hi id L (by omega)
    have PJ := Lib.hid (fun W => picked_any id L W hd1 hd2 (by omega) (by omega))
    obtain ⟨j, hj⟩ : ∃ j : Nat, pick id L = (j : Int) := ⟨(pick id L).toNat, by omega⟩
    rw [hj] at j0 j1 PJ
    clear hj
    have hjL : j < L := by omega
    obtain ⟨b, off, hA2, hb, y0, y1, y2, y3⟩ := lsAt r23 rfl (i := j) (by omega)
    have hany := any_at p.q.ls j (by omega)
    have hsorted := hok.inv.lss
    have hno := hok.inv.ls _ (List.getElem_mem (show j < p.q.ls.length by omega))
    have eg : p.q.ls.getD j (0, 0, 0) = p.q.ls[j]'(by omega) := by simp [List.getD, List.getElem?_eq_getElem (show j < p.q.ls.length by omega)]
    rw [← eg] at hno
    have hgv := hok.room.2.2.1
    obtain ⟨no, hno'⟩ : ∃ no, (p.q.ls.getD j (0, 0, 0)).1 = no := ⟨_, rfl⟩
    rw [hno'] at hany hno y1
    obtain ⟨hn0, hn1, _⟩ := hno
    have hst : p.q.step ⟨3, 0, 0, 0, p.q.ep, no⟩ = (p.q.ack no, ⟨0, 0, 0, 0⟩, true) := by
      simp [QM.step, hany]
    have hck : (⟨3, 0, 0, 0, p.q.ep, no⟩ : Ev).check = 0 := by
      unfold Ev.check
      rw [if_neg (by simp), if_pos rfl, if_pos (by simp [Ev.ok3, inB]; omega), if_pos ⟨rfl, rfl, rfl⟩]
    have hgone := eraseP_gone no p.q.ls hsorted
    have hst2 : (p.q.ack no).step ⟨3, 0, 0, 0, p.q.ep, no⟩ = (p.q.ack no, ⟨7, 0, 0, 0⟩, false) := by
      simp [QM.step, QM.ack, hgone]
    have hlenE := eraseP_len no p.q.ls hany
    have HCD1 := Lib.hid (fun (W : World) (B : Nat) hv (hB : B ≤ W.heap.size) => do_any p.q ⟨3, 0, 0, 0, p.q.ep, no⟩ (.agg cs) lo B W hok.inv (hok.room.less (by omega)) hck hv hB)
    have HCD2 := Lib.hid (fun (W : World) (cs' : Array Value) (lo' B : Nat) hv (hB : B ≤ W.heap.size) => do_any (p.q.ack no) ⟨3, 0, 0, 0, p.q.ep, no⟩ (.agg cs') lo' B W (hok.inv.ack no) (by have := (hok.room.less (show 2 ≤ 100 - min n 60 by omega)).step ⟨3, 0, 0, 0, p.q.ep, no⟩; rw [hst] at this; exact this) hck hv hB)
    have HST1 := Lib.hid hst
    have HST2 := Lib.hid hst2
    have HNO := Lib.hid hno'
    clear hst hst2 hck hany hgone hsorted hgv eg hno'
    rw [hL] at x4
    subst hA2
    have hjc : (j : Int) < (L : Int) := by omega
    have hj0 : (0 : Int) ≤ (j : Int) := by omega
    have hLc : (L : Int) ≤ (c2 : Int) := by have := K.le2; omega
    have hbw : b < w3.heap.size := by omega
    rw [hL] at hlsI hlsB
    have E3' := Lib.hid E3
    have hgb : ¬ b = w3.heap.size := by omega
    have hgb' : ¬ w3.heap.size = b := by omega
    have hgq : ¬ gq = w3.heap.size := by omega
    have hgq' : ¬ w3.heap.size = gq := by omega
    go_upto_region 5 with fail
    go_cut [13] (fun s13 wx => ∃ gh, s13 = .pointer (some ⟨gh, 0, none⟩) ∧ Blk wx gh 43 #[.int .i64 p.q.ep, .int .i64 no] ∧ Below w3.heap.size w3 wx ∧ w3.heap.size ≤ gh)
    case first =>
      go_region_held3 (fun W => W.cell? ⟨gq, 4, none⟩ = some (.slice (some ⟨b, off, none⟩) L c2) ∧ W.cell? ⟨b, off + j * 4, none⟩ = some (.int .i64 p.q.ep) ∧ W.cell? ⟨b, off + j * 4 + 1, none⟩ = some (.int .i64 no)) (go_keep)
        (first | (go_at_call 17; refine (PJ.out _).mono ?_; rintro e w' ⟨rfl, rfl⟩))
      all_goals
        go_wp2_with fail
        go_meet
        exact ⟨gq + 1, rfl, (Blk.new' hsz3).drew, ((Below.refl _ _).alloc (Nat.le_refl _) _).drew, by omega⟩
    case rest =>
      obtain ⟨gh, rfl, BH, bx, hgh⟩ := hcut
      have Ec := E3.below bx E3.lt
      have hvc := hv3.below (bx.mono (by omega))
      have belc := bel3.trans (bx.mono bel3.size)
      have hszc := bx.size
      have r1c := r13.below (bx.mono (by omega))
      have h0 := BH.cell 0
      have h1 := BH.cell 1
      have hghz := BH.lt
      have CD := Lib.hid (HCD1.out wc gq hvc (by omega))
      rw [HST1.out] at CD
      have hqz : gq < wc.heap.size := by omega
      clear HCD1 E3 E3' hv3 bel3 r13 r23 x0 x3 x4 y0 y1 y2 y3 bx PJ hgb hgb' hgq hgq' hbw hsz3 hE3z
      go_wp2_with (first
        | refine wpList_load_row rfl 30 (.tmp 5) rfl gq rfl 30 cs (0, 0) _ Ec q_under rfl (by rw [q_size, HS.out]) ?_)
      refine (CD.out).mono ?_
      rintro e way ⟨v', rfl, hvay, bay⟩
      obtain ⟨csy, A1y, c1y, A2y, c2y, rfl, Ky⟩ := hvay.parts
      have HSy := Lib.hid Ky.size
      have HAy := Lib.hid Ky.all
      unfold QA.val ansV
      dsimp only
      go_upto_region 7 with (first
        | (refine wpList_alloc_row rfl 30 rfl _ q_zero ?_; intro wby Eby gby zby)
        | (refine wpList_alloc_row rfl 47 rfl _ ans_zero ?_; intro wcy Fcy gcy zcy)
        | (refine wpList_store_rowQ rfl 30 (.tmp 14) (.tmp 73) rfl way.heap.size csy rfl rfl 30 _ (Eby.grown gcy (by simp)) (by rw [q_size, HSy.out]) (by rw [HSy.out]; rfl) HAy.out ?_; intro wdy Edy gdy zdy)
        | (refine wpList_store_rowQ rfl 47 (.tmp 15) (.tmp 74) rfl wby.heap.size _ rfl rfl 47 _ (Fcy.grown gdy (by simp; omega)) (by kernel_rfl) rfl (by kernel_rfl) ?_; intro wey Fey gey zey))
      have bby : Below way.heap.size way wey := ((((Below.refl _ _).grown gby (Nat.le_refl _) (fun _ h => by cases h)).grown gcy (by omega) (fun _ h => by cases h)).grown gdy (by omega) (fun j h => by cases h; omega)).grown gey (by omega) (fun j h => by cases h; omega)
      have Eey := Edy.grown gey (by simp; omega)
      have szy : wey.heap.size = way.heap.size + 2 := by omega
      have hvey := hvay.below bby
      have r1y := Ky.r1.below bby
      have r2y := Ky.r2.below bby
      have bty : Below wc.heap.size wc wey := bay.trans (bby.mono bay.size)
      have lay := bay.size
      have Ecy := Ec.below bty (by omega)
      have belcy := belc.trans (bty.mono belc.size)
      have BHy := BH.below bty (by omega)
      obtain ⟨gxy, hgxy⟩ : ∃ g, g = way.heap.size := ⟨_, rfl⟩
      rw [zby] at Fey
      rw [← hgxy] at Eey Fey hvey szy lay r1y r2y ⊢
      clear hvay bay bby Eby Fcy Edy gby gcy gdy gey zby zcy zdy zey bty hgxy Ec belc BH

      have h0 := BHy.cell 0
      have h1 := BHy.cell 1
      have hghz := BHy.lt
      have CD := Lib.hid (HCD2.out wey csy wc.heap.size gxy hvey (by omega))
      rw [HST2.out] at CD
      clear HCD2
      go_wp2_with (first
        | refine wpList_load_row rfl 30 (.tmp 14) rfl gxy rfl 30 csy (0, 0) _ Eey q_under rfl (by rw [q_size, HSy.out]) ?_)
      refine (CD.out).mono ?_
      rintro e waz ⟨v', rfl, hvaz, baz⟩
      obtain ⟨csz, A1z, c1z, A2z, c2z, rfl, Kz⟩ := hvaz.parts
      have HSz := Lib.hid Kz.size
      have HAz := Lib.hid Kz.all
      unfold QA.val ansV
      dsimp only
      go_upto_region 8 with (first
        | (refine wpList_alloc_row rfl 30 rfl _ q_zero ?_; intro wbz Ebz gbz zbz)
        | (refine wpList_alloc_row rfl 47 rfl _ ans_zero ?_; intro wcz Fcz gcz zcz)
        | (refine wpList_store_rowQ rfl 30 (.tmp 18) (.tmp 82) rfl waz.heap.size csz rfl rfl 30 _ (Ebz.grown gcz (by simp)) (by rw [q_size, HSz.out]) (by rw [HSz.out]; rfl) HAz.out ?_; intro wdz Edz gdz zdz)
        | (refine wpList_store_rowQ rfl 47 (.tmp 19) (.tmp 83) rfl wbz.heap.size _ rfl rfl 47 _ (Fcz.grown gdz (by simp; omega)) (by kernel_rfl) rfl (by kernel_rfl) ?_; intro wez Fez gez zez))
      have bbz : Below waz.heap.size waz wez := ((((Below.refl _ _).grown gbz (Nat.le_refl _) (fun _ h => by cases h)).grown gcz (by omega) (fun _ h => by cases h)).grown gdz (by omega) (fun j h => by cases h; omega)).grown gez (by omega) (fun j h => by cases h; omega)
      have Eez := Edz.grown gez (by simp; omega)
      have szz : wez.heap.size = waz.heap.size + 2 := by omega
      have hvez := hvaz.below bbz
      have r1z := Kz.r1.below bbz
      have r2z := Kz.r2.below bbz
      have btz : Below wey.heap.size wey wez := baz.trans (bbz.mono baz.size)
      have laz := baz.size
      have Ecyz := Ecy.below btz (by omega)
      have belcyz := belcy.trans (btz.mono belcy.size)
      have Eeyz := Eey.below btz (by omega)
      have Feyz := Fey.below btz (by omega)
      obtain ⟨gxz, hgxz⟩ : ∃ g, g = waz.heap.size := ⟨_, rfl⟩
      rw [zbz] at Fez
      rw [← hgxz] at Eez Fez hvez szz laz r1z r2z ⊢
      clear hvaz baz bbz Ebz Fcz Edz gbz gcz gdz gez zbz zcz zdz zez btz hgxz Ecy belcy Eey Fey

      have q4 := (Ecyz.cell 4).trans K.ls
      have q3 := (Ecyz.cell 3).trans K.rd
      have x4 := (Eeyz.cell 4).trans Ky.ls
      have x3 := (Eeyz.cell 3).trans Ky.rd
      have f0 := Feyz.cell 0
      have g0 := Fez.cell 0
      have eM : (p.q.ack no).ls.length = L - 1 := by simp only [QM.ack]; omega
      have eR : (p.q.ack no).rd.length = p.q.rd.length := rfl
      rw [eM] at x4
      rw [eR] at x3
      rw [hL] at q4
      have iw : IntKind.i64.wrap ((L : Int) - 1) = (L : Int) - 1 := IntWalk.i64_in _ (by omega)
      have eLM : ((L - 1 : Nat) : Int) = (L : Int) - 1 := by omega
      clear r1z r2z r1y r2y hvez hvey hvc r1c Kz Ky K HST1 HST2 HNO CD hok hlsI hlsB hlenE eM eR hL Ecyz Eeyz Fez Feyz Eez BHy h0 h1
      go_wp2_with fail
      go_ret
      exact ⟨rfl, belcyz⟩
