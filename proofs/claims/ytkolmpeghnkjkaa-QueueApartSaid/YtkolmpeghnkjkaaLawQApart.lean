/- QueueApart: the walk. -/
import Derived.Test.YtkolmpeghnkjkaaQL
import Derived.Test.YtkolmpeghnkjkaaPlLaw
namespace Go.Proofs.Ytkolmpeghnkjkaa
open Go.RowKit

set_option maxRecDepth 100000 in
set_option maxHeartbeats 8000000 in
theorem queueApart_walk (A : Option Addr) (n c : Nat) (rows : List (List Int)) (id : Int) (w : World) (h : IsRows 4 32 w A n c rows) (hid : Is64 id) :
    Calls Try.prog 8 #[.slice A n c, .int .i64 id] w fun e w' => e = .returned (.bool true) ∧ Below w.heap.size w w' := by
  obtain ⟨hd1, hd2⟩ := hid
  have i0 := pick_lo id 1000 (by omega)
  have i1 := pick_hi id 1000 (by omega)
  have PI := Lib.hid (fun W => picked_any id 1000 W hd1 hd2 (by omega) (by omega))
  generalize pick id 1000 = m at *
  go_enter Try.func8, Try.ntmps8
  go_wp2_with fail
  refine (played_any A n c 60 rows w h (by omega)).mono ?_
  rintro e w1 ⟨v, ve, va, lo, rfl, hv, hes, hans, b1⟩
  have hok := playN_ok rows (min n 60) (by omega)
  have hw3 := playN_win rows 3 (by omega) (min n 60)
  obtain ⟨p, hp⟩ : ∃ p, playN rows (min n 60) = p := ⟨_, rfl⟩
  simp only [hp] at *
  clear hp
  obtain ⟨cs, A1, c1, A2, c2, rfl, K⟩ := hv.parts
  have HS := Lib.hid K.size
  have HA := Lib.hid K.all
  have HES := Lib.hid hes
  clear hans hes
  go_upto_region 2 with (first
    | (refine wpList_alloc_row rfl 30 rfl _ q_zero ?_; intro w2 E2 g2 z2)
    | (refine wpList_store_rowQ rfl 30 (.tmp 5) (.tmp 17) rfl w1.heap.size cs rfl rfl 30 _ E2 (by rw [q_size, HS.out]) (by rw [HS.out]; rfl) HA.out ?_; intro w3 E3 g3 z3))
  have bw : Below w1.heap.size w1 w3 := ((Below.refl _ _).grown g2 (Nat.le_refl _) (fun _ h => by cases h)).grown g3 (by omega) (fun j h => by cases h; omega)
  have hv3 := hv.below bw
  have hes3 := own_below HES.out bw (Nat.le_refl _)
  have bel3 := b1.trans (bw.mono b1.size)
  have hwq := b1.size
  obtain ⟨gq, hgq⟩ : ∃ gq, gq = w1.heap.size := ⟨_, rfl⟩
  have hsz3 : w3.heap.size = gq + 1 := by omega
  have r13 := K.r1.below bw
  have r23 := K.r2.below bw
  rw [← hgq] at E3 hv3 hwq r13 r23 ⊢
  clear hv HES b1 E2 g2 g3 z2 z3 bw hgq
  go_upto_region 3 with (go_at_call 17; refine (PI.out _).mono ?_; rintro e w' ⟨rfl, rfl⟩)
  have hst : p.q.step ⟨1, 3, m, 5, 0, 0⟩ = (p.q.pub 3 m 5, ⟨0, 0, 0, 0⟩, true) := by
    unfold QM.step
    rw [if_pos rfl]
    show (if m < p.q.t 3 - 8 then _ else if p.q.S 3 m = true then _ else _) = _
    rw [hw3.1, hw3.2, if_neg (by omega), if_neg (by simp)]
    rfl
  have hck : (⟨1, 3, m, 5, 0, 0⟩ : Ev).check = 0 := by
    unfold Ev.check
    rw [if_pos rfl, if_pos (by simp [Ev.ok1, inB]; omega), if_pos ⟨rfl, rfl⟩]
  have hcd := do_any p.q ⟨1, 3, m, 5, 0, 0⟩ (.agg cs) lo gq w3 hok.inv (hok.room.less (by omega)) hck hv3 (by omega)
  rw [hst] at hcd
  have CD := Lib.hid hcd
  have hE3z := E3.lt
  clear hcd hst hck hw3
  go_wp2_with (first
    | refine wpList_load_row rfl 30 (.tmp 5) rfl gq rfl 30 cs (0, 0) _ E3 q_under rfl (by rw [q_size, HS.out]) ?_)
  refine (CD.out).mono ?_
  rintro e waz ⟨v', rfl, hvaz, baz⟩
  obtain ⟨csz, A1z, c1z, A2z, c2z, rfl, Kz⟩ := hvaz.parts
  have HSz := Lib.hid Kz.size
  have HAz := Lib.hid Kz.all
  unfold QA.val ansV
  dsimp only
  go_upto_region 4 with (first
    | (refine wpList_alloc_row rfl 30 rfl _ q_zero ?_; intro wbz Ebz gbz zbz)
    | (refine wpList_alloc_row rfl 47 rfl _ ans_zero ?_; intro wcz Fcz gcz zcz)
    | (refine wpList_store_rowQ rfl 30 (.tmp 10) (.tmp 28) rfl waz.heap.size csz rfl rfl 30 _ (Ebz.grown gcz (by simp)) (by rw [q_size, HSz.out]) (by rw [HSz.out]; rfl) HAz.out ?_; intro wdz Edz gdz zdz)
    | (refine wpList_store_rowQ rfl 47 (.tmp 11) (.tmp 29) rfl wbz.heap.size _ rfl rfl 47 _ (Fcz.grown gdz (by simp; omega)) (by kernel_rfl) rfl (by kernel_rfl) ?_; intro wez Fez gez zez))
  have bbz : Below waz.heap.size waz wez := ((((Below.refl _ _).grown gbz (Nat.le_refl _) (fun _ h => by cases h)).grown gcz (by omega) (fun _ h => by cases h)).grown gdz (by omega) (fun j h => by cases h; omega)).grown gez (by omega) (fun j h => by cases h; omega)
  have Eez := Edz.grown gez (by simp; omega)
  have szz : wez.heap.size = waz.heap.size + 2 := by omega
  have hvez := hvaz.below bbz
  have r1z := Kz.r1.below bbz
  have r2z := Kz.r2.below bbz
  have btz : Below w3.heap.size w3 wez := baz.trans (bbz.mono baz.size)
  have laz := baz.size
  have E3z := E3.below btz (by omega)
  have bel3z := bel3.trans (btz.mono bel3.size)
  obtain ⟨gxz, hgxz⟩ : ∃ g, g = waz.heap.size := ⟨_, rfl⟩
  rw [zbz] at Fez
  rw [← hgxz] at Eez Fez hvez szz laz r1z r2z ⊢
  clear hvaz baz bbz Ebz Fcz Edz gbz gcz gdz gez zbz zcz zdz zez btz hgxz E3 bel3
  have W0 := K.win 0 (by omega)
  have W1 := K.win 1 (by omega)
  have W0z := Kz.win 0 (by omega)
  have W1z := Kz.win 1 (by omega)
  have eT0 : (p.q.pub 3 m 5).t 0 = p.q.t 0 := rfl
  have eT1 : (p.q.pub 3 m 5).t 1 = p.q.t 1 := rfl
  have eS0 : (p.q.pub 3 m 5).S 0 = p.q.S 0 := rfl
  have eS1 : (p.q.pub 3 m 5).S 1 = p.q.S 1 := rfl
  rw [eT0, eS0] at W0z
  rw [eT1, eS1] at W1z
  have x1 := (E3z.cell 1).trans K.nx
  have y1 : wez.cell? ⟨gxz, 1, none⟩ = some (.int .i64 (p.q.nx + 1)) := (Eez.cell 1).trans Kz.nx
  have f0 := Fez.cell 0
  have hnx0 := hok.inv.n0
  have hnx1 := hok.room.2.1
  have iw : IntKind.i64.wrap (p.q.nx + 1) = p.q.nx + 1 := IntWalk.i64_in _ (by omega)
  have V0 := Lib.hid (win_eql_self (p.q.t 0) (shows (p.q.t 0) (p.q.S 0)))
  have V1 := Lib.hid (win_eql_self (p.q.t 1) (shows (p.q.t 1) (p.q.S 1)))
  generalize winCells (p.q.t 0) (shows (p.q.t 0) (p.q.S 0)) = v0 at *
  generalize winCells (p.q.t 1) (shows (p.q.t 1) (p.q.S 1)) = v1 at *
  have V0' := V0.out
  have V1' := V1.out
  have W0' := Lib.hid W0
  have W1' := Lib.hid W1
  have W0z' := Lib.hid W0z
  have W1z' := Lib.hid W1z
  have HPZ := Lib.hid (p := p.q.nx + 1 = p.q.nx + 1) rfl
  clear W0 W1 W0z W1z eT0 eT1 eS0 eS1 hv3 hvez r13 r23 r1z r2z Kz K hok
  generalize p.q.nx = nx at *
  go_wp2_with (first
    | (refine wpList_load_partG (by rfl) 27 (.tmp 55) rfl gxz 5 9 rfl 30 csz _ Eez win1_under rfl win1_size (by rw [HSz.out]; omega) ?_; rw [W0z'.out])
    | (refine wpList_load_partG (by rfl) 27 (.tmp 58) rfl gq 5 9 rfl 30 cs _ E3z win1_under rfl win1_size (by rw [HS.out]; omega) ?_; rw [W0'.out])
    | (refine wpList_load_partG (by rfl) 27 (.tmp 64) rfl gxz 14 9 rfl 30 csz _ Eez win1_under rfl win1_size (by rw [HSz.out]; omega) ?_; rw [W1z'.out])
    | (refine wpList_load_partG (by rfl) 27 (.tmp 67) rfl gq 14 9 rfl 30 cs _ E3z win1_under rfl win1_size (by rw [HS.out]; omega) ?_; rw [W1'.out]))
  go_ret
  exact ⟨rfl, bel3z⟩

end Go.Proofs.Ytkolmpeghnkjkaa
