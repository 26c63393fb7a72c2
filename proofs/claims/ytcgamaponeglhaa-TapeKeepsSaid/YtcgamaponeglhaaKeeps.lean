/- TapeKeeps: plain part; the walk. -/
import Derived.Test.YtcgamaponeglhaaLawAgain
import Derived.Deep.RegionLaw
namespace Go.Proofs.Ytcgamaponeglhaa
open Go.RowKit

theorem frames_append (a b : List Rc) : frames (a ++ b) = frames a ++ frames b := by simp [frames]

/-- behind a crash: what was synced and the first whole records of the rest are read -/
theorem keeps_read (rs more : List Rc) (hc : ∀ r ∈ rs, r.check = 0) (hc2 : ∀ r ∈ more, r.check = 0) (m : Nat) (h1 : (frames rs).length ≤ m) (h2 : m ≤ (frames (rs ++ more)).length) :
    ∃ j, j ≤ more.length ∧ readOf ((frames (rs ++ more)).take m) = (rs ++ more.take j, (frames (rs ++ more.take j)).length) ∧ (frames (rs ++ more.take j)).length ≤ m ∧
      ((frames (rs ++ more)).take m).take (frames (rs ++ more.take j)).length = frames (rs ++ more.take j) := by
  rw [frames_append, List.length_append] at h2
  obtain ⟨j, hj, h3, h4, _⟩ := readOf_prefix more hc2 (m - (frames rs).length) (by omega)
  have e : (frames (rs ++ more)).take m = frames rs ++ (frames more).take (m - (frames rs).length) := by
    rw [frames_append, List.take_append, List.take_of_length_le h1]
  have hle : (frames (rs ++ more.take j)).length ≤ m := by rw [frames_append, List.length_append]; omega
  refine ⟨j, hj, ?_, hle, ?_⟩
  · rw [e, readOf_frames rs hc, h3, frames_append, List.length_append]
  · rw [List.take_take, Nat.min_eq_left hle]
    have e2 : frames (rs ++ more) = frames (rs ++ more.take j) ++ frames (more.drop j) := by
      rw [← frames_append, List.append_assoc, List.take_append_drop]
    rw [e2, List.take_left]

/-- what holds ahead of a round of 'TapeKeeps' -/
structure KS (w : World) (X Y : Array Value) (gt : Nat) (d : List Int) (S : Int) (rs : List Rc) (v u : Value) (wr : World) : Prop where
  dx : Blk wr w.heap.size 23 X
  dy : Blk wr (w.heap.size + 1) 23 Y
  tape : Blk wr gt 45 #[v, .int .i64 S]
  ge : w.heap.size + 1 < gt
  own : wr.ownsRow w.heap.size 5 1 v d.length (d.map (Value.int .u8))
  rows : wr.ownsRow w.heap.size 29 10 u rs.length (rcRow rs)
  bel : Below w.heap.size w wr
section
variable {w wr w' : World} {X Y : Array Value} {gt : Nat} {d d' : List Int} {S S' : Int} {rs rs' : List Rc} {v v' u u' : Value}
theorem KS.below (h : KS w X Y gt d S rs v u wr) (hb : Below wr.heap.size wr w') : KS w X Y gt d S rs v u w' :=
  ⟨h.dx.below hb h.dx.lt, h.dy.below hb h.dy.lt, h.tape.below hb h.tape.lt, h.ge, own_below h.own hb (Nat.le_refl _), own_below h.rows hb (Nat.le_refl _), h.bel.trans (hb.mono h.bel.size)⟩
theorem KS.alloc (h : KS w X Y gt d S rs v u wr) (o : Obj) : KS w X Y gt d S rs v u (wr.alloc o) := h.below ((Below.refl _ _).alloc (Nat.le_refl _) o)
theorem KS.drew (h : KS w X Y gt d S rs v u wr) : KS w X Y gt d S rs v u wr.drew := h.below (Below.refl _ _).drew
theorem KS.put (h : KS w X Y gt d S rs v u wr) (ho : wr.ownsRow w.heap.size 5 1 v' d'.length (d'.map (Value.int .u8))) : KS w X Y gt d' S' rs v' u ((wr.setCell ⟨gt, 0, none⟩ v').setCell ⟨gt, 1, none⟩ (.int .i64 S')) := by
  have n1 := own_blk_ne ho h.tape (by decide)
  have n2 := own_blk_ne h.rows h.tape (by decide)
  have := h.ge
  exact ⟨(h.dx.far (by simp; omega) _).far (by simp; omega) _, (h.dy.far (by simp; omega) _).far (by simp; omega) _, (h.tape.set_ 0 v').set_ 1 _, h.ge, ownsRow_setCell_other (ownsRow_setCell_other ho n1 _) n1 _, ownsRow_setCell_other (ownsRow_setCell_other h.rows n2 _) n2 _, (h.bel.setCell (by simp; omega) _).setCell (by simp; omega) _⟩
/-- rows of its own, made anew -/
theorem KS.fresh (h : KS w X Y gt d S rs v u wr) (hb : Below wr.heap.size wr w') (ho : w'.ownsRow w.heap.size 29 10 u' rs'.length (rcRow rs')) : KS w X Y gt d S rs' v u' w' := by
  have h2 := h.below hb
  exact ⟨h2.dx, h2.dy, h2.tape, h2.ge, h2.own, ho, h2.bel⟩
end

theorem rec_eql_same (a b c d e f g h i j : Int) (w : World) :
    (binOp .eql 29 (.agg #[.int .i64 a, .int .i64 b, .int .i64 c, .int .i64 d, .int .i64 e, .int .i64 f, .int .i64 g, .int .i64 h, .int .i64 i, .int .i64 j]) (.agg #[.int .i64 a, .int .i64 b, .int .i64 c, .int .i64 d, .int .i64 e, .int .i64 f, .int .i64 g, .int .i64 h, .int .i64 i, .int .i64 j])).run Try.prog w = .ok (.bool true) w := by
  have h1 : Try.prog.underlying 29 = some (.struct (Try.prog.fieldsOf 29)) := by kernel_rfl
  have h2 : Try.prog.stoodInHeld 29 = false := by kernel_rfl
  rw [run_eql_struct, run_equalIn_struct _ _ _ _ _ h1 h2]
  simp [go_sem]

/-- a repair of a tape of which more was synced than is whole -/
def RepS (w : World) (DT : List Int) (m : Nat) (e : Ending) (w' : World) : Prop :=
  ∃ A, e = .returned (.tuple #[.agg #[.slice A m m, .int .i64 m], .int .i64 0]) ∧ Reads w' w'.heap.size 1 A m (DT.map (Value.int .u8)) ∧ Fresh w.heap.size A ∧ Below w.heap.size w w'
theorem repairS (A : Option Addr) (n c B s : Nat) (d DT : List Int) (m : Nat) (w : World) (h : Reads w B 1 A n (d.map (Value.int .u8))) (hn : n ≤ c) (hc : n ≤ 90000) (hB : B ≤ w.heap.size) (hs : s ≤ n) (hms : m ≤ s) (hz : ∀ z ∈ d, 0 ≤ z ∧ z ≤ 255) (hm : (readOf d).2 = m) (hd : d.take m = DT) :
    Calls Try.prog 25 #[.agg #[.slice A n c, .int .i64 s]] w (RepS w DT m) := by
  subst hm hd
  refine (repair_ok A n c B d s w h hn hc hB hs hz).mono ?_
  rintro e w' ⟨A', he, hr⟩
  rw [show min (s : Int) ((readOf d).2 : Int) = ((readOf d).2 : Int) by omega] at he
  exact ⟨A', he, hr⟩

set_option maxRecDepth 100000 in
set_option maxHeartbeats 8000000 in
theorem tapeKeeps_walk (A : Option Addr) (n c : Nat) (rows : List (List Int)) (A' : Option Addr) (n' c' : Nat) (rows' : List (List Int)) (keep : Int) (dk da db dc dk' da' db' dc' : Int) (w : World) (h : IsRows 4 32 w A n c rows) (h' : IsRows 4 32 w A' n' c' rows') (hk : Is64 keep)
    (h0 : Is64 dk) (h1 : Is64 da) (h2 : Is64 db) (h3 : Is64 dc) (h4 : Is64 dk') (h5 : Is64 da') (h6 : Is64 db') (h7 : Is64 dc') :
    Calls Try.prog 12 #[.slice A n c, .slice A' n' c', .int .i64 keep, .agg #[.int .i64 dk, .int .i64 da, .int .i64 db, .int .i64 dc], .agg #[.int .i64 dk', .int .i64 da', .int .i64 db', .int .i64 dc']] w fun e w' => e = .returned (.bool true) ∧ Below w.heap.size w w' := by
  have IR : ∀ W : World, Below w.heap.size w W → IsRows 4 32 W A n c rows := fun W hb => ⟨h.1, h.2.1, h.2.2.1, (h.2.2.2.1.below hb).more hb.size, h.2.2.2.2⟩
  have CT := Lib.hid (fun W hb => taped_any A n c rows W (IR W hb))
  clear IR
  obtain ⟨hl', hnc', hcb', hr', hs'⟩ := h'
  have hfl := frames_len (recsN rows (rounds n))
  have hck := recsN_check rows (rounds n)
  have hrl := recsN_length rows (rounds n)
  have hr10 : (recsN rows (rounds n)).length ≤ 10 := by rw [hrl]; unfold rounds; omega
  clear hrl h
  generalize recsN rows (rounds n) = rs at *
  obtain ⟨i0, hi0, hz0, hz1, hz2⟩ := info_parts rec_info
  obtain ⟨hk1, hk2⟩ := hk
  have pk := pick_lo keep 300 (by omega)
  have pk' := pick_hi keep 300 (by omega)
  have P1 := fun W => Lib.hid (picked_any keep 300 W hk1 hk2 (by omega) (by omega))
  obtain ⟨KK, hKK⟩ := Int.eq_ofNat_of_zero_le pk
  rw [hKK] at P1 pk'
  clear pk hKK hk1 hk2
  have CX := fun W => Lib.hid (record_any dk da db dc dk' da' db' dc' W h0 h1 h2 h3 h4 h5 h6 h7)
  have hxc := recOf_check dk da db dc dk' da' db' dc'
  generalize recOf dk da db dc dk' da' db' dc' = rx at *
  have HXC := Lib.hid hxc
  clear hxc h0 h1 h2 h3 h4 h5 h6 h7
  go_enter Try.func12, Try.ntmps12
  go_wp2_with fail
  refine (CT.out _ (((Below.refl _ _).alloc (Nat.le_refl _) _).alloc (by simp) _)).mono ?_
  clear CT
  rintro e w1 ⟨v, u, rfl, o1, o2, b1⟩
  have DX := ((Blk.new w 23 #[.int .i64 dk, .int .i64 da, .int .i64 db, .int .i64 dc]).alloc (.cells #[.int .i64 dk', .int .i64 da', .int .i64 db', .int .i64 dc'] 23)).below b1 (by simp; omega)
  have DY := (Blk.new (w.alloc (.cells #[.int .i64 dk, .int .i64 da, .int .i64 db, .int .i64 dc] 23)) 23 #[.int .i64 dk', .int .i64 da', .int .i64 db', .int .i64 dc']).below b1 (by simp)
  rw [World.size_alloc] at DY
  have O1 := own_base (base' := w.heap.size) o1 (by simp; omega)
  have O2 := own_base (base' := w.heap.size) o2 (by simp; omega)
  have bel1 : Below w.heap.size w w1 := (((Below.refl w.heap.size w).alloc (Nat.le_refl _) _).alloc (by simp) _).trans (b1.mono (by simp; omega))
  clear o1 o2 b1
  obtain ⟨A1, ca, rfl, hc1, hm1⟩ := own_shape O1
  obtain ⟨Au, cu, rfl, hcu, hcu2⟩ := own_shape O2
  have CS := Lib.hid (fun W B hr hB => sync_ok A1 (frames rs).length ca B (frames rs) 0 W hr hc1 (by omega) hB (by omega) (by omega))
  go_wp2_with fail
  refine (CS.out _ _ ((Reads.of_own O1).alloc (Nat.le_refl _) _) (by simp)).mono ?_
  clear CS
  rintro e w2 ⟨v2, rfl, o2, b2⟩
  obtain ⟨gt, hgt⟩ : ∃ gt, gt = w1.heap.size := ⟨_, rfl⟩
  have H1 : KS w #[.int .i64 dk, .int .i64 da, .int .i64 db, .int .i64 dc] #[.int .i64 dk', .int .i64 da', .int .i64 db', .int .i64 dc'] gt (frames rs) 0 rs (.slice A1 (frames rs).length ca) (.slice Au rs.length cu) (w1.alloc (.cells #[.slice A1 (frames rs).length ca, .int .i64 0] 45)) :=
    ⟨DX.alloc _, DY.alloc _, by rw [hgt]; exact Blk.new _ _ _, by rw [hgt]; exact DY.lt, O1.alloc _, O2.alloc _, bel1.alloc bel1.size _⟩
  have H2 := H1.below b2
  rw [← hgt]
  have o3 := own_base (base' := w.heap.size) o2 (by have := bel1.size; simp; omega)
  clear o2 b2 H1 DX DY O1 O2 bel1 hgt
  obtain ⟨A2, c2, rfl, hc2, hm2⟩ := own_shape o3
  have HP := H2.put (S' := ((frames rs).length : Int)) o3
  have t0 := H2.tape.cell 0
  have t1 := H2.tape.cell 1
  have ft := H2.tape.frozen
  have zt := H2.tape.lt
  clear H2 o3
  go_wp2_with fail
  obtain ⟨Q, hQ⟩ : ∃ Q, min (n' / 2) 6 = Q := ⟨_, rfl⟩
  have hQ1 : Q ≤ 6 := by omega
  have hQ2 : ∀ q : Nat, q < Q ↔ 2 * q + 1 < n' ∧ 2 * q < 12 := fun q => by omega
  have hrs0 : rs ++ recsN rows' 0 = rs := by simp [recsN]
  clear hQ t0 t1 ft zt
  obtain ⟨S, hS⟩ : ∃ S, (frames rs).length = S := ⟨_, rfl⟩
  have HS := Lib.hid hS
  have hSb : S ≤ 460 := by omega
  have HP2 : KS w #[.int .i64 dk, .int .i64 da, .int .i64 db, .int .i64 dc] #[.int .i64 dk', .int .i64 da', .int .i64 db', .int .i64 dc'] gt (frames (rs ++ recsN rows' 0)) S (rs ++ recsN rows' 0) (.slice A2 (frames rs).length c2) (.slice Au rs.length cu) ((w2.setCell ⟨gt, 0, none⟩ (.slice A2 (frames rs).length c2)).setCell ⟨gt, 1, none⟩ (.int .i64 ((frames rs).length : Int))) := by
    rw [hrs0, ← hS]
    exact HP
  clear hS
  go_loopw [15, 16] (fun s15 s16 wr => ∃ (q : Nat) (v : Value), q ≤ Q ∧ s16 = .int .i64 ((2 * q : Nat) : Int) ∧ KS w #[.int .i64 dk, .int .i64 da, .int .i64 db, .int .i64 dc] #[.int .i64 dk', .int .i64 da', .int .i64 db', .int .i64 dc'] gt (frames (rs ++ recsN rows' q)) S (rs ++ recsN rows' q) v s15 wr) (fun _ s16 _ => 12 - (intOf s16).toNat)
  case atStart => exact ⟨0, _, Nat.zero_le _, rfl, HP2⟩
  case round =>
    clear HP HP2 hrs0
    obtain ⟨q, v, hq, rfl, H⟩ := hrel
    have hT := hQ2 q
    have hlen := recsN_length rows' q
    have hU0 := recsN_succ rows' q
    have hc0 := recAt_check rows' q
    have hfl := frames_len (rs ++ recsN rows' q)
    have hSle : S ≤ (frames (rs ++ recsN rows' q)).length := by rw [← HS.out, frames_append, List.length_append]; omega
    have hra : (rs ++ recsN rows' q).length ≤ 16 := by rw [List.length_append, hlen]; omega
    have hU1 : rs ++ recsN rows' (q + 1) = (rs ++ recsN rows' q) ++ [recAt rows' q] := by rw [hU0, List.append_assoc]
    obtain ⟨ra, hrae⟩ : ∃ ra, rs ++ recsN rows' q = ra := ⟨_, rfl⟩
    rw [hrae] at H hfl hSle hra hU1
    have hU := Lib.hid hU1
    have HRA := Lib.hid hrae
    clear hrae hU0 hU1
    obtain ⟨p, hp⟩ : ∃ p : Nat, 2 * q = p := ⟨_, rfl⟩
    obtain ⟨A5, c5, rfl, hc5, hc5'⟩ := own_shape H.rows
    rw [hp] at hT ⊢
    by_cases hlt : q < Q
    · obtain ⟨b, off, rfl, hb, g1, l1⟩ := row4 hl' hs' hr' (show p < n' by omega)
      obtain ⟨b', off', e, _, g2, l2⟩ := row4 hl' hs' hr' (show p + 1 < n' by omega)
      injection e with e
      injection e with e1 e2
      subst e1 e2
      have CR := fun W => Lib.hid (record_any _ _ _ _ _ _ _ _ W (l1 0) (l1 1) (l1 2) (l1 3) (l2 0) (l2 1) (l2 2) (l2 3))
      have HR := Lib.hid (show recAt rows' q = recOf ((rows'.getD p []).getD 0 0) ((rows'.getD p []).getD 1 0) ((rows'.getD p []).getD 2 0) ((rows'.getD p []).getD 3 0)
        ((rows'.getD (p + 1) []).getD 0 0) ((rows'.getD (p + 1) []).getD 1 0) ((rows'.getD (p + 1) []).getD 2 0) ((rows'.getD (p + 1) []).getD 3 0) by unfold recAt; rw [hp])
      have q0 : w.cell? ⟨b, off + p * 4, none⟩ = _ := g1 0 (by omega)
      have q1 : w.cell? ⟨b, off + p * 4 + 1, none⟩ = _ := g1 1 (by omega)
      have q2 : w.cell? ⟨b, off + p * 4 + 2, none⟩ = _ := g1 2 (by omega)
      have q3 : w.cell? ⟨b, off + p * 4 + 3, none⟩ = _ := g1 3 (by omega)
      have q4 : w.cell? ⟨b, off + (p + 1) * 4, none⟩ = _ := g2 0 (by omega)
      have q5 : w.cell? ⟨b, off + (p + 1) * 4 + 1, none⟩ = _ := g2 1 (by omega)
      have q6 : w.cell? ⟨b, off + (p + 1) * 4 + 2, none⟩ = _ := g2 2 (by omega)
      have q7 : w.cell? ⟨b, off + (p + 1) * 4 + 3, none⟩ = _ := g2 3 (by omega)
      clear g1 g2 l1 l2 hr' hs'
      have hcell : ∀ o v, w.cell? ⟨b, o, none⟩ = some v → wr.cell? ⟨b, o, none⟩ = some v := fun o v h => (H.bel.cell hb).trans h
      replace q0 := hcell _ _ q0
      replace q1 := hcell _ _ q1
      replace q2 := hcell _ _ q2
      replace q3 := hcell _ _ q3
      replace q4 := hcell _ _ q4
      replace q5 := hcell _ _ q5
      replace q6 := hcell _ _ q6
      replace q7 := hcell _ _ q7
      clear hcell
      rw [← HR.out] at CR
      generalize recAt rows' q = r at *
      generalize (rows'.getD p []).getD 0 0 = z0 at *
      generalize (rows'.getD p []).getD 1 0 = z1 at *
      generalize (rows'.getD p []).getD 2 0 = z2 at *
      generalize (rows'.getD p []).getD 3 0 = z3 at *
      generalize (rows'.getD (p + 1) []).getD 0 0 = z4 at *
      generalize (rows'.getD (p + 1) []).getD 1 0 = z5 at *
      generalize (rows'.getD (p + 1) []).getD 2 0 = z6 at *
      generalize (rows'.getD (p + 1) []).getD 3 0 = z7 at *
      clear HR
      have hbw : b < wr.heap.size := by have := H.tape.lt; have := H.ge; omega
      have hI1 : (p : Int) + 1 < (n' : Int) := by omega
      have hI2 : (p : Int) < 12 := by omega
      have hI0 : (p : Int) < (n' : Int) := by omega
      have hI3 : (0 : Int) ≤ (p : Int) + 1 := by omega
      have hP0 : p < n' := by omega
      have hP1 : p + 1 < n' := by omega
      have i1 : IntKind.i64.wrap ((p : Int) + 1) = (p : Int) + 1 := IntWalk.i64_in _ (by omega)
      have ne1 : ¬ b = wr.heap.size := by omega
      have ne2 : ¬ wr.heap.size = b := by omega
      have HC := Lib.hid hc0
      clear hc0
      obtain ⟨rk, rq, re, rp, ⟨x0, x1, x2, x3, x4, x5⟩⟩ := r
      go_upto_region 7 with fail
      go_cut [17] (fun s17 wx => ∃ g, s17 = .pointer (some ⟨g, 0, none⟩) ∧ Blk wx g 29 (Rc.cells ⟨rk, rq, re, rp, ⟨x0, x1, x2, x3, x4, x5⟩⟩) ∧ gt < g ∧ KS w #[.int .i64 dk, .int .i64 da, .int .i64 db, .int .i64 dc] #[.int .i64 dk', .int .i64 da', .int .i64 db', .int .i64 dc'] gt (frames ra) S ra v (.slice A5 ra.length c5) wx)
      case first =>
        go_region_held3 (fun W => W.cell? ⟨b, off + p * 4, none⟩ = some (.int .i64 z0) ∧ W.cell? ⟨b, off + p * 4 + 1, none⟩ = some (.int .i64 z1) ∧ W.cell? ⟨b, off + p * 4 + 2, none⟩ = some (.int .i64 z2) ∧ W.cell? ⟨b, off + p * 4 + 3, none⟩ = some (.int .i64 z3) ∧ W.cell? ⟨b, off + (p + 1) * 4, none⟩ = some (.int .i64 z4) ∧ W.cell? ⟨b, off + (p + 1) * 4 + 1, none⟩ = some (.int .i64 z5) ∧ W.cell? ⟨b, off + (p + 1) * 4 + 2, none⟩ = some (.int .i64 z6) ∧ W.cell? ⟨b, off + (p + 1) * 4 + 3, none⟩ = some (.int .i64 z7)) (go_keep)
          (first
            | (go_at_call 13; refine (CR _).out.mono ?_; rintro e w2 ⟨rfl, hb1⟩; unfold Rc.val Rc.cells; have eN : Blk w2 wr.heap.size 29 (Rc.cells ⟨0, 0, 0, 0, Ev.zero⟩) := (by first | exact ((Blk.new wr 29 (Rc.cells ⟨0, 0, 0, 0, Ev.zero⟩)).drew).below hb1 (by simp) | exact (Blk.new wr.drew 29 (Rc.cells ⟨0, 0, 0, 0, Ev.zero⟩)).below hb1 (by simp)); have hbW : Below wr.heap.size wr w2 := (by first | exact (Below.refl _ _).drew.trans (hb1.mono (by simp)) | exact ((Below.refl _ _).alloc (Nat.le_refl _) _).drew.trans (hb1.mono (by simp)) | exact ((Below.refl _ _).drew.alloc (by simp) _).trans (hb1.mono (by simp))); have p0 := (hbW.cell (p := ⟨b, off + p * 4, none⟩) hbw).trans q0; have p1 := (hbW.cell (p := ⟨b, off + p * 4 + 1, none⟩) hbw).trans q1; have p2 := (hbW.cell (p := ⟨b, off + p * 4 + 2, none⟩) hbw).trans q2; have p3 := (hbW.cell (p := ⟨b, off + p * 4 + 3, none⟩) hbw).trans q3; have p4 := (hbW.cell (p := ⟨b, off + (p + 1) * 4, none⟩) hbw).trans q4; have p5 := (hbW.cell (p := ⟨b, off + (p + 1) * 4 + 1, none⟩) hbw).trans q5; have p6 := (hbW.cell (p := ⟨b, off + (p + 1) * 4 + 2, none⟩) hbw).trans q6; have p7 := (hbW.cell (p := ⟨b, off + (p + 1) * 4 + 3, none⟩) hbw).trans q7; have fN := eN.frozen; have zN := eN.lt; obtain ⟨y0, y1, y2, y3, y4, y5, y6, y7, y8, y9⟩ := rcBlk eN; clear hb1)
            | (go_at_call 13; refine (CR _).out.mono ?_; rintro e w2 ⟨rfl, hb1⟩; unfold Rc.val Rc.cells; have hbW : Below wr.heap.size wr w2 := (by first | exact (Below.refl _ _).drew.trans (hb1.mono (by simp)) | exact ((Below.refl _ _).alloc (Nat.le_refl _) _).drew.trans (hb1.mono (by simp)) | exact ((Below.refl _ _).drew.alloc (by simp) _).trans (hb1.mono (by simp))); have p0 := (hbW.cell (p := ⟨b, off + p * 4, none⟩) hbw).trans q0; have p1 := (hbW.cell (p := ⟨b, off + p * 4 + 1, none⟩) hbw).trans q1; have p2 := (hbW.cell (p := ⟨b, off + p * 4 + 2, none⟩) hbw).trans q2; have p3 := (hbW.cell (p := ⟨b, off + p * 4 + 3, none⟩) hbw).trans q3; have p4 := (hbW.cell (p := ⟨b, off + (p + 1) * 4, none⟩) hbw).trans q4; have p5 := (hbW.cell (p := ⟨b, off + (p + 1) * 4 + 1, none⟩) hbw).trans q5; have p6 := (hbW.cell (p := ⟨b, off + (p + 1) * 4 + 2, none⟩) hbw).trans q6; have p7 := (hbW.cell (p := ⟨b, off + (p + 1) * 4 + 3, none⟩) hbw).trans q7; clear hb1))
        all_goals
          go_wp2_with fail
          go_meet
          first
            | (rw [put10_eq]
               exact ⟨wr.heap.size, rfl, putFrom_blk eN _ rfl, H.tape.lt, H.below (putFrom_below (Nat.le_refl _) _ _ _ hbW)⟩)
            | exact ⟨w2.heap.size, rfl, Blk.new _ _ _, by have := hbW.size; have := H.tape.lt; have := H.ge; omega, H.below (hbW.alloc hbW.size _)⟩
      case rest =>
        obtain ⟨g, rfl, eR, hg, H2⟩ := hcut
        clear H q0 q1 q2 q3 q4 q5 q6 q7 CR ne1 ne2 hbw
        obtain ⟨Av, cv, rfl, hcv, hcv2⟩ := own_shape H2.own
        have CW := Lib.hid (fun W hd hB => write_ok Av (frames ra).length cv W.heap.size (frames ra) S _ W hd hcv (by omega) hB (by omega) (by omega) HC.out)
        have t0 := H2.tape.cell 0
        have t1 := H2.tape.cell 1
        obtain ⟨y0, y1, y2, y3, y4, y5, y6, y7, y8, y9⟩ := rcBlk eR
        have zR := eR.lt
        go_wp2_with fail
        refine (CW.out wc (Reads.of_own H2.own) (Nat.le_refl _)).mono ?_
        rintro e w3 ⟨v3, rfl, o3, b3⟩
        have H3 := H2.below b3
        have eR3 := eR.below b3 eR.lt
        rw [← List.length_append.trans (congrArg _ (frameOf_length _))] at o3
        have hN : (frames ra).length < (frames ra ++ frameOf (recBytes ⟨rk, rq, re, rp, ⟨x0, x1, x2, x3, x4, x5⟩⟩)).length := by rw [List.length_append, frameOf_length]; omega
        rw [← frames_snoc] at o3 hN
        have o4 := own_base o3 H2.bel.size
        have hfl2 := frames_len (ra ++ [⟨rk, rq, re, rp, ⟨x0, x1, x2, x3, x4, x5⟩⟩])
        rw [← hU.out] at o4 hN hfl2
        obtain ⟨d', hd'⟩ : ∃ d', frames (rs ++ recsN rows' (q + 1)) = d' := ⟨_, rfl⟩
        rw [hd'] at o4 hN hfl2
        have HD := Lib.hid hd'
        clear hd'
        clear H2 eR o3 b3 CW t0 t1 y0 y1 y2 y3 y4 y5 y6 y7 y8 y9 zR
        obtain ⟨Aw, cw, rfl, hcw, hcw2⟩ := own_shape o4
        have t0 := H3.tape.cell 0
        have t1 := H3.tape.cell 1
        have ft := H3.tape.frozen
        have zt := H3.tape.lt
        obtain ⟨y0, y1, y2, y3, y4, y5, y6, y7, y8, y9⟩ := rcBlk eR3
        have zR := eR3.lt
        have hNI : ¬ ((d'.length : Int) ≤ ((frames ra).length : Int)) := by omega
        have H4 := (H3.put (S' := (S : Int)) o4).alloc (.cells #[.slice Aw d'.length cw, .int .i64 S] 45)
        have eR4 := ((eR3.far (show g ≠ (⟨gt, 0, none⟩ : Addr).block by simp; omega) (.slice Aw d'.length cw)).far (show g ≠ (⟨gt, 1, none⟩ : Addr).block by simp; omega) (.int .i64 S)).alloc (.cells #[.slice Aw d'.length cw, .int .i64 S] 45)
        have i2 : IntKind.i64.wrap ((p : Int) + 2) = (p : Int) + 2 := IntWalk.i64_in _ (by omega)
        have OR := one_rec ⟨rk, rq, re, rp, ⟨x0, x1, x2, x3, x4, x5⟩⟩
        have hgt : ¬ gt = g := by omega
        have hgt2 : ¬ g = gt := by omega
        clear H3 hcv hcv2 hcw hcw2 hQ2
        go_upto_region 12 with fail
        generalize ((w3.setCell ⟨gt, 0, none⟩ (.slice Aw d'.length cw)).setCell ⟨gt, 1, none⟩ (.int .i64 S)).alloc (.cells #[.slice Aw d'.length cw, .int .i64 S] 45) = W4 at *
        clear t0 t1 ft zt y0 y1 y2 y3 y4 y5 y6 y7 y8 y9 zR eR3
        obtain ⟨y0, y1, y2, y3, y4, y5, y6, y7, y8, y9⟩ := rcBlk eR4
        have zR := eR4.lt
        have r5 := Reads.of_own H4.rows
        have hrow1 : ∀ x ∈ rcRow ra, x.oneCell' = true := by
          intro x hx
          obtain ⟨r0, _, hx⟩ := List.mem_flatMap.1 hx
          exact one_rec r0 x hx
        have HB := Lib.hid H4
        have hsz := H4.bel.size
        clear H4
        go_region_held3 (fun W => W.cell? ⟨g, 0, none⟩ = some (.int .i64 rk) ∧ W.cell? ⟨g, 1, none⟩ = some (.int .i64 rq) ∧ W.cell? ⟨g, 2, none⟩ = some (.int .i64 re) ∧ W.cell? ⟨g, 3, none⟩ = some (.int .i64 rp) ∧ W.cell? ⟨g, 4, none⟩ = some (.int .i64 x0) ∧ W.cell? ⟨g, 5, none⟩ = some (.int .i64 x1) ∧ W.cell? ⟨g, 6, none⟩ = some (.int .i64 x2) ∧ W.cell? ⟨g, 7, none⟩ = some (.int .i64 x3) ∧ W.cell? ⟨g, 8, none⟩ = some (.int .i64 x4) ∧ W.cell? ⟨g, 9, none⟩ = some (.int .i64 x5)) (go_keep)
          (first
            | (refine step_append_any _ rfl (.const (.slice none 0 0)) (.tmp 72) _ rfl W4.heap.size 29 i0 _ 10 80 Try.underlying50 hi0 hz0 hz1 hz2 rfl (by omega) (.slice none 0 0) 0 [] rfl (World.ownsRow_nil _ _ _ _) W4.heap.size A5 ra.length c5 (rcRow ra) rfl (by first | exact r5.drew | exact (r5.alloc (Nat.le_refl _) _).drew | exact r5.drew.alloc (by simp) _) hrow1 (by simp only [maxLen]; omega) (by omega) (by simp) ?_; intro v6 w6 o6 g6 at6; have rR6 : Reads w6 (W4.heap.size + 1) 10 (some ⟨W4.heap.size, 0, none⟩) 1 (Rc.cells ⟨rk, rq, re, rp, ⟨x0, x1, x2, x3, x4, x5⟩⟩).toList := (by first | exact (reads_rec W4 ⟨rk, rq, re, rp, ⟨x0, x1, x2, x3, x4, x5⟩⟩).drew.grown g6 (by simp) (by simp [Value.ownBlock]) | exact (reads_rec W4.drew ⟨rk, rq, re, rp, ⟨x0, x1, x2, x3, x4, x5⟩⟩).grown g6 (by simp) (by simp [Value.ownBlock])); have bl6 : Below W4.heap.size W4 w6 := (by first | exact ((Below.refl _ _).drew).grown g6 (by simp) (by simp [Value.ownBlock]) | exact (((Below.refl _ _).alloc (Nat.le_refl _) _).drew).grown g6 (by simp) (by simp [Value.ownBlock]) | exact (((Below.refl _ _).drew).alloc (by simp) _).grown g6 (by simp) (by simp [Value.ownBlock])); have eR6 := eR4.below bl6 eR4.lt; have sz6 := bl6.size; obtain ⟨f0, f1, f2, f3, f4, f5, f6, f7, f8, f9⟩ := rcBlk eR6; have zR6 := eR6.lt)
            | (refine step_append_any _ rfl (.const (.slice none 0 0)) (.tmp 72) _ rfl W4.heap.size 29 i0 _ 10 80 Try.underlying50 hi0 hz0 hz1 hz2 rfl (by omega) (.slice none 0 0) 0 [] rfl (World.ownsRow_nil _ _ _ _) W4.heap.size A5 ra.length c5 (rcRow ra) rfl (by first | exact r5.drew | exact (r5.alloc (Nat.le_refl _) _).drew | exact r5.drew.alloc (by simp) _) hrow1 (by simp only [maxLen]; omega) (by omega) (by simp) ?_; intro v6 w6 o6 g6 at6; have bl6 : Below W4.heap.size W4 w6 := (by first | exact ((Below.refl _ _).drew).grown g6 (by simp) (by simp [Value.ownBlock]) | exact (((Below.refl _ _).alloc (Nat.le_refl _) _).drew).grown g6 (by simp) (by simp [Value.ownBlock]) | exact (((Below.refl _ _).drew).alloc (by simp) _).grown g6 (by simp) (by simp [Value.ownBlock])); have eR6 := eR4.below bl6 eR4.lt; have sz6 := bl6.size; obtain ⟨f0, f1, f2, f3, f4, f5, f6, f7, f8, f9⟩ := rcBlk eR6; have zR6 := eR6.lt)
            | (refine step_append_any _ rfl (.tmp 73) (.tmp 75) _ rfl W4.heap.size 29 i0 _ 10 80 Try.underlying50 hi0 hz0 hz1 hz2 rfl (by omega) v6 (0 + ra.length) ([] ++ rcRow ra) rfl o6 _ _ 1 1 _ rfl rR6 OR (by simp only [maxLen]; omega) (by omega) sz6 ?_; intro v8 w8 o8 g8 at8; have bl8 : Below W4.heap.size W4 w8 := bl6.grown g8 sz6 (own_block_ge o6); obtain ⟨h0, h1, h2, h3, h4, h5, h6, h7, h8, h9⟩ := rcBlk (eR4.below bl8 eR4.lt))
            | (refine step_append_any _ rfl (.tmp 73) (.tmp 75) _ rfl W4.heap.size 29 i0 _ 10 80 Try.underlying50 hi0 hz0 hz1 hz2 rfl (by omega) v6 (0 + ra.length) ([] ++ rcRow ra) rfl (o6.alloc (.cells (Rc.cells ⟨rk, rq, re, rp, ⟨x0, x1, x2, x3, x4, x5⟩⟩) 29)) _ _ 1 1 _ rfl (reads_rec w6 ⟨rk, rq, re, rp, ⟨x0, x1, x2, x3, x4, x5⟩⟩) OR (by simp only [maxLen]; omega) (by omega) (by simp; omega) ?_; intro v8 w8 o8 g8 at8; have bl8 : Below W4.heap.size W4 w8 := (bl6.alloc sz6 (.cells (Rc.cells ⟨rk, rq, re, rp, ⟨x0, x1, x2, x3, x4, x5⟩⟩) 29)).grown g8 (by simp; omega) (own_block_ge o6); obtain ⟨h0, h1, h2, h3, h4, h5, h6, h7, h8, h9⟩ := rcBlk (eR4.below bl8 eR4.lt)))
        all_goals
          have H6 := HB.out.fresh (rs' := ra ++ [⟨rk, rq, re, rp, ⟨x0, x1, x2, x3, x4, x5⟩⟩]) bl8 (by rw [rcRow_snoc, List.length_append]; have := own_base (base' := w.heap.size) o8 hsz; simpa [Nat.zero_add] using this)
          rw [← hU.out] at H6
          go_wp2_with fail
          go_roundw
          case rel => exact ⟨q + 1, _, by omega, by rw [show ((2 * (q + 1) : Nat) : Int) = (p : Int) + 2 by omega], by rw [HD.out]; exact H6⟩
          case measure => simp [intOf]; omega
    · obtain rfl : q = Q := by omega
      have hmck := recsN_check rows' q
      obtain ⟨mo, hmo⟩ : ∃ mo, recsN rows' q = mo := ⟨_, rfl⟩
      have hra2 : rs ++ mo = ra := by rw [← hmo]; exact HRA.out
      rw [hmo] at hmck hlen
      clear HRA hU hmo hc0 hr' hs' hQ2
      obtain ⟨m, hm⟩ : ∃ m, S + min KK ((frames ra).length - S) = m := ⟨_, rfl⟩
      obtain ⟨j, hj, hrd, hle, htk⟩ := keeps_read rs mo hck hmck m (by rw [HS.out]; omega) (by rw [hra2]; omega)
      rw [hra2] at hrd htk
      have hGr : ra.take (rs ++ mo.take j).length = rs ++ mo.take j := by
        rw [← hra2, show rs ++ mo = (rs ++ mo.take j) ++ mo.drop j by rw [List.append_assoc, List.take_append_drop], List.take_left]
      have hGl : (rs ++ mo.take j).length ≤ ra.length := by
        rw [← hra2, List.length_append, List.length_append, List.length_take]; omega
      have hGc : ∀ r ∈ rs ++ mo.take j, r.check = 0 := fun r hr => (List.mem_append.1 hr).elim (hck r) (fun h => hmck r (List.mem_of_mem_take h))
      have hGs : rs.length ≤ (rs ++ mo.take j).length := by rw [List.length_append]; omega
      obtain ⟨G, hG⟩ : ∃ G, rs ++ mo.take j = G := ⟨_, rfl⟩
      rw [hG] at hrd hle htk hGr hGl hGc hGs
      have hab := frames_bd ra (fun r hr => by rw [← hra2] at hr; exact (List.mem_append.1 hr).elim (hck r) (hmck r))
      clear hG hra2 hmck hck hj hlen
      have hmn : m ≤ (frames ra).length := by omega
      have hmS : S ≤ m := by omega
      obtain ⟨Av, cv, rfl, hcv, hcv2⟩ := own_shape H.own
      have CC := Lib.hid (fun W B hr hB => crash_ok Av (frames ra).length cv B S KK (frames ra) W hr hcv (by omega) hB hSle (by omega))
      rw [hm] at CC
      have HMM := Lib.hid hm
      clear hm
      have t0 := H.tape.cell 0
      have t1 := H.tape.cell 1
      have tz := H.tape.lt
      have tf := H.tape.frozen
      have rT := Reads.of_own H.own
      have dX := H.dx
      have dY := H.dy
      have hge := H.ge
      have RO := H.rows
      have belT := H.bel
      have eT := H.tape
      have hcond : ((p : Int) + 1 < (n' : Int) ∧ ¬ (p : Int) < 12) ∨ ¬ (p : Int) + 1 < (n' : Int) := by omega
      have HG := Lib.hid (readOf_frames G hGc [])
      have hGb := frames_bd G hGc
      have hGc2 : ∀ r ∈ G ++ [rx], r.check = 0 := fun r hr => (List.mem_append.1 hr).elim (hGc r) (fun h => by rw [List.mem_singleton.1 h]; exact HXC.out)
      have HG2 := Lib.hid (readOf_frames (G ++ [rx]) hGc2 [])
      have HGb2 := Lib.hid (frames_bd (G ++ [rx]) hGc2)
      clear hGc2
      clear H hGc
      rcases hcond with ⟨hI1, hI2⟩ | hI1
      all_goals
        go_upto_region 13 with fail
        go_cut [20] (fun s20 wx => ∃ A7, s20 = .int .i64 0 ∧ Blk wx gt 45 #[.slice A7 m m, .int .i64 m] ∧ Reads wx wx.heap.size 1 A7 m (((frames ra).take m).map (Value.int .u8)) ∧
          Blk wx w.heap.size 23 #[.int .i64 dk, .int .i64 da, .int .i64 db, .int .i64 dc] ∧ Blk wx (w.heap.size + 1) 23 #[.int .i64 dk', .int .i64 da', .int .i64 db', .int .i64 dc'] ∧ wx.ownsRow w.heap.size 29 10 (.slice A5 ra.length c5) ra.length (rcRow ra) ∧ Below w.heap.size w wx)
        case first =>
          go_region_law (first
            | (go_simp; go_at_call 17; refine (P1 _).out.mono ?_; rintro e w' ⟨rfl, rfl⟩; dsimp only)
            | (go_simp; go_at_call 22; refine (CC.out _ _ rT.drew (Nat.le_refl _)).mono ?_; rintro e w3 ⟨A7, rfl, r7, hF, b7⟩; have e7 := eT.drew.below b7 eT.lt; have x7 := dX.drew.below b7 dX.lt; have y7 := dY.drew.below b7 dY.lt; have ro7 := own_below (show wr.drew.ownsRow w.heap.size 29 10 (.slice A5 ra.length c5) ra.length (rcRow ra) from RO) b7 (Nat.le_refl _); have bel7 := belT.drew.trans (b7.mono belT.size); have q0 := e7.cell 0; have q1 := e7.cell 1; have qf := e7.frozen; have n7 := own_blk_ne ro7 e7 (by decide); clear b7; dsimp only))
          all_goals
            first
              | go_meet
              | (go_wp2_with fail
                 go_meet)
            exact ⟨A7, rfl, (e7.set_ 0 _).set_ 1 _, ((r7.other hF (by simpa using tz) _).other hF (by simpa using tz) _).more (by simp), (x7.far (by simp; omega) _).far (by simp; omega) _, (y7.far (by simp; omega) _).far (by simp; omega) _, ownsRow_setCell_other (ownsRow_setCell_other ro7 n7 _) n7 _, (bel7.setCell (by simp; omega) _).setCell (by simp; omega) _⟩
        case rest =>
          obtain ⟨A7, rfl, e7, r7, x7, y7, ro7, bel7⟩ := hcut
          clear t0 t1 tz tf rT dX dY RO belT eT CC P1
          have hzm : ∀ z ∈ (frames ra).take m, 0 ≤ z ∧ z ≤ 255 := fun z h => hab z (List.mem_of_mem_take h)
          have hGfl := frames_len G
          have CP := Lib.hid (fun W B hr hB => repairS A7 m m B m ((frames ra).take m) (frames G) (frames G).length W hr (Nat.le_refl _) (by omega) hB (Nat.le_refl _) hle hzm (by rw [hrd]) htk)
          have CR := Lib.hid (fun A W B hr hB => read_ok A (frames G).length (frames G).length B (frames G) (frames G).length W hr (Nat.le_refl _) (by omega) hB (by omega) (by omega) hGb)
          have hrG := HG.out
          simp only [List.append_nil, show readOf [] = ([], 0) from rfl, Nat.add_zero] at hrG
          rw [hrG] at CR
          have CW := Lib.hid (fun A W B hr hB => write_ok A (frames G).length (frames G).length B (frames G) (frames G).length rx W hr (Nat.le_refl _) (by omega) hB (by omega) (by omega) HXC.out)
          have HGl := Lib.hid hGl
          have t0 := e7.cell 0
          have t1 := e7.cell 1
          have tz := e7.lt
          clear hrd htk hab hzm hrG HG hcv hcv2
          go_wp2_with fail
          refine (CP.out _ _ r7 (Nat.le_refl _)).mono ?_
          rintro e w8 ⟨A8, rfl, r8, hF8, b8⟩
          have e8 := e7.below b8 e7.lt
          have x8 := x7.below b8 x7.lt
          have y8 := y7.below b8 y7.lt
          have ro8 := own_below ro7 b8 (Nat.le_refl _)
          have bel8 := bel7.trans (b8.mono bel7.size)
          have n8 := own_blk_ne ro8 e8 (by decide)
          clear b8 e7 x7 y7 ro7 bel7 r7 t0 t1 CP
          have t0 := e8.cell 0
          have t1 := e8.cell 1
          have tf := e8.frozen
          have tz8 := e8.lt
          have e9 := (e8.set_ 0 (.slice A8 (frames G).length (frames G).length)).set_ 1 (.int .i64 ((frames G).length : Int))
          have r9 := ((r8.other hF8 (p := ⟨gt, 0, none⟩) tz (.slice A8 (frames G).length (frames G).length)).other hF8 (p := ⟨gt, 1, none⟩) tz (.int .i64 ((frames G).length : Int)))
          have x9 := (x8.far (show w.heap.size ≠ (⟨gt, 0, none⟩ : Addr).block by simp; omega) (.slice A8 (frames G).length (frames G).length)).far (show w.heap.size ≠ (⟨gt, 1, none⟩ : Addr).block by simp; omega) (.int .i64 ((frames G).length : Int))
          have y9 := (y8.far (show w.heap.size + 1 ≠ (⟨gt, 0, none⟩ : Addr).block by simp; omega) (.slice A8 (frames G).length (frames G).length)).far (show w.heap.size + 1 ≠ (⟨gt, 1, none⟩ : Addr).block by simp; omega) (.int .i64 ((frames G).length : Int))
          have ro9 := ownsRow_setCell_other (a := ⟨gt, 1, none⟩) (ownsRow_setCell_other (a := ⟨gt, 0, none⟩) ro8 n8 (.slice A8 (frames G).length (frames G).length)) n8 (.int .i64 ((frames G).length : Int))
          have bel9 := (bel8.setCell (p := ⟨gt, 0, none⟩) (by simp; omega) (.slice A8 (frames G).length (frames G).length)).setCell (p := ⟨gt, 1, none⟩) (by simp; omega) (.int .i64 ((frames G).length : Int))
          have hz9 : w8.heap.size ≤ ((w8.setCell ⟨gt, 0, none⟩ (.slice A8 (frames G).length (frames G).length)).setCell ⟨gt, 1, none⟩ (.int .i64 ((frames G).length : Int))).heap.size := by simp
          clear e8 r8 x8 y8 ro8 bel8 n8 hF8
          go_wp2_with fail
          generalize (w8.setCell ⟨gt, 0, none⟩ (.slice A8 (frames G).length (frames G).length)).setCell ⟨gt, 1, none⟩ (.int .i64 ((frames G).length : Int)) = w9 at *
          clear t0 t1 tf tz8 tz
          refine (CR.out _ _ _ r9 hz9).mono ?_
          rintro e w10 ⟨ug, rfl, og, b10⟩
          change w10.ownsRow w9.heap.size 29 10 ug G.length (rcRow G) at og
          obtain ⟨Ag, cg, rfl, hcg, hcg2⟩ := own_shape og
          have rG := Reads.of_own og
          have rA := (Reads.of_own ro9).take HGl.out
          rw [rcRow_take _ _ HGl.out, hGr] at rA
          have rA10 := (rA.below b10).more b10.size
          have e10 := e9.below b10 e9.lt
          have x10 := x9.below b10 x9.lt
          have y10 := y9.below b10 y9.lt
          have r10 := (r9.below (b10.mono hz9)).more (show w8.heap.size ≤ w10.heap.size from Nat.le_trans hz9 b10.size)
          have bel10 := bel9.trans (b10.mono bel9.size)
          have CS := Lib.hid (same_yes Ag A5 G.length cg c5 w10.heap.size G w10 rfl (by omega) rG rA10)
          have t0 := e10.cell 0
          have t1 := e10.cell 1
          have hI5 : ¬ (G.length : Int) < (rs.length : Int) := by omega
          have hI6 : ¬ (ra.length : Int) < (G.length : Int) := by omega
          have hI7 : (G.length : Int) ≤ (ra.length : Int) := by omega
          have hI8 : (ra.length : Int) ≤ (c5 : Int) := by omega
          clear ro9 rA b10 e9 x9 y9 r9 bel9 CR hz9 rA10
          go_wp2_with fail
          refine CS.out.mono ?_
          rintro e w11 ⟨rfl, q9, rfl⟩
          have e11 := e10.drewN q9
          have x11 := x10.drewN q9
          have y11 := y10.drewN q9
          have r11 := r10.drewN q9
          have og11 : (w10.drewN q9).ownsRow w9.heap.size 29 10 (.slice Ag G.length cg) G.length (rcRow G) := og
          have bel11 := below_drewN bel10 q9
          have hz11 : w10.heap.size ≤ (w10.drewN q9).heap.size := Nat.le_refl _
          clear CS t0 t1 e10 x10 y10 r10 rG bel10 og
          generalize w10.drewN q9 = w11 at *
          have f0 := x11.cell 0
          have f1 := x11.cell 1
          have f2 := x11.cell 2
          have f3 := x11.cell 3
          have g0 := y11.cell 0
          have g1 := y11.cell 1
          have g2 := y11.cell 2
          have g3 := y11.cell 3
          have zx := y11.lt
          go_wp2_with fail
          refine ((CX _).out).mono ?_
          rintro e w12 ⟨rfl, b12⟩
          have e12 := e11.below b12 e11.lt
          have r12 := r11.below (b12.mono hz11)
          have og12 := own_below og11 b12 (Nat.le_refl _)
          have bel12 := bel11.trans (b12.mono bel11.size)
          have hz12 : w10.heap.size ≤ w12.heap.size := Nat.le_trans hz11 b12.size
          clear f0 f1 f2 f3 g0 g1 g2 g3 zx b12 e11 x11 y11 r11 og11 bel11 hz11 CX
          have hpb := recBytes_le rx
          have HXF := Lib.hid (show ∀ d : List Int, d ++ frameOf (recBytes rx) = d ++ frames [rx] from fun d => by simp [frames])
          have t0 := e12.cell 0
          have t1 := e12.cell 1
          have tz := e12.lt
          obtain ⟨rk, rq, re, rp, ⟨x0, x1, x2, x3, x4, x5⟩⟩ := rx
          unfold Rc.val Rc.cells
          go_wp2_with fail
          have eR := Blk.new w12 29 (Rc.cells ⟨rk, rq, re, rp, ⟨x0, x1, x2, x3, x4, x5⟩⟩)
          have e13 := e12.alloc (.cells (Rc.cells ⟨rk, rq, re, rp, ⟨x0, x1, x2, x3, x4, x5⟩⟩) 29)
          have r13 := r12.alloc hz12 (.cells (Rc.cells ⟨rk, rq, re, rp, ⟨x0, x1, x2, x3, x4, x5⟩⟩) 29)
          have og13 := og12.alloc (.cells (Rc.cells ⟨rk, rq, re, rp, ⟨x0, x1, x2, x3, x4, x5⟩⟩) 29)
          have bel13 := bel12.alloc bel12.size (.cells (Rc.cells ⟨rk, rq, re, rp, ⟨x0, x1, x2, x3, x4, x5⟩⟩) 29)
          have hz13 : w10.heap.size ≤ (w12.alloc (.cells (Rc.cells ⟨rk, rq, re, rp, ⟨x0, x1, x2, x3, x4, x5⟩⟩) 29)).heap.size := by simp; omega
          obtain ⟨gr, hgr⟩ : ∃ gr, gr = w12.heap.size := ⟨_, rfl⟩
          rw [← hgr] at eR ⊢
          have hgtr : gt < gr := by omega
          unfold Rc.cells at e13 r13 og13 bel13 hz13 eR
          generalize w12.alloc (.cells #[.int .i64 rk, .int .i64 rq, .int .i64 re, .int .i64 rp, .int .i64 x0, .int .i64 x1, .int .i64 x2, .int .i64 x3, .int .i64 x4, .int .i64 x5] 29) = w13 at *
          clear e12 r12 og12 bel12 t0 t1 tz hgr hz12
          refine (CW.out _ _ _ r13 hz13).mono ?_
          rintro e w14 ⟨v9, rfl, o9, b14⟩
          rw [← List.length_append.trans (congrArg _ (frameOf_length _))] at o9
          have hNL : (frames G).length ≤ (frames G ++ frameOf (recBytes ⟨rk, rq, re, rp, ⟨x0, x1, x2, x3, x4, x5⟩⟩)).length := by rw [List.length_append]; omega
          rw [← frames_snoc] at o9 hNL
          have hfl9 := frames_len (G ++ [(⟨rk, rq, re, rp, ⟨x0, x1, x2, x3, x4, x5⟩⟩ : Rc)])
          have hG2l : (G ++ [(⟨rk, rq, re, rp, ⟨x0, x1, x2, x3, x4, x5⟩⟩ : Rc)]).length = G.length + 1 := by simp
          rw [hG2l] at hfl9
          have rdG2 := HG2.out
          simp only [List.append_nil, show readOf [] = ([], 0) from rfl, Nat.add_zero] at rdG2
          have hGt : (G ++ [(⟨rk, rq, re, rp, ⟨x0, x1, x2, x3, x4, x5⟩⟩ : Rc)]).take G.length = G := by simp
          have hGa : (G ++ [(⟨rk, rq, re, rp, ⟨x0, x1, x2, x3, x4, x5⟩⟩ : Rc)])[G.length]? = some ⟨rk, rq, re, rp, ⟨x0, x1, x2, x3, x4, x5⟩⟩ := by simp
          have hbG2 := HGb2.out
          obtain ⟨G2, hG2⟩ : ∃ G2, G ++ [(⟨rk, rq, re, rp, ⟨x0, x1, x2, x3, x4, x5⟩⟩ : Rc)] = G2 := ⟨_, rfl⟩
          rw [hG2] at o9 hNL hfl9 hG2l rdG2 hGt hGa hbG2
          clear hG2 HG2 HGb2
          obtain ⟨A9, c9, rfl, hc9, hc9'⟩ := own_shape o9
          have CR := Lib.hid (fun W B hr hB => read_ok A9 (frames G2).length c9 B (frames G2) (frames G).length W hr hc9 (by omega) hB (by omega) (by omega) hbG2)
          rw [rdG2] at CR
          clear rdG2 hbG2
          have e14 := e13.below b14 e13.lt
          have eR14 := eR.below b14 eR.lt
          have og14 := own_below og13 b14 (Nat.le_refl _)
          have n10 := own_blk_ne og14 e14 (by decide)
          have bel14 := bel13.trans (b14.mono bel13.size)
          have hz14 : w10.heap.size ≤ w14.heap.size := Nat.le_trans hz13 b14.size
          have n9 := own_blk_ne o9 e14 (by decide)
          have t0 := e14.cell 0
          have t1 := e14.cell 1
          have tf := e14.frozen
          have tz := e14.lt
          clear b14 e13 eR og13 bel13 r13 hz13 CW
          have e15 := (e14.set_ 0 (.slice A9 (frames G2).length c9)).set_ 1 (.int .i64 ((frames G).length : Int))
          have eR15 := (eR14.far (show gr ≠ (⟨gt, 0, none⟩ : Addr).block by simp; omega) (.slice A9 (frames G2).length c9)).far (show gr ≠ (⟨gt, 1, none⟩ : Addr).block by simp; omega) (.int .i64 ((frames G).length : Int))
          have og15 := ownsRow_setCell_other (a := ⟨gt, 1, none⟩) (ownsRow_setCell_other (a := ⟨gt, 0, none⟩) og14 n10 (.slice A9 (frames G2).length c9)) n10 (.int .i64 ((frames G).length : Int))
          have o15 := ownsRow_setCell_other (a := ⟨gt, 1, none⟩) (ownsRow_setCell_other (a := ⟨gt, 0, none⟩) o9 n9 (.slice A9 (frames G2).length c9)) n9 (.int .i64 ((frames G).length : Int))
          have bel15 := (bel14.setCell (p := ⟨gt, 0, none⟩) (by simp; omega) (.slice A9 (frames G2).length c9)).setCell (p := ⟨gt, 1, none⟩) (by simp; omega) (.int .i64 ((frames G).length : Int))
          clear og14 o9 bel14
          go_wp2_with fail
          generalize (w14.setCell ⟨gt, 0, none⟩ (.slice A9 (frames G2).length c9)).setCell ⟨gt, 1, none⟩ (.int .i64 ((frames G).length : Int)) = w15 at *
          clear e14 eR14 t0 t1 tf tz
          refine (CR.out _ _ (Reads.of_own o15) (Nat.le_refl _)).mono ?_
          rintro e w16 ⟨uh, rfl, oh, b16⟩
          change w16.ownsRow w15.heap.size 29 10 uh G2.length (rcRow G2) at oh
          obtain ⟨Ah, ch, rfl, hch, hch2⟩ := own_shape oh
          have rH := (Reads.of_own oh).take (show G.length ≤ G2.length by omega)
          rw [rcRow_take _ _ (show G.length ≤ G2.length by omega), hGt] at rH
          have og16 := own_below og15 b16 (Nat.le_refl _)
          have rG16 := Reads.of_own og16
          have eR16 := eR15.below b16 eR15.lt
          have bel16 := bel15.trans (b16.mono bel15.size)
          have CS := fun q => Lib.hid (same_yes Ah Ag G.length ch cg w16.heap.size G (w16.drewN q) rfl (by omega) (rH.drewN q) (rG16.drewN q))
          obtain ⟨bh, oh', hAh, _, r0, h0, h1, h2, h3, h4, h5, h6, h7, h8, h9, hr0⟩ := rcAt (show G2.length = G2.length from rfl) (Reads.of_own oh) (show G.length < G2.length by omega)
          subst hAh
          rw [hGa] at hr0
          injection hr0 with hr0
          subst hr0
          obtain ⟨z0, z1, z2, z3, z4, z5, z6, z7, z8, z9⟩ := rcBlk (r := ⟨rk, rq, re, rp, ⟨x0, x1, x2, x3, x4, x5⟩⟩) eR16
          have heq := rec_eql_same
          have hgq : Try.prog.eqGuardType Try.prog.depth 29 = false := by kernel_rfl
          have i9 : IntKind.i64.wrap ((G.length : Int) + 1) = (G.length : Int) + 1 := IntWalk.i64_in _ (by omega)
          have hi1 : (G.length : Int) < (G2.length : Int) := by omega
          have hi2 : (G.length : Int) ≤ (G2.length : Int) := by omega
          have hi3 : (G2.length : Int) ≤ (ch : Int) := by omega
          have hi4 : (G2.length : Int) = (G.length : Int) + 1 := by omega
          have hi5 : G.length < G2.length := by omega
          clear oh og16 og15 rH rG16 b16 eR15 eR16 e15 o15 bel15 CR hGa hGt
          go_wp2_with fail
          go_quiet ((go_at_call 24; exact Calls.quiet_of (CS _).out))
          go_wp2
          go_ret
          exact ⟨ret_true (by simp), below_drewN bel16 _⟩

end Go.Proofs.Ytcgamaponeglhaa
