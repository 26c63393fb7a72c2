/- RebuildMixed: for every input the law returns true. The walk lies in XLawRebuildMixed; here the row's frame. Conditions: none. -/
import Derived.Test.YtjmncbfmjeeneaaRows
import Derived.OpenShut
import Derived.ChangeOld
import Derived.Test.YtjmncbfmjeeneaaRB8

namespace Go.Proofs.Ytjmncbfmjeeneaa
open Go.RowKit

inductive Mix (P Q : List Rc) : Nat → Nat → List Rc → Prop where
  | nil : Mix P Q 0 0 []
  | left {i j : Nat} {rs : List Rc} (h : Mix P Q i j rs) (hi : i < P.length) : Mix P Q (i + 1) j (rs ++ [P.getD i rc0])
  | right {i j : Nat} {rs : List Rc} (h : Mix P Q i j rs) (hj : j < Q.length) : Mix P Q i (j + 1) (rs ++ [Q.getD j rc0])
theorem Mix.len {P Q : List Rc} {i j : Nat} {rs : List Rc} (h : Mix P Q i j rs) : rs.length = i + j := by
  induction h with
  | nil => rfl
  | left h hi ih => rw [List.length_append, ih]; simp; omega
  | right h hj ih => rw [List.length_append, ih]; simp; omega
def twoQ (s t : BM) (k : Nat) : BM := if k = 0 then s else if k = 3 then t else BM.zero
theorem StepAt.snoc {rs : List Rc} {x : Rc} {f g : Nat → Nat → BM} {k : Nat} (h : StepAt rs f k) (hk : k < rs.length) (h1 : g k = f k) (h2 : g (k + 1) = f (k + 1)) : StepAt (rs ++ [x]) g k := by
  obtain ⟨q, a, b, c, d⟩ := h
  have hg : (rs ++ [x]).getD k rc0 = rs.getD k rc0 := getD_left hk
  refine ⟨q, a, by rw [hg]; exact b, by rw [hg, h1, h2]; exact c, fun j hj => by rw [h1, h2]; exact d j hj⟩
theorem Mix.fits {P Q : List Rc} {s t : Nat → BM} (hP : Chain 0 P s) (hQ : Chain 3 Q t) (hs : s 0 = BM.zero) (ht : t 0 = BM.zero) {i j : Nat} {rs : List Rc} (h : Mix P Q i j rs) :
    ∃ f : Nat → Nat → BM, (∀ k, f 0 k = BM.zero) ∧ (∀ k, k < rs.length → StepAt rs f k) ∧ f rs.length = twoQ (s i) (t j) := by
  induction h with
  | nil =>
    refine ⟨fun _ => twoQ (s 0) (t 0), fun k => ?_, fun k hk => (by cases hk), rfl⟩
    show twoQ (s 0) (t 0) k = BM.zero
    unfold twoQ
    rw [hs, ht]
    split
    · rfl
    · split <;> rfl
  | @left i j rs h hi ih =>
    obtain ⟨f, f0, f1, f2⟩ := ih
    have hlen : (rs ++ [P.getD i rc0]).length = rs.length + 1 := by simp
    refine ⟨fun a => if a ≤ rs.length then f a else twoQ (s (i + 1)) (t j), fun k => by dsimp only; rw [if_pos (Nat.zero_le _)]; exact f0 k, fun k hk => ?_, by rw [hlen]; dsimp only; rw [if_neg (by omega)]⟩
    rw [hlen] at hk
    by_cases hk2 : k < rs.length
    · exact (f1 k hk2).snoc hk2 (by rw [if_pos (by omega)]) (by rw [if_pos (by omega)])
    · obtain rfl : k = rs.length := by omega
      obtain ⟨h1, h2⟩ := hP i hi
      refine ⟨0, by omega, ?_, ?_, fun q hq => ?_⟩
      · rw [getD_end]; exact h1
      · rw [getD_end]
        dsimp only
        rw [if_pos (Nat.le_refl _), if_neg (by omega), f2]
        exact h2
      · dsimp only
        rw [if_pos (Nat.le_refl _), if_neg (by omega), f2]
        unfold twoQ
        rw [if_neg hq, if_neg hq]
  | @right i j rs h hj ih =>
    obtain ⟨f, f0, f1, f2⟩ := ih
    have hlen : (rs ++ [Q.getD j rc0]).length = rs.length + 1 := by simp
    refine ⟨fun a => if a ≤ rs.length then f a else twoQ (s i) (t (j + 1)), fun k => by dsimp only; rw [if_pos (Nat.zero_le _)]; exact f0 k, fun k hk => ?_, by rw [hlen]; dsimp only; rw [if_neg (by omega)]⟩
    rw [hlen] at hk
    by_cases hk2 : k < rs.length
    · exact (f1 k hk2).snoc hk2 (by rw [if_pos (by omega)]) (by rw [if_pos (by omega)])
    · obtain rfl : k = rs.length := by omega
      obtain ⟨h1, h2⟩ := hQ j hj
      refine ⟨3, by omega, ?_, ?_, fun q hq => ?_⟩
      · rw [getD_end]; exact h1
      · rw [getD_end]
        dsimp only
        rw [if_pos (Nat.le_refl _), if_neg (by omega), f2]
        exact h2
      · dsimp only
        rw [if_pos (Nat.le_refl _), if_neg (by omega), f2]
        unfold twoQ
        by_cases hq0 : q = 0
        · rw [if_pos hq0, if_pos hq0]
        · rw [if_neg hq0, if_neg hq0, if_neg hq, if_neg hq]
/-- the berths of All: the first and the last one have something -/
def AOut2 (w0 : World) (I : List It) (a b : Int) (es fs : List Ev) (m p : Nat) (ed : Ending) (w' : World) : Prop :=
  ∃ go A c A' c' cs, ed = .returned (.tuple #[.slice (some ⟨go, 0, none⟩) 4 4, .int .i64 0, .int .i64 0]) ∧ m ≤ c ∧ p ≤ c' ∧ cs.size = 24 ∧ cs.extract 0 (0 + 6) = #[.int .i64 1, .int .i64 a, .int .i64 0, .int .i64 0, .int .i64 0, .slice A m c] ∧
    cs.extract 18 (18 + 6) = #[.int .i64 1, .int .i64 b, .int .i64 0, .int .i64 0, .int .i64 0, .slice A' p c'] ∧ St w0 w' (.bl go 58 cs :: evIt A es :: evIt A' fs :: I)
theorem all_two {w0 w : World} {I : List It} (P Q : List Rc) (s t : Nat → BM) (hP : Chain 0 P s) (hQ : Chain 3 Q t) (hs : s 0 = BM.zero) (ht : t 0 = BM.zero) (i j : Nat) (rs : List Rc) (hM : Mix P Q i j rs) (a b : Int) (es fs : List Ev) (m p N : Nat) (hm : es.length = m) (hp : fs.length = p) (hN : rs.length = N) (hNN : N ≤ 10000)
    (hsi : s i = ⟨1, a, 0, 0, 0, es⟩) (htj : t j = ⟨1, b, 0, 0, 0, fs⟩) (A : Option Addr) (c : Nat) (hc : N ≤ c) (H : St w0 w I) [h : Has I (rcIt A rs)] :
    Calls Try.prog 18 #[.slice A N c] w (AOut2 w0 I a b es fs m p) := by
  obtain ⟨f, f0, f1, f2⟩ := hM.fits hP hQ hs ht
  refine (all_st rs A N c N f 0 hN hNN hc (Nat.le_refl _) f0 (fun k hk => f1 k (by omega)) (fun h => absurd h (Nat.lt_irrefl _)) H).mono ?_
  intro ed w' hq
  unfold APost at hq
  rw [if_pos rfl, ← hN, f2, hsi, htj] at hq
  obtain ⟨go, A', c', rfl, hc', H'⟩ := hq
  refine ⟨go, A' 0, c' 0, A' 3, c' 3, outB (twoQ ⟨1, a, 0, 0, 0, es⟩ ⟨1, b, 0, 0, 0, fs⟩) A' c', rfl, ?_, ?_, outB_size _ _ _, ?_, ?_, ?_⟩
  · have h4 : es.length ≤ c' 0 := hc' 0 (by omega)
    omega
  · have h4 : fs.length ≤ c' 3 := hc' 3 (by omega)
    omega
  · rw [show (0 : Nat) = 0 * 6 from rfl, outB_part _ _ _ 0 (by omega), ← hm]
    rfl
  · rw [show (18 : Nat) = 3 * 6 from rfl, outB_part _ _ _ 3 (by omega), ← hp]
    rfl
  · exact (show St w0 w' (.bl go 58 _ :: evIt (A' 0) es :: evIt (A' 1) [] :: evIt (A' 2) [] :: evIt (A' 3) fs :: I) from H').subm (.bl go 58 _ :: evIt (A' 0) es :: evIt (A' 3) fs :: I)

end Go.Proofs.Ytjmncbfmjeeneaa

namespace Go.Proofs.Ytjmncbfmjeeneaa
open Go.RowKit

set_option maxRecDepth 100000 in
set_option maxHeartbeats 8000000 in
theorem rebuildMixed_walk (A : Option Addr) (n c : Nat) (rows : List (List Int)) (A2 : Option Addr) (n2 c2 : Nat) (rows2 : List (List Int)) (A3 : Option Addr) (n3 c3 : Nat) (zs : List Bool) (w : World) (h : IsRows 4 32 w A n c rows) (h2 : IsRows 4 32 w A2 n2 c2 rows2) (h3 : IsBools 1 w A3 n3 c3 zs) :
    Calls Try.prog 5 #[.slice A n c, .slice A2 n2 c2, .slice A3 n3 c3] w fun e w' => e = .returned (.bool true) ∧ Below w.heap.size w w' := by
  have H := St.start w
  have SV0 := fun W J (H : St w W J) => served_st (w0 := w) (w := W) (I := J) 3 A n c 20 rows (by unfold Is64; omega) h (by omega) H
  rw [show 1 + pick 3 1000 = 4 from rfl] at SV0
  obtain ⟨es, hsv, hm0, hx0, hnb0⟩ := served_is 4 rows (by omega) (by omega) (min n 20)
  rw [hsv] at SV0
  have hm : es.length ≤ 20 := by omega
  have HX := Lib.hid (hx0.more (show min n 20 ≤ 20 by omega))
  obtain ⟨m, hl⟩ : ∃ m, es.length = m := ⟨_, rfl⟩
  rw [hl] at hm
  have SVA := Lib.hid (fun W J (H : St w W J) => (show Calls Try.prog 16 #[.int .i64 3, .slice A n c, .int .i64 20] W (fun ed w' => ∃ A c, ed = .returned (.tuple #[.agg #[.int .i64 1, .int .i64 4, .int .i64 0, .int .i64 0, .int .i64 0, .slice A m c], .bool true]) ∧ m ≤ c ∧ St w w' (evIt A es :: J)) from vpost_to hl (SV0 W J H)))
  have HL := Lib.hid hl
  clear SV0 hsv hm0 hx0 hl hnb0
  have SV0 := fun W J (H : St w W J) => served_st (w0 := w) (w := W) (I := J) 7 A2 n2 c2 20 rows2 (by unfold Is64; omega) h2 (by omega) H
  rw [show 1 + pick 7 1000 = 8 from rfl] at SV0
  obtain ⟨fs, hsv, hm0, hx0, hnb0⟩ := served_is 8 rows2 (by omega) (by omega) (min n2 20)
  rw [hsv] at SV0
  have hp : fs.length ≤ 20 := by omega
  have HY := Lib.hid (hx0.more (show min n2 20 ≤ 20 by omega))
  obtain ⟨p, hl⟩ : ∃ m, fs.length = m := ⟨_, rfl⟩
  rw [hl] at hp
  have SVB := Lib.hid (fun W J (H : St w W J) => (show Calls Try.prog 16 #[.int .i64 7, .slice A2 n2 c2, .int .i64 20] W (fun ed w' => ∃ A c, ed = .returned (.tuple #[.agg #[.int .i64 1, .int .i64 8, .int .i64 0, .int .i64 0, .int .i64 0, .slice A p c], .bool true]) ∧ p ≤ c ∧ St w w' (evIt A fs :: J)) from vpost_to hl (SV0 W J H)))
  have HL2 := Lib.hid hl
  clear SV0 hsv hm0 hx0 hl hnb0
  have HLP := Lib.hid (show (histOf 0 4 es).length = m + 1 from by rw [histOf_len, HL.out])
  have HLQ := Lib.hid (show (histOf 3 8 fs).length = p + 1 from by rw [histOf_len, HL2.out])
  have HCP := Lib.hid (show Chain 0 (histOf 0 4 es) (actS 4 es) from hist_chain 0 (by omega) 4 es 20 HX.out (by omega) (by omega) (by omega))
  have HCQ := Lib.hid (show Chain 3 (histOf 3 8 fs) (actS 8 fs) from hist_chain 3 (by omega) 8 fs 20 HY.out (by omega) (by omega) (by omega))
  have HSP := Lib.hid (show actS 4 es (m + 1) = ⟨1, 4, 0, 0, 0, es⟩ from by rw [actS_at _ _ _ (by omega), Nat.add_sub_cancel, List.take_of_length_le (Nat.le_of_eq HL.out)])
  have HSQ := Lib.hid (show actS 8 fs (p + 1) = ⟨1, 8, 0, 0, 0, fs⟩ from by rw [actS_at _ _ _ (by omega), Nat.add_sub_cancel, List.take_of_length_le (Nat.le_of_eq HL2.out)])
  obtain ⟨P, HP⟩ : ∃ P, histOf 0 4 es = P := ⟨_, rfl⟩
  obtain ⟨Q, HQ⟩ : ∃ Q, histOf 3 8 fs = Q := ⟨_, rfl⟩
  rw [HP] at HLP HCP
  rw [HQ] at HLQ HCQ
  have CRA := Lib.hid (fun W J (H : St w W J) A c (hc : m ≤ c) (hI : Has J (evIt A es)) => records_to (h := hI) (w0 := w) (w := W) (I := J) 0 1 4 0 0 0 es A m c (m + 1) P HP HLP.out HL.out (by omega) hc H)
  have CRB := Lib.hid (fun W J (H : St w W J) A c (hc : p ≤ c) (hI : Has J (evIt A fs)) => records_to (h := hI) (w0 := w) (w := W) (I := J) 3 1 8 0 0 0 fs A p c (p + 1) Q HQ HLQ.out HL2.out (by omega) hc H)
  have HB3 := Lib.hid h3
  clear h h2 h3 HP HQ
  go_enter Try.func5, Try.ntmps5
  go_upto_region 2 with (first | (go_at_call 16; (with_reducible refine (SVA.out _ _ H).mono ?_); clear H; rintro ed wy ⟨Ax, cx, rfl, hcx, H⟩) | (first | ((with_reducible refine here_load ?_); first | refine ldR H rfl _ _ rfl rfl (by kernel_rfl) ?_ | refine ldS H rfl _ _ rfl rfl (by rfl) ?_ | refine ldSG H (by rfl) _ _ rfl rfl (by rfl) ?_ | refine ldRG H (by rfl) _ _ rfl rfl (by kernel_rfl) ?_) | ((with_reducible refine here_store ?_); first | (refine stR H rfl _ _ _ rfl rfl rfl (by rfl) (by rfl) (by kernel_rfl) ?_; clear H; intro wx H) | (refine stS H rfl _ _ _ rfl rfl _ rfl (by rfl) (by rfl) (by rfl) ?_; clear H; intro wx H)) | ((with_reducible refine here_alloc ?_); first | (refine wpList_alloc_st H rfl 37 rfl _ q_zero ?_; clear H; intro gqx wx H) | (refine wpList_alloc_st H rfl 48 rfl _ ans_zero ?_; clear H; intro gax wx H) | (refine wpList_alloc_st H rfl 44 rfl _ ev_zero ?_; clear H; intro gex wx H) | (refine wpList_alloc_st H rfl 58 rfl _ ber_zero ?_; clear H; intro grx wx H)) | ((with_reducible refine here_box ?_); refine wpList_box_st H rfl _ _ rfl _ rfl ?_; clear H; intro gbx wx H)))
  (try simp only [Act.put])
  go_upto_region 3 with (first | (go_at_call 16; (with_reducible refine (SVB.out _ _ H).mono ?_); clear H; rintro ed wy ⟨Ay, cy, rfl, hcy, H⟩) | (first | ((with_reducible refine here_load ?_); first | refine ldR H rfl _ _ rfl rfl (by kernel_rfl) ?_ | refine ldS H rfl _ _ rfl rfl (by rfl) ?_ | refine ldSG H (by rfl) _ _ rfl rfl (by rfl) ?_ | refine ldRG H (by rfl) _ _ rfl rfl (by kernel_rfl) ?_) | ((with_reducible refine here_store ?_); first | (refine stR H rfl _ _ _ rfl rfl rfl (by rfl) (by rfl) (by kernel_rfl) ?_; clear H; intro wx H) | (refine stS H rfl _ _ _ rfl rfl _ rfl (by rfl) (by rfl) (by rfl) ?_; clear H; intro wx H)) | ((with_reducible refine here_alloc ?_); first | (refine wpList_alloc_st H rfl 37 rfl _ q_zero ?_; clear H; intro gqy wx H) | (refine wpList_alloc_st H rfl 48 rfl _ ans_zero ?_; clear H; intro gay wx H) | (refine wpList_alloc_st H rfl 44 rfl _ ev_zero ?_; clear H; intro gey wx H) | (refine wpList_alloc_st H rfl 58 rfl _ ber_zero ?_; clear H; intro gry wx H)) | ((with_reducible refine here_box ?_); refine wpList_box_st H rfl _ _ rfl _ rfl ?_; clear H; intro gby wx H)))
  (try simp only [Act.put])
  go_upto_region 4 with (first | (go_at_call 17; (with_reducible refine (CRA.out _ _ H Ax cx hcx inferInstance).mono ?_); clear H; rintro ed wy ⟨Ap, cp, rfl, hcp, hcp', H⟩; replace H := H.frzRc HLP.out) | (first | ((with_reducible refine here_load ?_); first | refine ldR H rfl _ _ rfl rfl (by kernel_rfl) ?_ | refine ldS H rfl _ _ rfl rfl (by rfl) ?_ | refine ldSG H (by rfl) _ _ rfl rfl (by rfl) ?_ | refine ldRG H (by rfl) _ _ rfl rfl (by kernel_rfl) ?_) | ((with_reducible refine here_store ?_); first | (refine stR H rfl _ _ _ rfl rfl rfl (by rfl) (by rfl) (by kernel_rfl) ?_; clear H; intro wx H) | (refine stS H rfl _ _ _ rfl rfl _ rfl (by rfl) (by rfl) (by rfl) ?_; clear H; intro wx H)) | ((with_reducible refine here_alloc ?_); first | (refine wpList_alloc_st H rfl 37 rfl _ q_zero ?_; clear H; intro gq3 wx H) | (refine wpList_alloc_st H rfl 48 rfl _ ans_zero ?_; clear H; intro ga3 wx H) | (refine wpList_alloc_st H rfl 44 rfl _ ev_zero ?_; clear H; intro ge3 wx H) | (refine wpList_alloc_st H rfl 58 rfl _ ber_zero ?_; clear H; intro gr3 wx H)) | ((with_reducible refine here_box ?_); refine wpList_box_st H rfl _ _ rfl _ rfl ?_; clear H; intro gb3 wx H)))
  (try simp only [Act.put])
  go_upto_region 5 with (first | (go_at_call 17; (with_reducible refine (CRB.out _ _ H Ay cy hcy inferInstance).mono ?_); clear H; rintro ed wy ⟨Aq, cq, rfl, hcq, hcq', H⟩; replace H := H.frzRc HLQ.out) | (first | ((with_reducible refine here_load ?_); first | refine ldR H rfl _ _ rfl rfl (by kernel_rfl) ?_ | refine ldS H rfl _ _ rfl rfl (by rfl) ?_ | refine ldSG H (by rfl) _ _ rfl rfl (by rfl) ?_ | refine ldRG H (by rfl) _ _ rfl rfl (by kernel_rfl) ?_) | ((with_reducible refine here_store ?_); first | (refine stR H rfl _ _ _ rfl rfl rfl (by rfl) (by rfl) (by kernel_rfl) ?_; clear H; intro wx H) | (refine stS H rfl _ _ _ rfl rfl _ rfl (by rfl) (by rfl) (by rfl) ?_; clear H; intro wx H)) | ((with_reducible refine here_alloc ?_); first | (refine wpList_alloc_st H rfl 37 rfl _ q_zero ?_; clear H; intro gq4 wx H) | (refine wpList_alloc_st H rfl 48 rfl _ ans_zero ?_; clear H; intro ga4 wx H) | (refine wpList_alloc_st H rfl 44 rfl _ ev_zero ?_; clear H; intro ge4 wx H) | (refine wpList_alloc_st H rfl 58 rfl _ ber_zero ?_; clear H; intro gr4 wx H)) | ((with_reducible refine here_box ?_); refine wpList_box_st H rfl _ _ rfl _ rfl ?_; clear H; intro gb4 wx H)))
  (try simp only [Act.put])
  go_upto_region 8 with fail
  replace H := (H.nilOwn 67 10).subm [.ow 67 10 (.slice none 0 0) 0 [], .bl grx 58 #[.int .i64 1, .int .i64 4, .int .i64 0, .int .i64 0, .int .i64 0, .slice Ax m cx], evIt Ax es, .bl gry 58 #[.int .i64 1, .int .i64 8, .int .i64 0, .int .i64 0, .int .i64 0, .slice Ay p cy], evIt Ay fs, rcIt Ap P, rcIt Aq Q]
  go_loopw [13, 14, 15] (fun s13 s14 s15 wr => ∃ (i j N : Nat) (rs : List Rc) (A5 : Option Addr) (c5 : Nat), i ≤ m + 1 ∧ j ≤ p + 1 ∧ N = i + j ∧ Mix P Q i j rs ∧ N ≤ c5 ∧ c5 ≤ maxLen ∧ s13 = .slice A5 N c5 ∧ s14 = .int .i64 i ∧ s15 = .int .i64 j ∧ St w wr [.ow 67 10 (.slice A5 N c5) N (rcCells rs), .bl grx 58 #[.int .i64 1, .int .i64 4, .int .i64 0, .int .i64 0, .int .i64 0, .slice Ax m cx], evIt Ax es, .bl gry 58 #[.int .i64 1, .int .i64 8, .int .i64 0, .int .i64 0, .int .i64 0, .slice Ay p cy], evIt Ay fs, rcIt Ap P, rcIt Aq Q]) (fun _ s14 s15 _ => m + p + 2 - ((intOf s14).toNat + (intOf s15).toNat))
  case atStart => exact ⟨0, 0, 0, [], none, 0, by omega, by omega, rfl, .nil, by omega, by simp only [maxLen]; omega, rfl, rfl, rfl, H⟩
  case round =>
    clear H
    obtain ⟨i, j, N, rs, A5, c5, hi, hj, hNij, hmix, hc5, hc5', rfl, rfl, rfl, H⟩ := hrel
    have i0 : (0 : Int) ≤ (i : Int) := by omega
    have j0 : (0 : Int) ≤ (j : Int) := by omega
    have wi : IntKind.i64.wrap ((i : Int) + 1) = (i : Int) + 1 := IntWalk.i64_in _ (by omega)
    have wj : IntKind.i64.wrap ((j : Int) + 1) = (j : Int) + 1 := IntWalk.i64_in _ (by omega)
    have wij : IntKind.i64.wrap ((i : Int) + (j : Int)) = (N : Int) := by rw [show (i : Int) + (j : Int) = (N : Int) by omega]; exact IntWalk.i64_in _ (by omega)
    have hN50 : N ≤ 50 := by omega
    have pcp : (m : Int) + 1 ≤ (cp : Int) := by omega
    have pcq : (p : Int) + 1 ≤ (cq : Int) := by omega
    by_cases hlast : j = p + 1
    · have a1 : ((j : Int) == (p : Int) + 1) = true := by simp; omega
      have a2 : ¬ (j : Int) < (p : Int) + 1 := by omega
      have a3 := decide_eq_false a2
      by_cases ht : i < m + 1
      · have b1 : (i : Int) < (m : Int) + 1 := by omega
        have b2 := decide_eq_true b1
        clear hlast
        have HMX := Lib.hid hmix
        have HNN := Lib.hid hNij
        have HIJ := Lib.hid (show i ≤ m + 1 ∧ j ≤ p + 1 ∧ i < m + 1 from ⟨hi, hj, ht⟩)
        have HRD := H.get (rcIt Ap P)
        obtain ⟨b8, off, hA8, hb8, hcell⟩ := rcAt HRD rfl (show i < P.length by rw [HLP.out]; exact ht)
        have HGT := Lib.hid (show Mix P Q (i + 1) j (rs ++ [P.getD i rc0]) from .left hmix (by rw [HLP.out]; exact ht))
        obtain ⟨r, hr⟩ : ∃ r, P.getD i rc0 = r := ⟨_, rfl⟩
        rw [hr] at hcell HGT
        clear hr HRD hmix hNij hi hj ht
        subst hA8
        obtain ⟨k, qu, ep, pe, ⟨e0, e1, e2, e3, e4, e5⟩⟩ := r
        have q0 : wr.cell? ⟨b8, off + i * 10, none⟩ = some (.int .i64 k) := hcell 0 _ rfl
        have q1 := hcell 1 _ rfl
        have q2 := hcell 2 _ rfl
        have q3 := hcell 3 _ rfl
        have q4 := hcell 4 _ rfl
        have q5 := hcell 5 _ rfl
        have q6 := hcell 6 _ rfl
        have q7 := hcell 7 _ rfl
        have q8 := hcell 8 _ rfl
        have q9 := hcell 9 _ rfl
        clear hcell hb8
        go_wp2_with (first | ((with_reducible refine here_buildSlice ?_); refine wpList_buildSlice1_st H rfl 61 _ rfl 67 Try.underlying61 _ rfl _ rec_info2 (by rfl) (by rfl) ?_; clear H; intro gs wx H) | ((with_reducible refine here_call ?_); refine wpList_appendB_st (v := .slice A5 N c5) H rfl _ _ 61 rfl rfl rfl Try.underlying61 _ _ rec_info (by rfl) (by rfl) (by rfl) (by kernel_rfl) (by simp only [maxLen]; omega) (by omega) ?_; clear H; intro A8 c8 wx hc8 hc8' H) | (first | ((with_reducible refine here_load ?_); first | refine ldR H rfl _ _ rfl rfl (by kernel_rfl) ?_ | refine ldS H rfl _ _ rfl rfl (by rfl) ?_ | refine ldSG H (by rfl) _ _ rfl rfl (by rfl) ?_ | refine ldRG H (by rfl) _ _ rfl rfl (by kernel_rfl) ?_) | ((with_reducible refine here_store ?_); first | (refine stR H rfl _ _ _ rfl rfl rfl (by rfl) (by rfl) (by kernel_rfl) ?_; clear H; intro wx H) | (refine stS H rfl _ _ _ rfl rfl _ rfl (by rfl) (by rfl) (by rfl) ?_; clear H; intro wx H)) | ((with_reducible refine here_alloc ?_); first | (refine wpList_alloc_st H rfl 37 rfl _ q_zero ?_; clear H; intro gq6 wx H) | (refine wpList_alloc_st H rfl 48 rfl _ ans_zero ?_; clear H; intro ga6 wx H) | (refine wpList_alloc_st H rfl 44 rfl _ ev_zero ?_; clear H; intro ge6 wx H) | (refine wpList_alloc_st H rfl 58 rfl _ ber_zero ?_; clear H; intro gr6 wx H)) | ((with_reducible refine here_box ?_); refine wpList_box_st H rfl _ _ rfl _ rfl ?_; clear H; intro gb6 wx H)))
        go_roundw
        case rel => exact ⟨i + 1, j, N + 1, rs ++ [⟨k, qu, ep, pe, ⟨e0, e1, e2, e3, e4, e5⟩⟩], A8, c8, by have := HIJ.out; omega, by have := HIJ.out; omega, by have := HNN.out; omega, HGT.out, hc8, hc8', rfl, by go_num, by go_num, (by rw [← rcCells_snoc]; exact H.tail)⟩
        case measure => have := HIJ.out; simp [intOf] <;> omega

      · have b1 : ¬ (i : Int) < (m : Int) + 1 := by omega
        have b2 := decide_eq_false b1
        obtain rfl : i = m + 1 := by omega
        obtain rfl : j = p + 1 := by omega
        clear hlast ht
        have HMX := Lib.hid hmix
        have HLR := Lib.hid (show rs.length = N from by rw [hmix.len]; omega)
        have CA := Lib.hid (fun W J (H : St w W J) A c (hc : N ≤ c) (hI : Has J (rcIt A rs)) => all_two (h := hI) (w0 := w) (w := W) (I := J) P Q (actS 4 es) (actS 8 fs) HCP.out HCQ.out rfl rfl (m + 1) (p + 1) rs HMX.out 4 8 es fs m p N HL.out HL2.out HLR.out (by omega) HSP.out HSQ.out A c hc H)
        clear hmix hNij
        rw [show ((m + 1 : Nat) : Int) = (m : Int) + 1 from rfl, show ((p + 1 : Nat) : Int) = (p : Int) + 1 from rfl]
        have a4 : ((p : Int) + 1 == (p : Int) + 1) = true := by simp
        replace H := St.frzRc H HLR.out
        go_upto_region 15 with (first | (go_at_call 18; go_loud (with_reducible refine (CA.out _ _ H A5 c5 hc5 inferInstance).mono ?_); clear H; rintro ed wy ⟨go, A6, c6, A7, c7, cs, rfl, hc6, hc7, hz, hx, hy, H⟩) | (first | ((with_reducible refine here_load ?_); first | refine ldR H rfl _ _ rfl rfl (by kernel_rfl) ?_ | refine ldS H rfl _ _ rfl rfl (by rfl) ?_ | refine ldSG H (by rfl) _ _ rfl rfl (by rfl) ?_ | refine ldRG H (by rfl) _ _ rfl rfl (by kernel_rfl) ?_) | ((with_reducible refine here_store ?_); first | (refine stR H rfl _ _ _ rfl rfl rfl (by rfl) (by rfl) (by kernel_rfl) ?_; clear H; intro wx H) | (refine stS H rfl _ _ _ rfl rfl _ rfl (by rfl) (by rfl) (by rfl) ?_; clear H; intro wx H)) | ((with_reducible refine here_alloc ?_); first | (refine wpList_alloc_st H rfl 37 rfl _ q_zero ?_; clear H; intro gq9 wx H) | (refine wpList_alloc_st H rfl 48 rfl _ ans_zero ?_; clear H; intro ga9 wx H) | (refine wpList_alloc_st H rfl 44 rfl _ ev_zero ?_; clear H; intro ge9 wx H) | (refine wpList_alloc_st H rfl 58 rfl _ ber_zero ?_; clear H; intro gr9 wx H)) | ((with_reducible refine here_box ?_); refine wpList_box_st H rfl _ _ rfl _ rfl ?_; clear H; intro gb9 wx H)))
        (try simp only [Act.put])
        have HXX := Lib.hid hx
        have HYY := Lib.hid hy
        clear hx hy
        refine startS (H.subm (.bl go 58 cs :: evIt A6 es :: evIt A7 fs :: .bl grx 58 #[.int .i64 1, .int .i64 4, .int .i64 0, .int .i64 0, .int .i64 0, .slice Ax m cx] :: evIt Ax es :: .bl gry 58 #[.int .i64 1, .int .i64 8, .int .i64 0, .int .i64 0, .int .i64 0, .slice Ay p cy] :: evIt Ay fs :: [])) (by kernel_rfl) (fun HS => ?_)
        replace H := H.drew
        refine takeMove (i := 0) rfl rfl _ (by rfl) (by kernel_rfl) (by kernel_rfl) (by kernel_rfl) (fun _ _ _ _ h => h) (by rfl) HS ?_
        (try simp only [Act.put, List.setIfInBounds_toArray, List.set_cons_zero, List.set_cons_succ])
        refine takeMove (i := 1) rfl rfl _ (by rfl) (by kernel_rfl) (by kernel_rfl) (by kernel_rfl) (fun _ _ _ _ h => h) (by rfl) HS ?_
        (try simp only [Act.put, List.setIfInBounds_toArray, List.set_cons_zero, List.set_cons_succ])
        refine takeMove (i := 2) rfl rfl _ (by rfl) (by kernel_rfl) (by kernel_rfl) (by kernel_rfl) (fun _ _ _ _ h => h) (by rfl) HS ?_
        (try simp only [Act.put, List.setIfInBounds_toArray, List.set_cons_zero, List.set_cons_succ])
        refine takeV (i := 3) (v := ?_) rfl (by kernel_rfl) (by kernel_rfl) (by kernel_rfl) (fun _ _ _ h => h) (by rfl) ?_ HS ?_
        rotate_left
        · (intro W hW; go_simp; try with_reducible rfl)
        (try simp only [Act.put, List.setIfInBounds_toArray, List.set_cons_zero, List.set_cons_succ])
        refine takeMove (i := 4) rfl rfl _ (by rfl) (by kernel_rfl) (by kernel_rfl) (by kernel_rfl) (fun _ _ _ _ h => h) (by rfl) HS ?_
        (try simp only [Act.put, List.setIfInBounds_toArray, List.set_cons_zero, List.set_cons_succ])
        refine takeMove (i := 5) rfl rfl _ (by rfl) (by kernel_rfl) (by kernel_rfl) (by kernel_rfl) (fun _ _ _ _ h => h) (by rfl) HS ?_
        (try simp only [Act.put, List.setIfInBounds_toArray, List.set_cons_zero, List.set_cons_succ])
        refine takeV (i := 6) (v := ?_) rfl (by kernel_rfl) (by kernel_rfl) (by kernel_rfl) (fun _ _ _ h => h) (by rfl) ?_ HS ?_
        rotate_left
        · (intro W hW; go_simp; try with_reducible rfl)
        (try simp only [Act.put, List.setIfInBounds_toArray, List.set_cons_zero, List.set_cons_succ])
        refine takeV (i := 7) (v := ?_) rfl (by kernel_rfl) (by kernel_rfl) (by kernel_rfl) (fun _ _ _ h => h) (by rfl) ?_ HS ?_
        rotate_left
        · (intro W hW; go_simp; try with_reducible rfl)
        (try simp only [Act.put, List.setIfInBounds_toArray, List.set_cons_zero, List.set_cons_succ])
        refine takeMove (i := 8) rfl rfl _ (by rfl) (by kernel_rfl) (by kernel_rfl) (by kernel_rfl) (fun _ _ _ _ h => h) (by rfl) HS ?_
        (try simp only [Act.put, List.setIfInBounds_toArray, List.set_cons_zero, List.set_cons_succ])
        refine takeMove (i := 9) rfl rfl _ (by rfl) (by kernel_rfl) (by kernel_rfl) (by kernel_rfl) (fun _ _ _ _ h => h) (by rfl) HS ?_
        (try simp only [Act.put, List.setIfInBounds_toArray, List.set_cons_zero, List.set_cons_succ])
        refine takeV (i := 10) (v := ?_) rfl (by kernel_rfl) (by kernel_rfl) (by kernel_rfl) (fun _ _ _ h => h) (by rfl) ?_ HS ?_
        rotate_left
        · (intro W hW; go_simp; try with_reducible rfl)
        (try simp only [Act.put, List.setIfInBounds_toArray, List.set_cons_zero, List.set_cons_succ])
        refine takeV (i := 11) (v := ?_) rfl (by kernel_rfl) (by kernel_rfl) (by kernel_rfl) (fun _ _ _ h => h) (by rfl) ?_ HS ?_
        rotate_left
        · (intro W hW; go_simp; try with_reducible rfl)
        (try simp only [Act.put, List.setIfInBounds_toArray, List.set_cons_zero, List.set_cons_succ])
        refine takeV (i := 12) (v := ?_) rfl (by kernel_rfl) (by kernel_rfl) (by kernel_rfl) (fun _ _ _ h => h) (by rfl) ?_ HS ?_
        rotate_left
        · (intro W hW; go_simp; try with_reducible rfl)
        (try simp only [Act.put, List.setIfInBounds_toArray, List.set_cons_zero, List.set_cons_succ])
        refine takeMove (i := 13) rfl rfl _ (by rfl) (by kernel_rfl) (by kernel_rfl) (by kernel_rfl) (fun _ _ _ _ h => h) (by rfl) HS ?_
        (try simp only [Act.put, List.setIfInBounds_toArray, List.set_cons_zero, List.set_cons_succ])
        refine takeMove (i := 14) rfl rfl _ (by rfl) (by kernel_rfl) (by kernel_rfl) (by kernel_rfl) (fun _ _ _ _ h => h) (by rfl) HS ?_
        (try simp only [Act.put, List.setIfInBounds_toArray, List.set_cons_zero, List.set_cons_succ])
        refine takeV (i := 15) (v := ?_) rfl (by kernel_rfl) (by kernel_rfl) (by kernel_rfl) (fun _ _ _ h => h) (by rfl) ?_ HS ?_
        rotate_left
        · (intro W hW; go_simp; try with_reducible rfl)
        (try simp only [Act.put, List.setIfInBounds_toArray, List.set_cons_zero, List.set_cons_succ])
        refine takePart_st (i := 16) (p := 0) 58 _ rfl rfl rfl row_Berth (by kernel_rfl) (by rw [hz, Nat.ble_eq]; omega) _ HXX.out (by kernel_rfl) (by kernel_rfl) (by kernel_rfl) (fun _ _ _ _ h => h) (by rfl) HS ?_
        (try simp only [Act.put, List.setIfInBounds_toArray, List.set_cons_zero, List.set_cons_succ])
        refine takeRow_st (i := 17) 58 _ rfl rfl rfl row_Berth (by kernel_rfl) (by kernel_rfl) (by kernel_rfl) (by kernel_rfl) (fun _ _ _ _ h => h) (by rfl) HS ?_
        (try simp only [Act.put, List.setIfInBounds_toArray, List.set_cons_zero, List.set_cons_succ])
        refine branchH [18] (by kernel_rfl) (by kernel_rfl) (AllStep.cons ?_ AllStep.nil)
        refine stepH_do (i := 18) rfl (by rfl) ?_
        refine wp_call_st rfl Try.func20 (by kernel_rfl) (by kernel_rfl) _ ?_ ((sameBerth_st (1) (4) (0) (0) (0) es A6 Ax m c6 cx HL.out H (by omega) hc6 hcx).mono ?_)
        · rfl
        clear H
        rintro ed wy ⟨rfl, H⟩
        replace HS := HS.of H
        refine ⟨_, rfl, HS, ?_⟩
        (try simp only [Act.put, List.setIfInBounds_toArray, List.set_cons_zero, List.set_cons_succ])
        refine takeV (i := 19) (v := ?_) rfl (by kernel_rfl) (by kernel_rfl) (by kernel_rfl) (fun _ _ _ h => h) (by rfl) ?_ HS ?_
        rotate_left
        · (intro W hW; go_simp; try with_reducible rfl)
        (try simp only [Act.put, List.setIfInBounds_toArray, List.set_cons_zero, List.set_cons_succ])
        refine takeMove (i := 20) rfl rfl _ (by rfl) (by kernel_rfl) (by kernel_rfl) (by kernel_rfl) (fun _ _ _ _ h => h) (by rfl) HS ?_
        (try simp only [Act.put, List.setIfInBounds_toArray, List.set_cons_zero, List.set_cons_succ])
        refine takeMove (i := 21) rfl rfl _ (by rfl) (by kernel_rfl) (by kernel_rfl) (by kernel_rfl) (fun _ _ _ _ h => h) (by rfl) HS ?_
        (try simp only [Act.put, List.setIfInBounds_toArray, List.set_cons_zero, List.set_cons_succ])
        refine takeV (i := 22) (v := ?_) rfl (by kernel_rfl) (by kernel_rfl) (by kernel_rfl) (fun _ _ _ h => h) (by rfl) ?_ HS ?_
        rotate_left
        · (intro W hW; go_simp; try with_reducible rfl)
        (try simp only [Act.put, List.setIfInBounds_toArray, List.set_cons_zero, List.set_cons_succ])
        refine takePart_st (i := 23) (p := 18) 58 _ rfl rfl rfl row_Berth (by kernel_rfl) (by rw [hz, Nat.ble_eq]; omega) _ HYY.out (by kernel_rfl) (by kernel_rfl) (by kernel_rfl) (fun _ _ _ _ h => h) (by rfl) HS ?_
        (try simp only [Act.put, List.setIfInBounds_toArray, List.set_cons_zero, List.set_cons_succ])
        refine takeRow_st (i := 24) 58 _ rfl rfl rfl row_Berth (by kernel_rfl) (by kernel_rfl) (by kernel_rfl) (by kernel_rfl) (fun _ _ _ _ h => h) (by rfl) HS ?_
        (try simp only [Act.put, List.setIfInBounds_toArray, List.set_cons_zero, List.set_cons_succ])
        refine branchH [25] (by kernel_rfl) (by kernel_rfl) (AllStep.cons ?_ AllStep.nil)
        refine stepH_do (i := 25) rfl (by rfl) ?_
        refine wp_call_st rfl Try.func20 (by kernel_rfl) (by kernel_rfl) _ ?_ ((sameBerth_st (1) (8) (0) (0) (0) fs A7 Ay p c7 cy HL2.out H (by omega) hc7 hcy).mono ?_)
        · rfl
        clear H
        rintro ed wy ⟨rfl, H⟩
        replace HS := HS.of H
        refine ⟨_, rfl, HS, ?_⟩
        (try simp only [Act.put, List.setIfInBounds_toArray, List.set_cons_zero, List.set_cons_succ])
        refine takeV (i := 26) (v := ?_) rfl (by kernel_rfl) (by kernel_rfl) (by kernel_rfl) (fun _ _ _ h => h) (by rfl) ?_ HS ?_
        rotate_left
        · (intro W hW; go_simp; try with_reducible rfl)
        (try simp only [Act.put, List.setIfInBounds_toArray, List.set_cons_zero, List.set_cons_succ])
        refine takeAssign (i := 27) rfl rfl _ (by rfl) (by kernel_rfl) (by kernel_rfl) (by kernel_rfl) (fun _ _ _ _ h => h) (by rfl) HS ?_
        (try simp only [Act.put, List.setIfInBounds_toArray, List.set_cons_zero, List.set_cons_succ])
        refine doneH (by kernel_rfl) ?_
        go_wp2_with fail
        go_ret
        exact ⟨rfl, H.bel⟩
    · have a0 : ¬ (j : Int) = (p : Int) + 1 := by omega
      have a1 : ((j : Int) == (p : Int) + 1) = false := beq_eq_false_iff_ne.2 a0
      have a2 : (j : Int) < (p : Int) + 1 := by omega
      have a3 := decide_eq_true a2
      have ht : j < p + 1 := by omega
      clear a0 hlast
      by_cases hti : i < m + 1
      · have b1 : (i : Int) < (m : Int) + 1 := by omega
        have b2 := decide_eq_true b1
        by_cases hn : N < n3
        · have c1 : (N : Int) < (n3 : Int) := by omega
          have c2_ := decide_eq_true c1
          have n0 : (0 : Int) ≤ (N : Int) := by omega
          obtain ⟨hl3, hnc3, hcb3, hr3⟩ := HB3.out
          obtain ⟨b9, off9, rfl, hb9, hcl⟩ := hr3.plain (by omega) (by omega)
          have hz : zs[N]? = some (zs.getD N false) := by rw [List.getElem?_eq_getElem (show N < zs.length by omega)]; simp [List.getD, List.getElem?_eq_getElem (show N < zs.length by omega)]
          have qz := (H.bel.cell (p := ⟨b9, off9 + N, none⟩) hb9).trans (hcl N _ (by rw [List.getElem?_map, hz]; rfl))
          have c4 : (n3 : Int) ≤ (c3 : Int) := by omega
          clear hl3 hnc3 hcb3 hr3 hb9 hcl hz
          generalize zs.getD N false = z at *
          clear hn
          cases z
          · clear hti
            have HMX := Lib.hid hmix
            have HNN := Lib.hid hNij
            have HIJ := Lib.hid (show i ≤ m + 1 ∧ j ≤ p + 1 ∧ j < p + 1 from ⟨hi, hj, ht⟩)
            have HRD := H.get (rcIt Aq Q)
            obtain ⟨b8, off, hA8, hb8, hcell⟩ := rcAt HRD rfl (show j < Q.length by rw [HLQ.out]; exact ht)
            have HGT := Lib.hid (show Mix P Q i (j + 1) (rs ++ [Q.getD j rc0]) from .right hmix (by rw [HLQ.out]; exact ht))
            obtain ⟨r, hr⟩ : ∃ r, Q.getD j rc0 = r := ⟨_, rfl⟩
            rw [hr] at hcell HGT
            clear hr HRD hmix hNij hi hj ht
            subst hA8
            obtain ⟨k, qu, ep, pe, ⟨e0, e1, e2, e3, e4, e5⟩⟩ := r
            have q0 : wr.cell? ⟨b8, off + j * 10, none⟩ = some (.int .i64 k) := hcell 0 _ rfl
            have q1 := hcell 1 _ rfl
            have q2 := hcell 2 _ rfl
            have q3 := hcell 3 _ rfl
            have q4 := hcell 4 _ rfl
            have q5 := hcell 5 _ rfl
            have q6 := hcell 6 _ rfl
            have q7 := hcell 7 _ rfl
            have q8 := hcell 8 _ rfl
            have q9 := hcell 9 _ rfl
            clear hcell hb8
            go_wp2_with (first | ((with_reducible refine here_buildSlice ?_); refine wpList_buildSlice1_st H rfl 61 _ rfl 67 Try.underlying61 _ rfl _ rec_info2 (by rfl) (by rfl) ?_; clear H; intro gs wx H) | ((with_reducible refine here_call ?_); refine wpList_appendB_st (v := .slice A5 N c5) H rfl _ _ 61 rfl rfl rfl Try.underlying61 _ _ rec_info (by rfl) (by rfl) (by rfl) (by kernel_rfl) (by simp only [maxLen]; omega) (by omega) ?_; clear H; intro A8 c8 wx hc8 hc8' H) | (first | ((with_reducible refine here_load ?_); first | refine ldR H rfl _ _ rfl rfl (by kernel_rfl) ?_ | refine ldS H rfl _ _ rfl rfl (by rfl) ?_ | refine ldSG H (by rfl) _ _ rfl rfl (by rfl) ?_ | refine ldRG H (by rfl) _ _ rfl rfl (by kernel_rfl) ?_) | ((with_reducible refine here_store ?_); first | (refine stR H rfl _ _ _ rfl rfl rfl (by rfl) (by rfl) (by kernel_rfl) ?_; clear H; intro wx H) | (refine stS H rfl _ _ _ rfl rfl _ rfl (by rfl) (by rfl) (by rfl) ?_; clear H; intro wx H)) | ((with_reducible refine here_alloc ?_); first | (refine wpList_alloc_st H rfl 37 rfl _ q_zero ?_; clear H; intro gq6 wx H) | (refine wpList_alloc_st H rfl 48 rfl _ ans_zero ?_; clear H; intro ga6 wx H) | (refine wpList_alloc_st H rfl 44 rfl _ ev_zero ?_; clear H; intro ge6 wx H) | (refine wpList_alloc_st H rfl 58 rfl _ ber_zero ?_; clear H; intro gr6 wx H)) | ((with_reducible refine here_box ?_); refine wpList_box_st H rfl _ _ rfl _ rfl ?_; clear H; intro gb6 wx H)))
            go_roundw
            case rel => exact ⟨i, j + 1, N + 1, rs ++ [⟨k, qu, ep, pe, ⟨e0, e1, e2, e3, e4, e5⟩⟩], A8, c8, by have := HIJ.out; omega, by have := HIJ.out; omega, by have := HNN.out; omega, HGT.out, hc8, hc8', rfl, by go_num, by go_num, (by rw [← rcCells_snoc]; exact H.tail)⟩
            case measure => have := HIJ.out; simp [intOf] <;> omega

          · clear ht
            have ht := hti
            clear hti
            have HMX := Lib.hid hmix
            have HNN := Lib.hid hNij
            have HIJ := Lib.hid (show i ≤ m + 1 ∧ j ≤ p + 1 ∧ i < m + 1 from ⟨hi, hj, ht⟩)
            have HRD := H.get (rcIt Ap P)
            obtain ⟨b8, off, hA8, hb8, hcell⟩ := rcAt HRD rfl (show i < P.length by rw [HLP.out]; exact ht)
            have HGT := Lib.hid (show Mix P Q (i + 1) j (rs ++ [P.getD i rc0]) from .left hmix (by rw [HLP.out]; exact ht))
            obtain ⟨r, hr⟩ : ∃ r, P.getD i rc0 = r := ⟨_, rfl⟩
            rw [hr] at hcell HGT
            clear hr HRD hmix hNij hi hj ht
            subst hA8
            obtain ⟨k, qu, ep, pe, ⟨e0, e1, e2, e3, e4, e5⟩⟩ := r
            have q0 : wr.cell? ⟨b8, off + i * 10, none⟩ = some (.int .i64 k) := hcell 0 _ rfl
            have q1 := hcell 1 _ rfl
            have q2 := hcell 2 _ rfl
            have q3 := hcell 3 _ rfl
            have q4 := hcell 4 _ rfl
            have q5 := hcell 5 _ rfl
            have q6 := hcell 6 _ rfl
            have q7 := hcell 7 _ rfl
            have q8 := hcell 8 _ rfl
            have q9 := hcell 9 _ rfl
            clear hcell hb8
            go_wp2_with (first | ((with_reducible refine here_buildSlice ?_); refine wpList_buildSlice1_st H rfl 61 _ rfl 67 Try.underlying61 _ rfl _ rec_info2 (by rfl) (by rfl) ?_; clear H; intro gs wx H) | ((with_reducible refine here_call ?_); refine wpList_appendB_st (v := .slice A5 N c5) H rfl _ _ 61 rfl rfl rfl Try.underlying61 _ _ rec_info (by rfl) (by rfl) (by rfl) (by kernel_rfl) (by simp only [maxLen]; omega) (by omega) ?_; clear H; intro A8 c8 wx hc8 hc8' H) | (first | ((with_reducible refine here_load ?_); first | refine ldR H rfl _ _ rfl rfl (by kernel_rfl) ?_ | refine ldS H rfl _ _ rfl rfl (by rfl) ?_ | refine ldSG H (by rfl) _ _ rfl rfl (by rfl) ?_ | refine ldRG H (by rfl) _ _ rfl rfl (by kernel_rfl) ?_) | ((with_reducible refine here_store ?_); first | (refine stR H rfl _ _ _ rfl rfl rfl (by rfl) (by rfl) (by kernel_rfl) ?_; clear H; intro wx H) | (refine stS H rfl _ _ _ rfl rfl _ rfl (by rfl) (by rfl) (by rfl) ?_; clear H; intro wx H)) | ((with_reducible refine here_alloc ?_); first | (refine wpList_alloc_st H rfl 37 rfl _ q_zero ?_; clear H; intro gq6 wx H) | (refine wpList_alloc_st H rfl 48 rfl _ ans_zero ?_; clear H; intro ga6 wx H) | (refine wpList_alloc_st H rfl 44 rfl _ ev_zero ?_; clear H; intro ge6 wx H) | (refine wpList_alloc_st H rfl 58 rfl _ ber_zero ?_; clear H; intro gr6 wx H)) | ((with_reducible refine here_box ?_); refine wpList_box_st H rfl _ _ rfl _ rfl ?_; clear H; intro gb6 wx H)))
            go_roundw
            case rel => exact ⟨i + 1, j, N + 1, rs ++ [⟨k, qu, ep, pe, ⟨e0, e1, e2, e3, e4, e5⟩⟩], A8, c8, by have := HIJ.out; omega, by have := HIJ.out; omega, by have := HNN.out; omega, HGT.out, hc8, hc8', rfl, by go_num, by go_num, (by rw [← rcCells_snoc]; exact H.tail)⟩
            case measure => have := HIJ.out; simp [intOf] <;> omega

        · have c1 : ¬ (N : Int) < (n3 : Int) := by omega
          have c2_ := decide_eq_false c1
          clear hn hti
          have HMX := Lib.hid hmix
          have HNN := Lib.hid hNij
          have HIJ := Lib.hid (show i ≤ m + 1 ∧ j ≤ p + 1 ∧ j < p + 1 from ⟨hi, hj, ht⟩)
          have HRD := H.get (rcIt Aq Q)
          obtain ⟨b8, off, hA8, hb8, hcell⟩ := rcAt HRD rfl (show j < Q.length by rw [HLQ.out]; exact ht)
          have HGT := Lib.hid (show Mix P Q i (j + 1) (rs ++ [Q.getD j rc0]) from .right hmix (by rw [HLQ.out]; exact ht))
          obtain ⟨r, hr⟩ : ∃ r, Q.getD j rc0 = r := ⟨_, rfl⟩
          rw [hr] at hcell HGT
          clear hr HRD hmix hNij hi hj ht
          subst hA8
          obtain ⟨k, qu, ep, pe, ⟨e0, e1, e2, e3, e4, e5⟩⟩ := r
          have q0 : wr.cell? ⟨b8, off + j * 10, none⟩ = some (.int .i64 k) := hcell 0 _ rfl
          have q1 := hcell 1 _ rfl
          have q2 := hcell 2 _ rfl
          have q3 := hcell 3 _ rfl
          have q4 := hcell 4 _ rfl
          have q5 := hcell 5 _ rfl
          have q6 := hcell 6 _ rfl
          have q7 := hcell 7 _ rfl
          have q8 := hcell 8 _ rfl
          have q9 := hcell 9 _ rfl
          clear hcell hb8
          go_wp2_with (first | ((with_reducible refine here_buildSlice ?_); refine wpList_buildSlice1_st H rfl 61 _ rfl 67 Try.underlying61 _ rfl _ rec_info2 (by rfl) (by rfl) ?_; clear H; intro gs wx H) | ((with_reducible refine here_call ?_); refine wpList_appendB_st (v := .slice A5 N c5) H rfl _ _ 61 rfl rfl rfl Try.underlying61 _ _ rec_info (by rfl) (by rfl) (by rfl) (by kernel_rfl) (by simp only [maxLen]; omega) (by omega) ?_; clear H; intro A8 c8 wx hc8 hc8' H) | (first | ((with_reducible refine here_load ?_); first | refine ldR H rfl _ _ rfl rfl (by kernel_rfl) ?_ | refine ldS H rfl _ _ rfl rfl (by rfl) ?_ | refine ldSG H (by rfl) _ _ rfl rfl (by rfl) ?_ | refine ldRG H (by rfl) _ _ rfl rfl (by kernel_rfl) ?_) | ((with_reducible refine here_store ?_); first | (refine stR H rfl _ _ _ rfl rfl rfl (by rfl) (by rfl) (by kernel_rfl) ?_; clear H; intro wx H) | (refine stS H rfl _ _ _ rfl rfl _ rfl (by rfl) (by rfl) (by rfl) ?_; clear H; intro wx H)) | ((with_reducible refine here_alloc ?_); first | (refine wpList_alloc_st H rfl 37 rfl _ q_zero ?_; clear H; intro gq6 wx H) | (refine wpList_alloc_st H rfl 48 rfl _ ans_zero ?_; clear H; intro ga6 wx H) | (refine wpList_alloc_st H rfl 44 rfl _ ev_zero ?_; clear H; intro ge6 wx H) | (refine wpList_alloc_st H rfl 58 rfl _ ber_zero ?_; clear H; intro gr6 wx H)) | ((with_reducible refine here_box ?_); refine wpList_box_st H rfl _ _ rfl _ rfl ?_; clear H; intro gb6 wx H)))
          go_roundw
          case rel => exact ⟨i, j + 1, N + 1, rs ++ [⟨k, qu, ep, pe, ⟨e0, e1, e2, e3, e4, e5⟩⟩], A8, c8, by have := HIJ.out; omega, by have := HIJ.out; omega, by have := HNN.out; omega, HGT.out, hc8, hc8', rfl, by go_num, by go_num, (by rw [← rcCells_snoc]; exact H.tail)⟩
          case measure => have := HIJ.out; simp [intOf] <;> omega

      · have b1 : ¬ (i : Int) < (m : Int) + 1 := by omega
        have b2 := decide_eq_false b1
        clear hti
        have HMX := Lib.hid hmix
        have HNN := Lib.hid hNij
        have HIJ := Lib.hid (show i ≤ m + 1 ∧ j ≤ p + 1 ∧ j < p + 1 from ⟨hi, hj, ht⟩)
        have HRD := H.get (rcIt Aq Q)
        obtain ⟨b8, off, hA8, hb8, hcell⟩ := rcAt HRD rfl (show j < Q.length by rw [HLQ.out]; exact ht)
        have HGT := Lib.hid (show Mix P Q i (j + 1) (rs ++ [Q.getD j rc0]) from .right hmix (by rw [HLQ.out]; exact ht))
        obtain ⟨r, hr⟩ : ∃ r, Q.getD j rc0 = r := ⟨_, rfl⟩
        rw [hr] at hcell HGT
        clear hr HRD hmix hNij hi hj ht
        subst hA8
        obtain ⟨k, qu, ep, pe, ⟨e0, e1, e2, e3, e4, e5⟩⟩ := r
        have q0 : wr.cell? ⟨b8, off + j * 10, none⟩ = some (.int .i64 k) := hcell 0 _ rfl
        have q1 := hcell 1 _ rfl
        have q2 := hcell 2 _ rfl
        have q3 := hcell 3 _ rfl
        have q4 := hcell 4 _ rfl
        have q5 := hcell 5 _ rfl
        have q6 := hcell 6 _ rfl
        have q7 := hcell 7 _ rfl
        have q8 := hcell 8 _ rfl
        have q9 := hcell 9 _ rfl
        clear hcell hb8
        go_wp2_with (first | ((with_reducible refine here_buildSlice ?_); refine wpList_buildSlice1_st H rfl 61 _ rfl 67 Try.underlying61 _ rfl _ rec_info2 (by rfl) (by rfl) ?_; clear H; intro gs wx H) | ((with_reducible refine here_call ?_); refine wpList_appendB_st (v := .slice A5 N c5) H rfl _ _ 61 rfl rfl rfl Try.underlying61 _ _ rec_info (by rfl) (by rfl) (by rfl) (by kernel_rfl) (by simp only [maxLen]; omega) (by omega) ?_; clear H; intro A8 c8 wx hc8 hc8' H) | (first | ((with_reducible refine here_load ?_); first | refine ldR H rfl _ _ rfl rfl (by kernel_rfl) ?_ | refine ldS H rfl _ _ rfl rfl (by rfl) ?_ | refine ldSG H (by rfl) _ _ rfl rfl (by rfl) ?_ | refine ldRG H (by rfl) _ _ rfl rfl (by kernel_rfl) ?_) | ((with_reducible refine here_store ?_); first | (refine stR H rfl _ _ _ rfl rfl rfl (by rfl) (by rfl) (by kernel_rfl) ?_; clear H; intro wx H) | (refine stS H rfl _ _ _ rfl rfl _ rfl (by rfl) (by rfl) (by rfl) ?_; clear H; intro wx H)) | ((with_reducible refine here_alloc ?_); first | (refine wpList_alloc_st H rfl 37 rfl _ q_zero ?_; clear H; intro gq6 wx H) | (refine wpList_alloc_st H rfl 48 rfl _ ans_zero ?_; clear H; intro ga6 wx H) | (refine wpList_alloc_st H rfl 44 rfl _ ev_zero ?_; clear H; intro ge6 wx H) | (refine wpList_alloc_st H rfl 58 rfl _ ber_zero ?_; clear H; intro gr6 wx H)) | ((with_reducible refine here_box ?_); refine wpList_box_st H rfl _ _ rfl _ rfl ?_; clear H; intro gb6 wx H)))
        go_roundw
        case rel => exact ⟨i, j + 1, N + 1, rs ++ [⟨k, qu, ep, pe, ⟨e0, e1, e2, e3, e4, e5⟩⟩], A8, c8, by have := HIJ.out; omega, by have := HIJ.out; omega, by have := HNN.out; omega, HGT.out, hc8, hc8', rfl, by go_num, by go_num, (by rw [← rcCells_snoc]; exact H.tail)⟩
        case measure => have := HIJ.out; simp [intOf] <;> omega



end Go.Proofs.Ytjmncbfmjeeneaa

namespace Go.Proofs.Ytjmncbfmjeeneaa.lawRebuildMixed
open Go.ChangeShapes Go.WideShapes Go.ChangeAt Go.RowKit Go.Joins
open Go.ChangeMaps (open_string shut_string)
set_option linter.unusedVariables false

theorem own : ownKnob Try.prog.godebug = none := by kernel_rfl
theorem laidOut : laidOutB Try.prog = true := by kernel_rfl

set_option maxRecDepth 100000 in
theorem lifted (os : Os) (started : os.Started) (H : Type) (enc : TypeId × Value → H) :
    ReturnsInHanded {} Try.checked os 5 .any (Rows.rebuildMixedSpec.pre6 enc Try.prog Try.f5 Rows.rebuildMixedRow.domain false) (Rows.rebuildMixedSpec.post enc Try.prog Try.f5 false true false false) := by
  refine returnsInHanded_of_change_sized (C := Try.checked) own started (by kernel_rfl) Try.func5
    (ChangeSpec.witness6 (enc := enc) (C := Try.checked) false ⟨#[], #[.slice none 0 0, .slice none 0 0, .slice none 0 0], []⟩ 12 (by kernel_rfl) (by kernel_rfl) (by kernel_rfl) (by kernel_rfl)) ?_
  intro W base args ds gs before hval0 hW hcnd hsz0 _
  have hval : ∀ (j : Nat) t v, Try.f5.params[j]? = some t → args[j]? = some v → Value.okWide Try.prog W .any base t v := hval0
  have hsz : (DataW.weightsEach Try.prog (Try.f5.params.toList ++ Rows.rebuildMixedSpec.plain.varTypes Try.prog) (ds ++ gs)).all (· ≤ reachBytes) = true := hsz0
  have hW' := hW
  obtain ⟨p, q, hA0, hV, rfl, hfz, hnd⟩ := hW
  have hA : DataW.TrodAll enc Try.prog W 0 (fun _ => true) true Try.f5.params.toList args.toList ds p := hA0
  rw [Try.params5] at hA hval hsz
  obtain ⟨v0, vs0, d0, ds0, p0, q0, hargs, rfl, rfl, h0, r0⟩ := trodAll_cons hA
  obtain ⟨v1, vs1, d1, ds1, p1, q1, rfl, rfl, rfl, h1, r1⟩ := trodAll_cons r0
  obtain ⟨v2, vs2, d2, ds2, p2, q2, rfl, rfl, rfl, h2, r2⟩ := trodAll_cons r1
  obtain ⟨rfl, rfl, rfl⟩ := trodAll_nil r2
  obtain rfl : args = #[v0, v1, v2] := by cases args; simp_all
  obtain ⟨rfl, rfl⟩ := trodVars_none hV
  have k0 := h0
  have lt0 : ∀ x ∈ p0, x.block < W.heap.size := by obtain ⟨m, hm⟩ := k0; exact DataW.trod_lt m _ _ _ hm
  obtain ⟨A0, n0, c0, z0, rfl, b0⟩ := view_rows (ti := 3) (B := 32) Try.underlying56 Try.underlying101 (by kernel_rfl) (by kernel_rfl) (by kernel_rfl) (by intro j f h; match j, h with | 0, h => (simp at h; subst h; rfl) | 1, h => (simp at h; subst h; rfl) | 2, h => (simp at h; subst h; rfl) | 3, h => (simp at h; subst h; rfl) | j + 4, h => simp at h) Try.underlying3 (by decide) (hval 0 56 v0 rfl rfl) h0 hsz (j := 0) rfl rfl
  have k1 := h1
  have lt1 : ∀ x ∈ p1, x.block < W.heap.size := by obtain ⟨m, hm⟩ := k1; exact DataW.trod_lt m _ _ _ hm
  obtain ⟨A1, n1, c1, z1, rfl, b1⟩ := view_rows (ti := 3) (B := 32) Try.underlying56 Try.underlying101 (by kernel_rfl) (by kernel_rfl) (by kernel_rfl) (by intro j f h; match j, h with | 0, h => (simp at h; subst h; rfl) | 1, h => (simp at h; subst h; rfl) | 2, h => (simp at h; subst h; rfl) | 3, h => (simp at h; subst h; rfl) | j + 4, h => simp at h) Try.underlying3 (by decide) (hval 1 56 v1 rfl rfl) h1 hsz (j := 1) rfl rfl
  have k2 := h2
  have lt2 : ∀ x ∈ p2, x.block < W.heap.size := by obtain ⟨m, hm⟩ := k2; exact DataW.trod_lt m _ _ _ hm
  obtain ⟨A2, n2, c2, z2, rfl, b2⟩ := view_bools (B := 1) Try.underlying70 Try.underlying4 (by kernel_rfl) (by kernel_rfl) (hval 2 70 v2 rfl rfl) h2 hsz (j := 2) rfl rfl
  clear hA0 hval0 hsz0
  refine (rebuildMixed_walk A0 n0 c0 z0 A1 n1 c1 z1 A2 n2 c2 z2 W b0 b1 b2).mono fun e W' ⟨he, bel⟩ => ?_
  subst he
  exact ⟨_, rfl, _, _, _, [], _, [], hW', trodAll_mk1 (shut_bool Try.underlying4 _), (trodAll_cons_mk (Below.trod laidOut (by kernel_rfl) (of_decide_eq_true (by kernel_rfl)) k0 bel lt0) (trodAll_cons_mk (Below.trod laidOut (by kernel_rfl) (of_decide_eq_true (by kernel_rfl)) k1 bel lt1) (trodAll_cons_mk (Below.trod laidOut (by kernel_rfl) (of_decide_eq_true (by kernel_rfl)) k2 bel lt2) trodAll_mk0))), rfl, bel.frame _, fun h => by cases h⟩

theorem over : Rows.rebuildMixedRow.holds Try.pinned (OpenSpec.ofChange Rows.rebuildMixedSpec) :=
  OpenClaim.holds_of_wide 5 Try.f5 rfl rfl rfl rfl rfl rfl rfl ⟨rfl, rfl, rfl, rfl, rfl⟩ rfl rfl rfl rfl rfl (by kernel_rfl) Try.func5 (by kernel_rfl)
    (of_decide_eq_true (by kernel_rfl)) (by unfold Func.isWrapper; first | (rw [if_pos (by decide +kernel)]; kernel_rfl) | (rw [if_neg (by decide +kernel)]; exact ⟨rfl, rfl⟩))
    (fun os started H enc _ => lifted os started H enc)

theorem proved : Rows.RebuildMixedSaid := over
#print axioms proved
end Go.Proofs.Ytjmncbfmjeeneaa.lawRebuildMixed
