/- Plans: 'loads', 'behind', 'busy'. -/
import Derived.Test.YtcbpgmpbjcknbaaPlanBal
import Derived.Deep.RegionHeld3
import Derived.Deep.RegionLaw
namespace Go.Proofs.Ytcbpgmpbjcknbaa
open Go.RowKit

/-- the cells of burdens that came in -/
theorem ldCells_snoc (q n k : Nat → Int) (L : Nat) : ldCells q n k (L + 1) = ldCells q n k L ++ [.int .i64 (q L), .int .i64 (n L), .int .i64 (k L)] := by
  simp [ldCells, rowCells, List.range_succ]
def LoadsPost (w : World) (q n k : Nat → Int) (L : Nat) (e : Ending) (w' : World) : Prop :=
  ∃ v, e = .returned v ∧ w'.ownsRow w.heap.size 37 3 v L (ldCells q n k L) ∧ Below w.heap.size w w'
theorem row2p {w : World} {B n k : Nat} {A : Option Addr} {rows : List (List Int)} (hl : rows.length = n) (hs : ∀ r ∈ rows, r.length = 2 ∧ ∀ z ∈ r, (Lit.int .i64 z).wf = true) (h : Reads w B 2 A n (rowCells rows)) (hk : k < n) :
    ∃ b off, A = some ⟨b, off, none⟩ ∧ b < B ∧ (∀ j, j < 2 → w.cell? ⟨b, off + k * 2 + j, none⟩ = some (.int .i64 ((rows.getD k []).getD j 0))) ∧ ∀ j, Is64 ((rows.getD k []).getD j 0) := by
  obtain ⟨b, off, rfl, hb, hc⟩ := h.plain (by omega) (by omega)
  have hr : rows[k]? = some (rows.getD k []) := by rw [List.getElem?_eq_getElem (show k < rows.length by omega)]; simp [List.getD, List.getElem?_eq_getElem (show k < rows.length by omega)]
  have hmem : rows.getD k [] ∈ rows := List.mem_of_getElem? hr
  obtain ⟨h4, hz⟩ := hs _ hmem
  refine ⟨b, off, rfl, hb, fun j hj => ?_, fun j => ?_⟩
  · rw [Nat.add_assoc]
    refine hc _ _ ?_
    rw [rowCells_at 2 rows (fun r hr => (hs r hr).1) k j _ hr hj]
    generalize rows.getD k [] = row at *
    rw [List.getElem?_eq_getElem (show j < row.length by omega)]
    simp [List.getD, List.getElem?_eq_getElem (show j < row.length by omega)]
  · generalize rows.getD k [] = row at *
    by_cases hj : j < 2
    · refine is64_of_wf (hz _ ?_)
      rw [List.getD, List.getElem?_eq_getElem (show j < row.length by omega)]
      simp
    · rw [List.getD, List.getElem?_eq_none (by omega)]
      simp [Is64]

/-- loads of raw numbers -/
def qOf : Nat → Int := fun i => i
def nOf (rows : List (List Int)) (N : Nat) : Nat → Int := fun i => pick ((rows.getD i []).getD 0 0) N
def kOf (rows : List (List Int)) : Nat → Int := fun i => pick ((rows.getD i []).getD 1 0) 100

set_option maxRecDepth 100000 in
set_option maxHeartbeats 4000000 in
theorem loads_ok (A : Option Addr) (n c B N : Nat) (rows : List (List Int)) (w : World) (hl : rows.length = n) (hs : ∀ r ∈ rows, r.length = 2 ∧ ∀ z ∈ r, (Lit.int .i64 z).wf = true) (hr : Reads w B 2 A n (rowCells rows)) (hB : B ≤ w.heap.size) (hN1 : 1 ≤ N) (hN5 : N ≤ 5) :
    Calls Try.prog 10 #[.slice A n c, .int .i64 N] w (LoadsPost w qOf (nOf rows N) (kOf rows) (min n 4)) := by
  obtain ⟨i0, hi0, hz0, hz1, hz2⟩ := info_parts ld_info
  have HP := Lib.hid (show ∀ v w' L, L = min n 4 → w'.ownsRow w.heap.size 37 3 v L (ldCells qOf (nOf rows N) (kOf rows) L) → Below w.heap.size w w' → LoadsPost w qOf (nOf rows N) (kOf rows) (min n 4) (.returned v) w' from fun v w' L e a b => ⟨v, rfl, e ▸ a, b⟩)
  generalize LoadsPost w qOf (nOf rows N) (kOf rows) (min n 4) = POST at *
  have SN := Lib.hid (fun L => ldCells_snoc qOf (nOf rows N) (kOf rows) L)
  have HNO := Lib.hid (show ∀ i, nOf rows N i = pick ((rows.getD i []).getD 0 0) N from fun _ => rfl)
  have HKO := Lib.hid (show ∀ i, kOf rows i = pick ((rows.getD i []).getD 1 0) 100 from fun _ => rfl)
  have HQO := Lib.hid (show ∀ i : Nat, qOf i = (i : Int) from fun _ => rfl)
  have HS := Lib.hid hs
  have HL := Lib.hid hl
  clear hs hl
  go_enter Try.func10, Try.ntmps10
  go_wp2_with fail
  go_loopw [5, 6] (fun s5 s6 wr => ∃ i : Nat, i ≤ n ∧ i ≤ 4 ∧ s6 = .int .i64 i ∧ wr.ownsRow w.heap.size 37 3 s5 i (ldCells qOf (nOf rows N) (kOf rows) i) ∧ Below w.heap.size w wr) (fun _ s6 _ => 4 - (intOf s6).toNat)
  case atStart => exact ⟨0, Nat.zero_le _, by omega, rfl, World.ownsRow_nil _ _ _ _, Below.refl _ _⟩
  case round =>
    obtain ⟨i, hi, hi4, rfl, O, bel⟩ := hrel
    by_cases hlt : i < n ∧ i < 4
    · obtain ⟨hin, hi5⟩ := hlt
      obtain ⟨b, off, hA, hb, g1, l1⟩ := row2p HL.out HS.out (hr.below (bel.mono hB)) hin
      subst hA
      have y0 : wr.cell? ⟨b, off + i * 2, none⟩ = _ := g1 0 (by omega)
      have y1 : wr.cell? ⟨b, off + i * 2 + 1, none⟩ = _ := g1 1 (by omega)
      obtain ⟨l10, l11⟩ := l1 0
      obtain ⟨l12, l13⟩ := l1 1
      have P0 := Lib.hid (fun W => picked_any ((rows.getD i []).getD 0 0) N W l10 l11 (by omega) (by omega))
      have P1 := Lib.hid (fun W => picked_any ((rows.getD i []).getD 1 0) 100 W l12 l13 (by omega) (by omega))
      have SN' := SN.out i
      rw [HQO.out i, HNO.out i, HKO.out i] at SN'
      have SN2 := Lib.hid SN'
      clear SN' HQO HNO HKO SN g1 l1 l10 l11 l12 l13 hr HS HL
      generalize (rows.getD i []).getD 0 0 = r0 at *
      generalize (rows.getD i []).getD 1 0 = r1 at *
      generalize pick r0 N = z0 at *
      generalize pick r1 100 = z1 at *
      have hs1 := bel.size
      have hbw : b < wr.heap.size := by omega
      have hI : (i : Int) < (n : Int) := by omega
      have hI2 : (i : Int) < 4 := by omega
      have i2 : IntKind.i64.wrap ((i : Int) + 1) = (i : Int) + 1 := IntWalk.i64_in _ (by omega)
      have OD : wr.drew.ownsRow w.heap.size 37 3 u5 i (ldCells qOf (nOf rows N) (kOf rows) i) := O
      have o7 := OD.alloc (.cells #[.int .i64 i, .int .i64 z0, .int .i64 z1] 37)
      have rR := reads_oneP wr.drew 37 #[.int .i64 i, .int .i64 z0, .int .i64 z1] 3 rfl
      have beld := bel.drew.alloc (show w.heap.size ≤ wr.drew.heap.size from hs1) (.cells #[.int .i64 i, .int .i64 z0, .int .i64 z1] 37)
      go_upto_region 5 with fail
      go_region_law (first
        | (refine step_append_any _ rfl (.tmp 17) (.tmp 33) _ rfl w.heap.size 37 i0 _ 3 24 Try.underlying24 hi0 hz0 hz1 hz2 rfl (by omega) _ i (ldCells qOf (nOf rows N) (kOf rows) i) rfl o7 _ _ 1 1 _ rfl rR (by intro u hu; simp at hu; rcases hu with h | h | h <;> subst h <;> rfl) (by simp only [maxLen]; omega) (by omega) (by simp; omega) ?_; intro v8 w8 o8 g8 at8; have bel8 := beld.grown g8 (by simp; omega) (own_block_geP o7))
        | (go_simp; go_at_call 9; with_reducible refine (P0.out _).mono ?_; rintro e w' ⟨rfl, rfl⟩; dsimp only)
        | (go_simp; go_at_call 9; with_reducible refine (P1.out _).mono ?_; rintro e w' ⟨rfl, rfl⟩; dsimp only))
      all_goals
        go_wp2_with fail
        go_roundw
        case rel => exact ⟨i + 1, by omega, by omega, by go_num, by rw [SN2.out]; exact o8, bel8⟩
        case measure => simp [intOf]; omega
    · have hE : i = min n 4 := by omega
      have hI : ¬ (i : Int) < (n : Int) ∨ (i : Int) < (n : Int) ∧ ¬ (i : Int) < 4 := by omega
      have HP' := Lib.hid (HP.out _ wr i hE O bel)
      clear HP hE hlt
      rcases hI with hI | ⟨hI, hI4⟩
      · go_wp2_with fail
        exact HP'.out
      · go_wp2_with fail
        exact HP'.out

end Go.Proofs.Ytcbpgmpbjcknbaa
