/- slices.SortFunc at messages, by the shelf's contract: laid in plain words (the laid tables are of this seat's numbers). And more of what the proof stands on. -/
import Derived.Shelf.SlSortCmp.NoneTotal
import Derived.Shelf.SlicesG.Cmp
import Derived.Shelf.Small.Bits
import Derived.Ground.SlsfProg
import Derived.Ground.SlgcProg
import Derived.Ground.NamesProg
import Derived.BigQuiet
import Derived.Deep.RegionHeld3
import Derived.Deep.Cut
import Derived.Deep.DeepCutAuto
import Derived.Deep.QuietTactic
import Derived.Test.YtjmncbfmjeeneaaRB3

namespace Go.Proofs.Ytjmncbfmjeeneaa
open Go.Shelf Go.RowKit Go.Lib Go.Sort
def sortMsg_ren : Go.Shelf.Ren := ⟨fun | 6 => 56 | 15 => 66 | 14 => 65 | 28 => 85 | 29 => 86 | 20 => 77 | 21 => 78 | 22 => 79 | 23 => 80 | 24 => 81 | 25 => 82 | 26 => 83 | 27 => 84 | 46 => 90 | 47 => 91 | 48 => 92 | 49 => 93 | 50 => 94 | 57 => 95 | n => n, fun | 22 => 30 | 24 => 87 | 25 => 124 | 3 => 3 | 39 => 133 | 0 => 0 | 53 => 150 | 55 => 152 | 4 => 4 | 46 => 143 | 45 => 142 | 50 => 147 | 5 => 5 | 9 => 9 | 66 => 153 | 70 => 157 | 76 => 159 | 77 => 160 | n => n, fun | n => n⟩
theorem sortMsg : Go.Proofs.SlLaysF0.n6 Try.prog sortMsg_ren := {
  mixed := by kernel_rfl
  f6 := ⟨Try.f56.name, by decide, Try.func56.trans (congrArg some (by kernel_rfl))⟩
  f14 := ⟨Try.f65.name, by decide, Try.func65.trans (congrArg some (by kernel_rfl))⟩
  f15 := Try.func66.trans (congrArg some (by kernel_rfl))
  f20 := ⟨Try.f77.name, by decide, Try.func77.trans (congrArg some (by kernel_rfl))⟩
  f21 := ⟨Try.f78.name, by decide, Try.func78.trans (congrArg some (by kernel_rfl))⟩
  f22 := ⟨Try.f79.name, by decide, Try.func79.trans (congrArg some (by kernel_rfl))⟩
  f23 := ⟨Try.f80.name, by decide, Try.func80.trans (congrArg some (by kernel_rfl))⟩
  f24 := ⟨Try.f81.name, by decide, Try.func81.trans (congrArg some (by kernel_rfl))⟩
  f25 := ⟨Try.f82.name, by decide, Try.func82.trans (congrArg some (by kernel_rfl))⟩
  f26 := ⟨Try.f83.name, by decide, Try.func83.trans (congrArg some (by kernel_rfl))⟩
  f27 := ⟨Try.f84.name, by decide, Try.func84.trans (congrArg some (by kernel_rfl))⟩
  f28 := Try.func85.trans (congrArg some (by kernel_rfl))
  f29 := Try.func86.trans (congrArg some (by kernel_rfl))
  f46 := ⟨Try.f90.name, by decide, Try.func90.trans (congrArg some (by kernel_rfl))⟩
  f47 := Try.func91.trans (congrArg some (by kernel_rfl))
  f48 := Try.func92.trans (congrArg some (by kernel_rfl))
  f49 := ⟨Try.f93.name, by decide, Try.func93.trans (congrArg some (by kernel_rfl))⟩
  f50 := ⟨Try.f94.name, by decide, Try.func94.trans (congrArg some (by kernel_rfl))⟩
  f57 := ⟨Try.f95.name, by decide, Try.func95.trans (congrArg some (by kernel_rfl))⟩
  t0 := Try.underlying0
  a0 := Try.isAgg0
  z0 := Try.sizeOf0
  v0 := Try.zeroValue0
  t3 := Try.underlying3
  a3 := Try.isAgg3
  z3 := Try.sizeOf3
  v3 := Try.zeroValue3
  t4 := Try.underlying4
  a4 := Try.isAgg4
  z4 := Try.sizeOf4
  v4 := Try.zeroValue4
  t5 := Try.underlying5
  a5 := Try.isAgg5
  z5 := Try.sizeOf5
  v5 := Try.zeroValue5
  t9 := Try.underlying9
  a9 := Try.isAgg9
  z9 := Try.sizeOf9
  v9 := Try.zeroValue9
  t22 := Try.underlying30
  a22 := Try.isAgg30
  z22 := Try.sizeOf30
  v22 := Try.zeroValue30
  t25 := Try.underlying124
  a25 := Try.isAgg124
  z25 := Try.sizeOf124
  v25 := Try.zeroValue124
  t39 := Try.underlying133
  a39 := Try.isAgg133
  z39 := Try.sizeOf133
  v39 := Try.zeroValue133
  t45 := Try.underlying142
  a45 := Try.isAgg142
  z45 := Try.sizeOf142
  v45 := Try.zeroValue142
  t46 := Try.underlying143
  a46 := Try.isAgg143
  z46 := Try.sizeOf143
  v46 := Try.zeroValue143
  t50 := Try.underlying147
  a50 := Try.isAgg147
  z50 := Try.sizeOf147
  v50 := Try.zeroValue147
  t53 := Try.underlying150
  a53 := Try.isAgg150
  z53 := Try.sizeOf150
  v53 := Try.zeroValue150
  t55 := Try.underlying152
  a55 := Try.isAgg152
  z55 := Try.sizeOf152
  v55 := Try.zeroValue152
  t66 := Try.underlying153
  a66 := Try.isAgg153
  z66 := Try.sizeOf153
  v66 := Try.zeroValue153
  t70 := Try.underlying157
  a70 := Try.isAgg157
  z70 := Try.sizeOf157
  v70 := Try.zeroValue157
  t76 := Try.underlying159
  a76 := Try.isAgg159
  z76 := Try.sizeOf159
  v76 := Try.zeroValue159
  t77 := Try.underlying160
  a77 := Try.isAgg160
  z77 := Try.sizeOf160
  v77 := Try.zeroValue160 }
def cmpInt_ren : Go.Shelf.Ren := ⟨fun | 5 => 67 | 7 => 87 | n => n, fun | 22 => 3 | 3 => 3 | 4 => 4 | n => n, fun | n => n⟩
theorem cmpInt : Go.Proofs.SlLaysC2.n5 Try.prog cmpInt_ren := {
  mixed := by kernel_rfl
  f5 := ⟨Try.f67.name, by decide, Try.func67.trans (congrArg some (by kernel_rfl))⟩
  f7 := ⟨Try.f87.name, by decide, Try.func87.trans (congrArg some (by kernel_rfl))⟩
  t3 := Try.underlying3
  a3 := Try.isAgg3
  z3 := Try.sizeOf3
  v3 := Try.zeroValue3
  t4 := Try.underlying4
  a4 := Try.isAgg4
  z4 := Try.sizeOf4
  v4 := Try.zeroValue4
  t22 := Try.underlying3
  a22 := Try.isAgg3
  z22 := Try.sizeOf3
  v22 := Try.zeroValue3 }

def encMsg (x : Int × Int) : List Value := [.int .i64 x.1, .int .i64 x.2]
def cfMsg (x y : Int × Int) : Int := Lib.compareInt x.1 y.1
theorem ltMsg (x y : Int × Int) : ltOf cfMsg x y = decide (x.1 < y.1) := by
  unfold ltOf cfMsg Lib.compareInt
  by_cases h1 : x.1 < y.1
  · simp [h1]
  · by_cases h2 : y.1 < x.1 <;> simp [h1, h2]
theorem swoMsg : SWO (ltOf cfMsg) := {
  irrefl := fun x => by rw [ltMsg]; simp
  trans := fun x y z h1 h2 => by rw [ltMsg] at *; simp at *; omega
  ntrans := fun x y z h1 h2 => by rw [ltMsg] at *; simp at *; omega }

set_option maxHeartbeats 1000000 in
theorem byNo_any (x y : Int × Int) (W : World) : Calls Try.prog 57 #[.agg #[.int .i64 x.1, .int .i64 x.2], .agg #[.int .i64 y.1, .int .i64 y.2]] W fun e w' => e = .returned (.int .i64 (cfMsg x y)) ∧ ∃ q os', w' = grow (W.drewN q) os' := by
  have hcon := fun W' => AnyG.cmp_Compare_int cmpInt x.1 y.1 W'
  change ∀ W', Calls Try.prog 67 _ _ _ at hcon
  unfold cfMsg
  generalize Lib.compareInt x.1 y.1 = r at hcon ⊢
  go_enter Try.func57, Try.ntmps57
  go_wp2_with (go_at_call 67; refine (hcon _).mono ?_; rintro e w' ⟨rfl, rfl⟩)
  go_ret
  exact ⟨rfl, 0, _, by rw [alloc_eq_grow, alloc_eq_grow, grow_grow]; rfl⟩
theorem byNo_lays (blk off size : Nat) (w : World) : CmpLays Try.prog 57 #[] encMsg 2 cfMsg blk off size w := fun _ _ _ _ x y => byNo_any x y _

theorem fst_inj : ∀ (l : List (Int × Int)), (l.map Prod.fst).Nodup → ∀ a ∈ l, ∀ b ∈ l, a.1 = b.1 → a = b
  | [], _, _, h, _, _, _ => by cases h
  | x :: l, hn, a, ha, b, hb, e => by
    rw [List.map_cons, List.nodup_cons] at hn
    rcases List.mem_cons.1 ha with h1 | h1
    · rcases List.mem_cons.1 hb with h2 | h2
      · rw [h1, h2]
      · exact absurd (List.mem_map.2 ⟨b, h2, by rw [← e, h1]⟩) hn.1
    · rcases List.mem_cons.1 hb with h2 | h2
      · exact absurd (List.mem_map.2 ⟨a, h1, by rw [e, h2]⟩) hn.1
      · exact fst_inj l hn.2 a h1 b h2 e
theorem sorted_is (rd : List (Int × Int)) (d' : Array (Int × Int)) (hn : (rd.map Prod.fst).Nodup) (hp : PermIn 0 rd.toArray.size rd.toArray d') (hs : SortedIn (ltOf cfMsg) 0 rd.toArray.size d') : d'.toList = rd.mergeSort byNo := by
  obtain ⟨hsz, _, hperm⟩ := hp
  have e1 : d'.extract 0 rd.toArray.size = d' := by rw [← hsz]; exact Array.extract_size
  rw [e1, Array.extract_size] at hperm
  have hp2 : d'.toList.Perm rd := by simpa using hperm
  refine List.Perm.eq_of_pairwise (le := fun x y => byNo x y = true) ?_ ?_ ?_ (hp2.trans (List.mergeSort_perm _ _).symm)
  · intro a b ha hb h1 h2
    refine fst_inj rd hn a (hp2.mem_iff.1 ha) b ((List.mergeSort_perm _ _).mem_iff.1 hb) ?_
    simp [byNo] at h1 h2
    omega
  · refine List.pairwise_iff_getElem.2 fun i j hi hj hij => ?_
    have hi' : i < d'.size := by simpa using hi
    have hj' : j < d'.size := by simpa using hj
    have := hs i j (Nat.zero_le _) hij (by rw [← hsz]; exact hj')
    rw [ltMsg, getElem!_pos d' i hi', getElem!_pos d' j hj'] at this
    simp [byNo] at this ⊢
    exact this
  · exact List.pairwise_mergeSort (fun a b c h1 h2 => by simp [byNo] at *; omega) (fun a b => by simp [byNo]; omega) rd

theorem flat_msgs (l : List (Int × Int)) (j : Nat) (u : Value) (h : (msgCells l)[j]? = some u) : j < l.length * 2 ∧ (flatK encMsg 2 l.toArray)[j]! = u := by
  have hlen : (msgCells l).length = l.length * 2 := by
    have := rowCells_len 2 (l.map fun m => [m.1, m.2]) (fun r hr => by obtain ⟨x, _, rfl⟩ := List.mem_map.1 hr; rfl)
    simpa [msgCells] using this
  have hj : j < l.length * 2 := by
    rcases Nat.lt_or_ge j (l.length * 2) with h' | h'
    · exact h'
    · rw [List.getElem?_eq_none (by omega)] at h; cases h
  refine ⟨hj, ?_⟩
  rw [get_flatK _ _ _ _ (by simpa using hj)]
  have hi : j / 2 < l.length := by omega
  have hj2 : j = j / 2 * 2 + j % 2 := by omega
  rw [hj2] at h
  have hr : (l.map fun m => [m.1, m.2])[j / 2]? = some [l[j / 2].1, l[j / 2].2] := by simp [hi]
  rw [msgCells, rowCells_at 2 _ (fun r hr => by obtain ⟨x, _, rfl⟩ := List.mem_map.1 hr; rfl) (j / 2) (j % 2) _ hr (by omega)] at h
  rw [getElem!_pos l.toArray (j / 2) (by simpa using hi)]
  have : j % 2 = 0 ∨ j % 2 = 1 := by omega
  rcases this with e | e
  · rw [e] at h ⊢
    simpa [encMsg] using h
  · rw [e] at h ⊢
    simpa [encMsg] using h

def SortPost (w : World) (base : Nat) (v : Value) (rd : List (Int × Int)) (e : Ending) (w' : World) : Prop :=
  e = .returned (.tuple #[]) ∧ ∃ A c row, v = .slice A rd.length c ∧ rd.length ≤ c ∧ w.grownBy w' row ∧ (∀ k, row = some k → v.ownBlock = some k) ∧ Reads w' w'.heap.size 2 A rd.length (msgCells (rd.mergeSort byNo)) ∧ Fresh base A

theorem sort_grown {α : Type} [Inhabited α] (enc : α → List Value) (k : Nat) (w : World) (g n : Nat) (d : Array α) (os : Array Obj) : w.grownBy (sortWorldK enc k w g 0 n d os) (some g) := by
  refine ⟨rfl, rfl, rfl, by simp [sortWorldK, putRowK, Sort.ahead], fun j hj hne => ?_⟩
  unfold sortWorldK
  rw [heap_grow_old _ _ (by simpa [putRowK, Sort.ahead] using hj)]
  have : g ≠ j := fun e => hne (by rw [e])
  simp [putRowK, putRow, mapBlock, Sort.ahead, Array.getElem?_modify, this]

theorem sort_msgs (rd : List (Int × Int)) (v : Value) (n base : Nat) (w : World) (o : w.ownsRow base 87 2 v n (msgCells rd)) (hn : rd.length = n) (hd : (rd.map Prod.fst).Nodup) (hlen : n ≤ 500) :
    Calls Try.prog 56 #[v, .func (.func 57) #[] #[]] w (SortPost w base v rd) := by
  obtain ⟨A, c, rfl, hc, _⟩ := own_shape o
  have hF := own_fresh o
  subst hn
  by_cases h0 : rd.length = 0
  · have hrd : rd = [] := List.length_eq_zero_iff.1 h0
    subst hrd
    have hcon := AnyF.slices_SortFunc_none sortMsg A c (.func (.func 57) #[] #[]) w
    change Calls Try.prog 56 _ _ _ at hcon
    refine hcon.mono fun e w' ⟨he, hw⟩ => ?_
    subst hw
    exact ⟨he, A, c, none, rfl, hc, ⟨rfl, rfl, rfl, Nat.le_refl _, fun _ _ _ => rfl⟩, (fun _ h => by cases h), by rw [show ([] : List (Int × Int)).mergeSort byNo = [] by simp]; exact Reads.of_own o, hF⟩
  · rcases o.2 with ⟨_, h⟩ | ⟨g, cap, cur, hv, hbase, hheap, _, hcap, hsz, htake⟩
    · exact absurd h h0
    cases hv
    have hblk : g < w.heap.size := (Array.getElem?_eq_some_iff.1 hheap).1
    have hB : Blk w g 87 cur := hheap
    have hH : HoldsK encMsg 2 w g 0 rd.toArray := fun j hj => by
      have hj' : j < rd.length * 2 := by simpa using hj
      have hm : (msgCells rd)[j]? = some ((msgCells rd)[j]'(by rw [o.1]; exact hj')) := List.getElem?_eq_getElem _
      have hfl := (flat_msgs rd j _ hm).2
      refine ⟨?_, hB.frozen _⟩
      rw [Nat.zero_add, o.cellAt j hj', hfl]
      simp [hm]
    have eg : ∀ args w, (callFunc 57 args).run Try.prog w = .ok (.enter 57 args) w := enters_of Try.func57 (by kernel_rfl) rfl
    have hcon := AnyQ.slices_SortFunc sortMsg 2 Try.isAgg87 Try.sizeOf87 encMsg (fun _ => rfl) (fun x v hv => by simp [encMsg] at hv; rcases hv with rfl | rfl <;> rfl) cfMsg swoMsg 57 #[] g 0 c rd.toArray w eg (byNo_lays g 0 _ w) hH hblk (by simp; omega)
    change Calls Try.prog 56 _ _ _ at hcon
    have hcon' : Calls Try.prog 56 #[.slice (some ⟨g, 0, none⟩) rd.length c, .func (.func 57) #[] #[]] w _ := hcon
    refine hcon'.mono fun e w' ⟨he, d', k, os, hp, hs, hw⟩ => ?_
    subst hw
    have hd' := sorted_is rd d' hd hp hs
    have hd2 : d' = (rd.mergeSort byNo).toArray := by rw [← hd']
    subst hd2
    have hl : (rd.mergeSort byNo).length = rd.length := by simp
    have hgr := sort_grown encMsg 2 w g k (rd.mergeSort byNo).toArray os
    have hK : HoldsK encMsg 2 (sortWorldK encMsg 2 w g 0 k (rd.mergeSort byNo).toArray os) g 0 (rd.mergeSort byNo).toArray := holdsK_sortWorldK_c encMsg 2 w g 0 rd.toArray _ k os hH hblk (by simp)
    refine ⟨he, some ⟨g, 0, none⟩, c, some g, rfl, hc, hgr, (fun j hj => by cases hj; rfl), ⟨?_, fun hpos => ⟨⟨g, 0, none⟩, rfl, ?_, fun j u hu => ?_⟩⟩, hF⟩
    · have := rowCells_len 2 ((rd.mergeSort byNo).map fun m => [m.1, m.2]) (fun r hr => by obtain ⟨x, _, rfl⟩ := List.mem_map.1 hr; rfl)
      simpa [msgCells] using this
    · exact Nat.lt_of_lt_of_le hblk hgr.size
    · obtain ⟨h1, h2⟩ := flat_msgs _ j u hu
      have := (hK j (by simpa using h1)).1
      rw [h2] at this
      have hadd : (⟨g, 0, none⟩ : Addr).add j = ⟨g, 0 + j, none⟩ := by unfold Addr.add; split <;> simp_all
      rw [hadd]
      exact this

end Go.Proofs.Ytjmncbfmjeeneaa

namespace Go.Proofs.Ytjmncbfmjeeneaa
open Go.RowKit

set_option maxHeartbeats 400000 in
theorem aclosure_ok (ep i x y id : Int) (gb : Nat) (w : World) (h4 : w.cell? ⟨gb, 4, none⟩ = some (.int .i64 ep)) (h5 : w.cell? ⟨gb, 5, none⟩ = some (.int .i64 id)) :
    Calls Try.prog 54 #[.agg #[.int .i64 ep, .int .i64 i, .int .i64 x, .int .i64 y], .pointer (some ⟨gb, 0, none⟩)] w (Puts w (.bool (i == id))) := by
  have hb := lt_of_cell h4
  have hb2 : gb < w.heap.size := hb
  have hbel := (Below.refl w.heap.size w).alloc (Nat.le_refl _) (.cells #[.int .i64 ep, .int .i64 i, .int .i64 x, .int .i64 y] 90)
  have he := handle_eql
  go_enter Try.func54, Try.ntmps54
  go_wp2
  go_ret
  exact ⟨by simp, hbel⟩

/-- the place of an id -/
def IdAtL (ws : List (Int × Int × Int)) (id r : Int) : Prop := (∃ k : Nat, k < ws.length ∧ r = k ∧ (ws.getD k (0, 0, 0)).1 = id ∧ ∀ t, t < k → (ws.getD t (0, 0, 0)).1 ≠ id) ∨ (r = -1 ∧ ∀ t, t < ws.length → (ws.getD t (0, 0, 0)).1 ≠ id)

set_option maxHeartbeats 1000000 in
theorem index_ls (ep : Int) (A : Option Addr) (n c B : Nat) (ws : List (Int × Int × Int)) (id r : Int) (gb : Nat) (w : World) (hl : ws.length = n) (hn : n ≤ 500) (hr : Reads w B 4 A n (lsCells ep ws)) (hB : B ≤ w.heap.size) (h : w.cell? ⟨gb, 4, none⟩ = some (.int .i64 ep)) (h5 : w.cell? ⟨gb, 5, none⟩ = some (.int .i64 id)) (hid : IdAtL ws id r) :
    Calls Try.prog 53 #[.slice A n c, .func (.func 54) #[] #[.pointer (some ⟨gb, 0, none⟩)]] w (Puts w (.int .i64 r)) := by
  have hgb : gb < w.heap.size := lt_of_cell h
  have HID := Lib.hid hid
  have HL := Lib.hid hl
  clear hid hl
  go_enter Try.func53, Try.ntmps53
  go_wp2_with fail
  go_loopw [8] (fun s8 wr => ∃ k : Nat, k ≤ n ∧ s8 = .int .i64 k ∧ (∀ t, t < k → (ws.getD t (0, 0, 0)).1 ≠ id) ∧ Below w.heap.size w wr) (fun s8 _ => n - (intOf s8).toNat)
  case atStart => exact ⟨0, Nat.zero_le _, rfl, fun t ht => absurd ht (by omega), Below.refl _ _⟩
  case round =>
    obtain ⟨k, hk, rfl, hno, bel⟩ := hrel
    have HNO := Lib.hid hno
    clear hno
    by_cases hlt : k < n
    · obtain ⟨b, off, rfl, hb, y0, y1, y2, y3⟩ := lsAt (hr.below (bel.mono hB)) HL.out hlt
      have hcell := (bel.cell (p := ⟨gb, 4, none⟩) hgb).trans h
      have hcell5 := (bel.cell (p := ⟨gb, 5, none⟩) hgb).trans h5
      have CL := Lib.hid (fun W hc hc5 => aclosure_ok ep (ws.getD k (0, 0, 0)).1 (ws.getD k (0, 0, 0)).2.1 (ws.getD k (0, 0, 0)).2.2 id gb W hc hc5)
      have HK := Lib.hid (show ∀ i, (ws.getD k (0, 0, 0)).1 = i → i ≠ id → ∀ t, t < k + 1 → (ws.getD t (0, 0, 0)).1 ≠ id from fun i hi hne t ht => by
        rcases Nat.lt_or_ge t k with h' | h'
        · exact HNO.out t h'
        · obtain rfl : t = k := by omega
          rw [hi]; exact hne)
      have HF := Lib.hid (show (ws.getD k (0, 0, 0)).1 = id → r = (k : Int) from fun hi => by
        rcases HID.out with ⟨k', h1, h2, h3, h4⟩ | ⟨h1, h2⟩
        · rcases Nat.lt_trichotomy k k' with hh | hh | hh
          · exact absurd hi (h4 k hh)
          · rw [h2, hh]
          · exact absurd h3 (HNO.out k' hh)
        · exact absurd hi (h2 k (by rw [HL.out]; exact hlt)))
      have HKI : ∀ i, (ws.getD k (0, 0, 0)).1 = i → Hid (∀ j, i = j → True) := fun _ _ => Lib.hid (fun _ _ => trivial)
      obtain ⟨i, hi⟩ : ∃ i, (ws.getD k (0, 0, 0)).1 = i := ⟨_, rfl⟩
      have HK2 := Lib.hid (HK.out i hi)
      rw [hi] at y1 CL HF
      generalize (ws.getD k (0, 0, 0)).2.1 = b1 at *
      generalize (ws.getD k (0, 0, 0)).2.2 = b2' at *
      clear hi HK HKI hr
      have hI : (k : Int) < (n : Int) := by omega
      have i1 : IntKind.i64.wrap ((k : Int) + 1) = (k : Int) + 1 := IntWalk.i64_in _ (by omega)
      have zb : b < wr.heap.size := by have := bel.size; omega
      go_wp2_with fail
      refine (CL.out _ hcell hcell5).mono ?_
      rintro e w2 ⟨rfl, b2⟩
      have bel2 := bel.trans (b2.mono bel.size)
      clear CL hcell hcell5 y0 y1 y2 y3 bel b2 zb
      by_cases heq : i = id
      · have hb1 : (i == id) = true := by rw [beq_iff_eq]; exact heq
        have HRK := Lib.hid (HF.out heq)
        rw [hb1]
        clear hb1 heq HF HID
        go_wp2_with fail
        go_ret
        exact ⟨by rw [HRK.out]; rfl, bel2⟩
      · have hb1 : (i == id) = false := by rw [beq_eq_false_iff_ne]; exact heq
        rw [hb1]
        have hk3 := Lib.hid (HK2.out heq)
        clear hb1 heq HF HK2
        go_wp2_with fail
        go_roundw
        case rel => exact ⟨k + 1, by omega, by go_num, hk3.out, bel2⟩
        case measure => simp [intOf]; omega
    · obtain rfl : k = n := by omega
      have hrm : r = -1 := by
        rcases HID.out with ⟨k', h1, h2, h3, h4⟩ | ⟨h1, h2⟩
        · exact absurd h3 (HNO.out k' (by rw [← HL.out]; exact h1))
        · exact h1
      have HRM := Lib.hid hrm
      clear hrm hr
      go_wp2_with fail
      go_ret
      exact ⟨by rw [HRM.out]; rfl, bel⟩

theorem Blk.setCells {t : TypeId} {g : Nat} : ∀ (vs : List Value) (o : Nat) (w : World) (cs : Array Value), Blk w g t cs → o + vs.length ≤ cs.size → ∃ cs', Blk (w.setCells g o vs) g t cs' ∧ cs'.toList = cs.toList.take o ++ vs ++ cs.toList.drop (o + vs.length) ∧ cs'.size = cs.size
  | [], o, w, cs, h, hl => ⟨cs, h, by simp, rfl⟩
  | v :: vs, o, w, cs, h, hl => by
    simp only [List.length_cons] at hl
    obtain ⟨cs', h1, h2, h3⟩ := Blk.setCells vs (o + 1) (w.setCell ⟨g, o, none⟩ v) (cs.setIfInBounds o v) (h.set_ o v) (by simp; omega)
    refine ⟨cs', h1, ?_, by simpa using h3⟩
    rw [h2, Array.toList_setIfInBounds]
    have hlen : o < cs.toList.length := by simp; omega
    have e1 : (cs.toList.set o v).take (o + 1) = cs.toList.take o ++ [v] := by
      have hto : (cs.toList.take o).length = o := by rw [List.length_take]; omega
      rw [List.set_eq_take_append_cons_drop, if_pos hlen, List.take_append, List.take_of_length_le (by omega), hto, show o + 1 - o = 1 by omega]
      rfl
    have e2 : (cs.toList.set o v).drop (o + 1 + vs.length) = cs.toList.drop (o + (vs.length + 1)) := by
      rw [List.drop_set_of_lt (by omega)]
      congr 1
      omega
    rw [e1, e2]
    simp [List.append_assoc]

theorem run_clear_struct {P : Program} (w : World) (t e ty : TypeId) (z : Value) (zs : List Value) (ht : P.underlying t = some (.slice e)) (hv : ∀ w, (zeroValue e).run P w = .ok z w) (hzc : (Builtin.zeroCells z.cells 1).toList = zs) (h1 : ∀ v ∈ zs, v.oneCell' = true) (b o c : Nat)
    (hc : ∀ j, j < zs.length → (w.cell? ⟨b, o + j, none⟩).isSome = true) (hf : ∀ j, j < zs.length → w.frozen? ⟨b, o + j, none⟩ = false) :
    (Builtin.clear_ #[t] ty #[.slice (some ⟨b, o, none⟩) 1 c]).run P w = .ok (.tuple #[]) (w.setCells b o zs) := by
  have hst := run_storeCells_cells (P := P) b o zs 0 w (by simpa using hc) (by simpa using hf) h1
  simp only [Nat.add_zero] at hst
  simp [Builtin.clear_, run_underlying ht, hv, hzc, hst]

theorem Blk.some_ {w : World} {g : Nat} {t : TypeId} {cs : Array Value} (h : Blk w g t cs) (i : Nat) (hi : i < cs.size) : (w.cell? ⟨g, i, none⟩).isSome = true := by
  rw [h.cell i, Array.getElem?_eq_getElem hi]; rfl

theorem below_setCells' {B b : Nat} {a : World} (hb : B ≤ b) : ∀ (vs : List Value) (o : Nat) (w : World), Below B a w → Below B a (w.setCells b o vs)
  | [], _, _, h => h
  | v :: vs, o, w, h => below_setCells' hb vs (o + 1) (w.setCell ⟨b, o, none⟩ v) (h.setCell hb v)

theorem grown_setCells' {b : Nat} {a : World} : ∀ (vs : List Value) (o : Nat) (w : World), a.grownBy w (some b) → a.grownBy (w.setCells b o vs) (some b)
  | [], _, _, h => h
  | v :: vs, o, w, h => grown_setCells' vs (o + 1) (w.setCell ⟨b, o, none⟩ v) ⟨h.os, h.tape, h.output, by simp [World.setCell]; exact h.size, fun i hi hne => (Below.heap_setCell _ _ _ _ (fun e => hne (by rw [e]))).trans (h.block i hi hne)⟩

def zeros4 : List Value := [.int .i64 0, .int .i64 0, .int .i64 0, .int .i64 0]
theorem ls_zero (w : World) : (zeroValue 90).run Try.prog w = .ok (.agg #[.int .i64 0, .int .i64 0, .int .i64 0, .int .i64 0]) w := by kernel_rfl

/-- one is taken out, in place -/
def DelPostL (w : World) (base g cap n : Nat) (xs : List Value) (e : Ending) (w' : World) : Prop :=
  e = .returned (.slice (some ⟨g, 0, none⟩) n cap) ∧ w'.ownsRow base 90 4 (.slice (some ⟨g, 0, none⟩) n cap) n xs ∧ Below g w w' ∧ w.grownBy w' (some g)

set_option maxRecDepth 100000 in
set_option maxHeartbeats 4000000 in
theorem delete_ls (base g cap n k : Nat) (xs : List Value) (w : World) (h : w.ownsRow base 90 4 (.slice (some ⟨g, 0, none⟩) n cap) n xs) (hx : ∀ u ∈ xs, u.oneCell' = true) (hk : k < n) (hn : n ≤ 500) :
    Calls Try.prog 55 #[.slice (some ⟨g, 0, none⟩) n cap, .int .i64 k, .int .i64 ((k : Int) + 1)] w (DelPostL w base g cap (n - 1) (xs.take (k * 4) ++ xs.drop ((k + 1) * 4))) := by
  obtain ⟨i0, hi0, hz0, hz1, hz2⟩ := info_parts ls_info
  obtain ⟨hxl, ⟨h1, _⟩ | ⟨g', cap', cur, hv, hbase, hh, hnc, hm, hcs, htk⟩⟩ := h
  · cases h1
  injection hv with e1 e2 e3
  injection e1 with e1
  injection e1 with e1
  subst e1 e3
  have hB : Blk w g 90 cur := hh
  have hBd : Blk w.drew g 90 cur := hB
  obtain ⟨news, hnews⟩ : ∃ news, xs.drop ((k + 1) * 4) = news := ⟨_, rfl⟩
  have hnl : news.length = (n - (k + 1)) * 4 := by rw [← hnews, List.length_drop, hxl]; omega
  have hcl : cur.toList.length = cap * 4 := by simp [hcs]
  have hsrc : Hid (∀ j u, news[j]? = some u → w.drew.cell? ((⟨g, (k + 1) * 4, none⟩ : Addr).add j) = some u) := by
    intro j u hu
    have e : (⟨g, (k + 1) * 4, none⟩ : Addr).add j = ⟨g, (k + 1) * 4 + j, none⟩ := by
      unfold Addr.add
      by_cases h : j = 0 <;> simp [h]
    rw [e, hBd.cell]
    rw [← hnews, List.getElem?_drop, ← htk, List.getElem?_take] at hu
    split at hu
    · simpa using hu
    · cases hu
  have s1 : Hid (news.length = (n - (k + 1)) * 4) := hnl
  have s2 : Hid (∀ u ∈ news, u.oneCell' = true) := fun u hu => hx u (List.mem_of_mem_drop (by rw [hnews]; exact hu))
  have s3 : Hid (∀ j, j < news.length → (w.drew.cell? ⟨g, 0 + k * 4 + j, none⟩).isSome = true ∧ w.drew.frozen? ⟨g, 0 + k * 4 + j, none⟩ = false) := fun j hj => ⟨hBd.some_ _ (by rw [hcs]; omega), hBd.frozen _⟩
  obtain ⟨cur1, hB1, ht1, hs1⟩ := Blk.setCells news (0 + k * 4) w.drew cur hBd (by rw [hnl, hcs]; omega)
  obtain ⟨W1, hW1⟩ : ∃ W1, w.drew.setCells g (0 + k * 4) news = W1 := ⟨_, rfl⟩
  have HW1 := Lib.hid hW1
  rw [hW1] at hB1
  obtain ⟨cur2, hB2, ht2, hs2⟩ := Blk.setCells zeros4 ((n - 1) * 4) W1 cur1 hB1 (by rw [hs1, hcs]; simp [zeros4]; omega)
  have hcl2 : ∀ ty, (Builtin.clear_ #[31] ty #[.slice (some ⟨g, (n - 1) * 4, none⟩) 1 (cap - (n - 1))]).run Try.prog W1 = .ok (.tuple #[]) (W1.setCells g ((n - 1) * 4) zeros4) := fun ty =>
    run_clear_struct W1 _ 90 ty _ zeros4 Try.underlying31 ls_zero (by kernel_rfl) (by intro v hv; simp [zeros4] at hv; subst hv; rfl) g ((n - 1) * 4) _ (fun j hj => hB1.some_ _ (by rw [hs1, hcs]; simp [zeros4] at hj; omega)) (fun j _ => hB1.frozen _)
  have FIN : DelPostL w base g cap (n - 1) (xs.take (k * 4) ++ news) (.returned (.slice (some ⟨g, 0, none⟩) (n - 1) cap)) (W1.setCells g ((n - 1) * 4) zeros4) := by
    refine ⟨rfl, ⟨by rw [List.length_append, List.length_take, hxl, hnl]; omega, .inr ⟨g, cap, cur2, rfl, hbase, hB2, by omega, hm, by rw [hs2, hs1, hcs], ?_⟩⟩, ?_, ?_⟩
    · rw [ht2, ht1, List.append_assoc, List.take_append_of_le_length (by simp; omega), List.take_take, Nat.min_self, Nat.zero_add]
      have e4 : cur.toList.take (k * 4) = xs.take (k * 4) := by rw [← htk, List.take_take, Nat.min_eq_left (by omega)]
      rw [e4]
      exact List.take_left' (by rw [List.length_append, List.length_take, hxl, hnl]; omega)
    · rw [← hW1]
      exact below_setCells' (Nat.le_refl _) _ _ _ (below_setCells' (Nat.le_refl _) _ _ _ (Below.refl _ _).drew)
    · rw [← hW1]
      exact grown_setCells' _ _ _ (grown_setCells' _ _ _ ⟨rfl, rfl, rfl, Nat.le_refl _, fun _ _ _ => rfl⟩)
  have FH := Lib.hid FIN
  rw [hnews]
  generalize DelPostL w base g cap (n - 1) (xs.take (k * 4) ++ news) = POST at *
  clear FIN hB hBd hB1 hB2 ht1 ht2 hs1 hs2 hcs htk hh hnews hnl hcl hW1 hx hxl
  have hkI : (k : Int) < (n : Int) := by omega
  have hkI2 : (k : Int) + 1 ≤ (n : Int) := by omega
  have hcI : (n : Int) ≤ (cap : Int) := by omega
  have i1 : IntKind.i64.wrap ((k : Int) + 1) = (k : Int) + 1 := IntWalk.i64_in _ (by omega)
  have hkn : k + (n - (k + 1)) = n - 1 := by omega
  have hn1 : n - (n - 1) = 1 := by omega
  have hkc : (k : Int) ≤ (cap : Int) := by omega
  have hkc1 : (k : Int) ≤ (k : Int) + 1 := by omega
  have hkc2 : (k : Int) + 1 ≤ (cap : Int) := by omega
  have hkN : k ≤ cap := by omega
  have hk0 : (0 : Int) ≤ (k : Int) + 1 := by omega
  have hkN1 : k + 1 ≤ n := by omega
  by_cases hck : cap = k + 1
  · subst hck
    obtain rfl : n = k + 1 := by omega
    have hsrc0 : Hid (∀ j u, news[j]? = some u → w.drew.cell? ((⟨g, 0, none⟩ : Addr).add j) = some u) := by
      intro j u hu
      have h0 : news.length = 0 := by rw [s1.out]; omega
      rw [List.length_eq_zero_iff.1 h0] at hu
      simp at hu
    have s0 : Hid (news.length = 0 * 4) := by rw [Nat.zero_mul]; have := s1.out; rw [Nat.sub_self, Nat.zero_mul] at this; exact this
    simp only [Nat.add_sub_cancel, Nat.add_sub_cancel_left] at hcl2 FH
    clear hkn hn1
    go_enter Try.func55, Try.ntmps55
    go_wp2_with fail
    go_region_law (refine step_append_room rfl (.tmp 22) (.tmp 25) 31 rfl 90 i0 4 Try.underlying31 hi0 hz1 g 0 k (k + 1) (by simp [Act.eval, Act.put]) ⟨g, 0, none⟩ 0 0 news (by simp [Act.eval, Act.put]) s0.out hsrc0.out s2.out (by omega) s3.out ?_; rw [HW1.out])
    all_goals
      go_wp2_with fail
      exact FH.out
  · have hck2 : ¬ cap ≤ k + 1 := by omega
    go_enter Try.func55, Try.ntmps55
    go_wp2_with fail
    go_region_law (refine step_append_room rfl (.tmp 22) (.tmp 25) 31 rfl 90 i0 4 Try.underlying31 hi0 hz1 g 0 k cap (by simp [Act.eval, Act.put]) ⟨g, (k + 1) * 4, none⟩ (n - (k + 1)) (cap - (k + 1)) news (by simp [Act.eval, Act.put]) s1.out hsrc.out s2.out (by omega) s3.out ?_; rw [HW1.out])
    all_goals
      go_wp2_with fail
      exact FH.out

end Go.Proofs.Ytjmncbfmjeeneaa

namespace Go.Proofs.Ytjmncbfmjeeneaa
open Go.RowKit

theorem lsCells_del (ep : Int) (ls : List (Int × Int × Int)) (k : Nat) (hk : k < ls.length) : lsCells ep (ls.take k ++ ls.drop (k + 1)) = (lsCells ep ls).take (k * 4) ++ (lsCells ep ls).drop ((k + 1) * 4) := by
  have e1 : ∀ a b : List (Int × Int × Int), lsCells ep (a ++ b) = lsCells ep a ++ lsCells ep b := fun a b => by unfold lsCells; rw [List.map_append]; simp [rowCells]
  have el : ∀ a : List (Int × Int × Int), (lsCells ep a).length = a.length * 4 := fun a => by
    have := rowCells_len 4 (a.map fun l => [ep, l.1, l.2.1, l.2.2]) (fun r hr => by obtain ⟨x, _, rfl⟩ := List.mem_map.1 hr; rfl)
    unfold lsCells
    simpa using this
  have h1 : (lsCells ep ls).take (k * 4) = lsCells ep (ls.take k) := by
    have h2 : (lsCells ep (ls.take k)).length = k * 4 := by rw [el, List.length_take]; congr 1; omega
    conv => lhs; rw [← List.take_append_drop k ls, e1, ← h2]
    rw [List.take_left]
  have h3 : (lsCells ep ls).drop ((k + 1) * 4) = lsCells ep (ls.drop (k + 1)) := by
    have h2 : (lsCells ep (ls.take (k + 1))).length = (k + 1) * 4 := by rw [el, List.length_take]; congr 1; omega
    conv => lhs; rw [← List.take_append_drop (k + 1) ls, e1, ← h2]
    rw [List.drop_left]
  rw [e1, h1, h3]
theorem rowCells_oneQ (rs : List (List Int)) : ∀ u ∈ rowCells rs, u.oneCell' = true := by
  intro u hu
  simp only [rowCells, List.mem_flatMap, List.mem_map] at hu
  obtain ⟨r, _, z, _, rfl⟩ := hu
  rfl

set_option maxRecDepth 100000 in
set_option maxHeartbeats 4000000 in
theorem ack_ok (ep nx gv : Int) (rd : List (Int × Int)) (ls : List (Int × Int × Int)) (t : Nat → Int) (f : Nat → Nat → Bool) (g n m k : Nat) (v1 v2 : Value) (e0 e1 e2 e3 id : Int) (w : World)
    (E : Blk w g 84 (qCells ep nx gv v1 v2 t f)) (hn : rd.length = n) (hm : ls.length = m)
    (o1 : w.ownsRow (g + 1) 87 2 v1 n (msgCells rd)) (o2 : w.ownsRow (g + 1) 90 4 v2 m (lsCells ep ls)) (hlen : n + m ≤ 500) (hk : k < m) (hid : (ls.getD k (0, 0, 0)).1 = id) (hno : ∀ t, t < k → (ls.getD t (0, 0, 0)).1 ≠ id) :
    Calls Try.prog 31 #[.pointer (some ⟨g, 0, none⟩), .agg #[.int .i64 e0, .int .i64 e1, .int .i64 e2, .int .i64 e3, .int .i64 ep, .int .i64 id]] w (ActPost g w (ansV 0 0 0 0) true ep nx gv rd (ls.take k ++ ls.drop (k + 1)) t f) := by
  obtain ⟨A1, c1, rfl, hc1, _⟩ := own_shape o1
  obtain ⟨gr, c2, rfl, hc2, hc2m, hgr, hgrl⟩ := own_head o2 (by omega)
  have hgl := E.lt
  have E0 := (E.alloc (.cells #[.int .i64 e0, .int .i64 e1, .int .i64 e2, .int .i64 e3, .int .i64 ep, .int .i64 id] 44)).alloc (.cells #[.int .i64 0, .int .i64 0, .int .i64 0, .int .i64 0] 48)
  have o1' := (o1.alloc (.cells #[.int .i64 e0, .int .i64 e1, .int .i64 e2, .int .i64 e3, .int .i64 ep, .int .i64 id] 44)).alloc (.cells #[.int .i64 0, .int .i64 0, .int .i64 0, .int .i64 0] 48)
  have o2' := (o2.alloc (.cells #[.int .i64 e0, .int .i64 e1, .int .i64 e2, .int .i64 e3, .int .i64 ep, .int .i64 id] 44)).alloc (.cells #[.int .i64 0, .int .i64 0, .int .i64 0, .int .i64 0] 48)
  have D0 := (Blk.new w 44 #[.int .i64 e0, .int .i64 e1, .int .i64 e2, .int .i64 e3, .int .i64 ep, .int .i64 id]).alloc (.cells #[.int .i64 0, .int .i64 0, .int .i64 0, .int .i64 0] 48)
  have F0 := Blk.new' (w := w.alloc (.cells #[.int .i64 e0, .int .i64 e1, .int .i64 e2, .int .i64 e3, .int .i64 ep, .int .i64 id] 44)) (g := w.heap.size + 1) (t := 48) (cs := #[.int .i64 0, .int .i64 0, .int .i64 0, .int .i64 0]) (by simp)
  have bel0 := ((Below.refl g w).alloc (Nat.le_of_lt hgl) (.cells #[.int .i64 e0, .int .i64 e1, .int .i64 e2, .int .i64 e3, .int .i64 ep, .int .i64 id] 44)).alloc (by simp; omega) (.cells #[.int .i64 0, .int .i64 0, .int .i64 0, .int .i64 0] 48)
  have HP := Lib.hid (show ∀ w', DeskIs w' g ep nx gv rd (ls.take k ++ ls.drop (k + 1)) t f → Below g w w' → ActPost g w (ansV 0 0 0 0) true ep nx gv rd (ls.take k ++ ls.drop (k + 1)) t f (.returned (.tuple #[ansV 0 0 0 0, .bool true])) w' from fun w' a b => ⟨rfl, a, b⟩)
  generalize ActPost g w (ansV 0 0 0 0) true ep nx gv rd (ls.take k ++ ls.drop (k + 1)) t f = POST at *
  clear o1 o2 E
  go_enter Try.func31, Try.ntmps31
  go_upto_region 1 with fail
  obtain ⟨ga, hga⟩ : ∃ ga, ga = w.heap.size + 1 := ⟨_, rfl⟩
  obtain ⟨ge, hge⟩ : ∃ ge, ge = w.heap.size := ⟨_, rfl⟩
  have hgga : g < ga := by omega
  have hgge : g < ge := by omega
  have hgea : ge < ga := by omega
  have hgrge : gr < ge := by omega
  rw [← hga] at F0 ⊢
  rw [← hge] at D0 ⊢
  generalize (w.alloc (.cells #[.int .i64 e0, .int .i64 e1, .int .i64 e2, .int .i64 e3, .int .i64 ep, .int .i64 id] 44)).alloc (.cells #[.int .i64 0, .int .i64 0, .int .i64 0, .int .i64 0] 48) = w0 at *
  clear hga hge hgrl
  obtain ⟨x0, x1, x2, x3, x4⟩ := qBlk E0
  have hgz := E0.lt
  have d4 := D0.cell 4
  have d5 := D0.cell 5
  have hdz := D0.lt
  go_quiet (fail)
  have E1 : Blk (w0.drewN nq) g 84 _ := E0.drewN nq
  have D1 : Blk (w0.drewN nq) ge 44 _ := D0.drewN nq
  have F1 : Blk (w0.drewN nq) ga 48 _ := F0.drewN nq
  have o11 : (w0.drewN nq).ownsRow (g + 1) 87 2 _ n _ := o1'
  have o21 : (w0.drewN nq).ownsRow (g + 1) 90 4 _ m _ := o2'
  have bel1 := below_drewN bel0 nq
  generalize w0.drewN nq = w1 at *
  clear x0 x1 x2 x3 x4 hgz d4 d5 hdz E0 D0 F0 o1' o2' bel0
  obtain ⟨x0, x1, x2, x3, x4⟩ := qBlk E1
  go_wp2_with fail
  refine (index_ls ep (some ⟨gr, 0, none⟩) m c2 w1.heap.size ls id k ge w1 hm (by omega) (Reads.of_own o21) (Nat.le_refl _) (D1.cell 4) (D1.cell 5) (.inl ⟨k, by omega, rfl, hid, hno⟩)).mono ?_
  rintro e w2 ⟨rfl, b2⟩
  have E2 := E1.below b2 E1.lt
  have F2 := F1.below b2 F1.lt
  have o12 := own_below o11 b2 (Nat.le_refl _)
  have o22 := own_below o21 b2 (Nat.le_refl _)
  have bel2 := bel1.trans (b2.mono (Nat.le_of_lt E1.lt))
  clear x0 x1 x2 x3 x4 E1 D1 F1 o11 o21 bel1 b2
  obtain ⟨x0, x1, x2, x3, x4⟩ := qBlk E2
  have hk0 : ¬ (k : Int) < 0 := by omega
  have i1 : IntKind.i64.wrap ((k : Int) + 1) = (k : Int) + 1 := IntWalk.i64_in _ (by omega)
  go_wp2_with fail
  refine (delete_ls (g + 1) gr c2 m k (lsCells ep ls) w2 o22 (rowCells_oneQ _) hk (by omega)).mono ?_
  rintro e w3 ⟨rfl, o23, b3, g3⟩
  rw [← lsCells_del ep ls k (by omega)] at o23
  have n1 := own_blk_ne o22 E2 (by decide)
  have n2 := own_blk_ne o22 F2 (by decide)
  have E3 := E2.grown g3 (fun h => n1 h.symm)
  have F3 := F2.grown g3 (fun h => n2 h.symm)
  obtain ⟨cur, K22, _, _, _⟩ := own_row_blk o22
  have o13 := o12.kept g3 (.inr (own_blk_ne o12 K22 (by decide)))
  clear K22
  have bel3 := bel2.grown g3 (Nat.le_of_lt E2.lt) (fun j hj => by cases hj; omega)
  clear x0 x1 x2 x3 x4 E2 F2 o12 o22 bel2 b3 g3 n1 n2
  obtain ⟨x0, x1, x2, x3, x4⟩ := qBlk E3
  have hgf := E3.frozen
  have hgz := E3.lt
  have f0 := F3.cell 0
  have f1 := F3.cell 1
  have f2 := F3.cell 2
  have f3 := F3.cell 3
  have ff := F3.frozen
  have fz := F3.lt
  have nga : ¬ ga = g := by omega
  have nga' : ¬ g = ga := by omega
  have m1 := own_blk_ne o13 E3 (by decide)
  have m2 := own_blk_ne o13 F3 (by decide)
  have m3 := own_blk_ne o23 E3 (by decide)
  have m4 := own_blk_ne o23 F3 (by decide)
  have E4 := E3.set_ 4 (.slice (some ⟨gr, 0, none⟩) (m - 1) c2)
  rw [qset4] at E4
  have EF := ((((E4.far (p := ⟨ga, 0, none⟩) nga' (.int .i64 0)).far (p := ⟨ga, 1, none⟩) nga' (.int .i64 0)).far (p := ⟨ga, 2, none⟩) nga' (.int .i64 0)).far (p := ⟨ga, 3, none⟩) nga' (.int .i64 0))
  have p1 := (ownsRow_setCell_other (a := ⟨ga, 3, none⟩) (ownsRow_setCell_other (a := ⟨ga, 2, none⟩) (ownsRow_setCell_other (a := ⟨ga, 1, none⟩) (ownsRow_setCell_other (a := ⟨ga, 0, none⟩) (ownsRow_setCell_other (a := ⟨g, 4, none⟩) o13 m1 (.slice (some ⟨gr, 0, none⟩) (m - 1) c2)) m2 (.int .i64 0)) m2 (.int .i64 0)) m2 (.int .i64 0)) m2 (.int .i64 0))
  have p2 := (ownsRow_setCell_other (a := ⟨ga, 3, none⟩) (ownsRow_setCell_other (a := ⟨ga, 2, none⟩) (ownsRow_setCell_other (a := ⟨ga, 1, none⟩) (ownsRow_setCell_other (a := ⟨ga, 0, none⟩) (ownsRow_setCell_other (a := ⟨g, 4, none⟩) o23 m3 (.slice (some ⟨gr, 0, none⟩) (m - 1) c2)) m4 (.int .i64 0)) m4 (.int .i64 0)) m4 (.int .i64 0)) m4 (.int .i64 0))
  have bF := (((((bel3.setCell (p := ⟨g, 4, none⟩) (Nat.le_refl _) (.slice (some ⟨gr, 0, none⟩) (m - 1) c2)).setCell (p := ⟨ga, 0, none⟩) (Nat.le_of_lt hgga) (.int .i64 0)).setCell (p := ⟨ga, 1, none⟩) (Nat.le_of_lt hgga) (.int .i64 0)).setCell (p := ⟨ga, 2, none⟩) (Nat.le_of_lt hgga) (.int .i64 0)).setCell (p := ⟨ga, 3, none⟩) (Nat.le_of_lt hgga) (.int .i64 0))
  have e1' : (ls.take k ++ ls.drop (k + 1)).length = m - 1 := by rw [List.length_append, List.length_take, List.length_drop]; omega
  have hfin := Lib.hid (HP.out _ ⟨A1, c1, some ⟨gr, 0, none⟩, c2, by rw [hn, e1']; exact ⟨EF, hc1, by omega, Reads.of_own p1, Reads.of_own p2, own_fresh p1, own_fresh p2⟩⟩ bF)
  clear E4 EF p1 p2 bF e1' m1 m2 m3 m4 o13 o23 bel3 HP E3 F3
  go_wp2_with fail
  exact bodyPost_ret (v := .tuple #[.agg #[.int .i64 0, .int .i64 0, .int .i64 0, .int .i64 0], .bool true]) (by simp [results, Try.results31, go_sem, *]) rfl hfin.out

end Go.Proofs.Ytjmncbfmjeeneaa

namespace Go.Proofs.Ytjmncbfmjeeneaa
open Go.RowKit

theorem desk_same {w : World} {g n m c1 c2 : Nat} {A1 A2 : Option Addr} {ep nx gv : Int} {rd : List (Int × Int)} {ls : List (Int × Int × Int)} {t : Nat → Int} {f : Nat → Nat → Bool} (hn : rd.length = n) (hm : ls.length = m)
    (E : Blk w g 84 (qCells ep nx gv (.slice A1 n c1) (.slice A2 m c2) t f)) (h1 : n ≤ c1) (h2 : m ≤ c2) (o1 : w.ownsRow (g + 1) 87 2 (.slice A1 n c1) n (msgCells rd)) (o2 : w.ownsRow (g + 1) 90 4 (.slice A2 m c2) m (lsCells ep ls)) : DeskIs w g ep nx gv rd ls t f :=
  ⟨A1, c1, A2, c2, by rw [hn, hm]; exact ⟨E, h1, h2, Reads.of_own o1, Reads.of_own o2, own_fresh o1, own_fresh o2⟩⟩
/-- four stores into another block -/
def put4 (w : World) (ga : Nat) (a b c d : Int) : World := (((w.setCell ⟨ga, 0, none⟩ (.int .i64 a)).setCell ⟨ga, 1, none⟩ (.int .i64 b)).setCell ⟨ga, 2, none⟩ (.int .i64 c)).setCell ⟨ga, 3, none⟩ (.int .i64 d)
theorem put4_blk {w : World} {ga g : Nat} {ty : TypeId} {cs : Array Value} (h : Blk w g ty cs) (hg : g ≠ ga) (a b c d : Int) : Blk (put4 w ga a b c d) g ty cs :=
  (((h.far (p := ⟨ga, 0, none⟩) hg _).far (p := ⟨ga, 1, none⟩) hg _).far (p := ⟨ga, 2, none⟩) hg _).far (p := ⟨ga, 3, none⟩) hg _
theorem put4_own {w : World} {base size n ga : Nat} {e : TypeId} {u : Value} {xs : List Value} (h : w.ownsRow base e size u n xs) (hg : u.ownBlock ≠ some ga) (a b c d : Int) : (put4 w ga a b c d).ownsRow base e size u n xs :=
  ownsRow_setCell_other (a := ⟨ga, 3, none⟩) (ownsRow_setCell_other (a := ⟨ga, 2, none⟩) (ownsRow_setCell_other (a := ⟨ga, 1, none⟩) (ownsRow_setCell_other (a := ⟨ga, 0, none⟩) h hg _) hg _) hg _) hg _
theorem put4_below {w a : World} {B ga : Nat} (h : Below B a w) (hg : B ≤ ga) (x b c d : Int) : Below B a (put4 w ga x b c d) :=
  (((h.setCell (p := ⟨ga, 0, none⟩) hg _).setCell (p := ⟨ga, 1, none⟩) hg _).setCell (p := ⟨ga, 2, none⟩) hg _).setCell (p := ⟨ga, 3, none⟩) hg _
/-- the end of an act that changes nothing -/
theorem same_end {w w' : World} {g ga n m c1 c2 : Nat} {A1 A2 : Option Addr} {ep nx gv : Int} {rd : List (Int × Int)} {ls : List (Int × Int × Int)} {t : Nat → Int} {f : Nat → Nat → Bool} (hn : rd.length = n) (hm : ls.length = m) (hgga : g < ga)
    (E : Blk w' g 84 (qCells ep nx gv (.slice A1 n c1) (.slice A2 m c2) t f)) (F : Blk w' ga 48 #[.int .i64 0, .int .i64 0, .int .i64 0, .int .i64 0]) (h1 : n ≤ c1) (h2 : m ≤ c2) (o1 : w'.ownsRow (g + 1) 87 2 (.slice A1 n c1) n (msgCells rd)) (o2 : w'.ownsRow (g + 1) 90 4 (.slice A2 m c2) m (lsCells ep ls))
    (bel : Below g w w') (c : Int) : DeskIs (put4 w' ga c 0 0 0) g ep nx gv rd ls t f ∧ Below g w (put4 w' ga c 0 0 0) :=
  ⟨desk_same hn hm (put4_blk E (by omega) _ _ _ _) h1 h2 (put4_own o1 (own_blk_ne o1 F (by decide)) _ _ _ _) (put4_own o2 (own_blk_ne o2 F (by decide)) _ _ _ _), put4_below bel (by omega) _ _ _ _⟩

set_option maxRecDepth 100000 in
set_option maxHeartbeats 3000000 in
theorem publish_not (ep nx gv : Int) (rd : List (Int × Int)) (ls : List (Int × Int × Int)) (t : Nat → Int) (f : Nat → Nat → Bool) (g n m p : Nat) (v1 v2 : Value) (id body T c : Int) (q : Nat → Bool) (w : World)
    (E : Blk w g 84 (qCells ep nx gv v1 v2 t f)) (hn : rd.length = n) (hm : ls.length = m) (hp : p < 4)
    (o1 : w.ownsRow (g + 1) 87 2 v1 n (msgCells rd)) (o2 : w.ownsRow (g + 1) 90 4 v2 m (lsCells ep ls))
    (CT' : ∀ W, Calls Try.prog 52 #[.agg (winCells (t p) (f p)), .int .i64 id] W (Puts3 W (.agg (winCells T q)) (.bool false) (.int .i64 c))) (hc : c = 0 ∨ c = 9) :
    Calls Try.prog 29 #[.pointer (some ⟨g, 0, none⟩), .agg #[.int .i64 1, .int .i64 p, .int .i64 id, .int .i64 body, .int .i64 0, .int .i64 0]] w (ActPost g w (ansV c 0 0 0) false ep nx gv rd ls t f) := by
  obtain ⟨A1, c1, rfl, hc1, _⟩ := own_shape o1
  obtain ⟨A2, c2, rfl, hc2, _⟩ := own_shape o2
  unfold winCells at CT'
  have CT := Lib.hid CT'
  clear CT'
  have hgl := E.lt
  have E0 := (E.alloc (.cells #[.int .i64 1, .int .i64 p, .int .i64 id, .int .i64 body, .int .i64 0, .int .i64 0] 44)).alloc (.cells #[.int .i64 0, .int .i64 0, .int .i64 0, .int .i64 0] 48)
  have o1' := (o1.alloc (.cells #[.int .i64 1, .int .i64 p, .int .i64 id, .int .i64 body, .int .i64 0, .int .i64 0] 44)).alloc (.cells #[.int .i64 0, .int .i64 0, .int .i64 0, .int .i64 0] 48)
  have o2' := (o2.alloc (.cells #[.int .i64 1, .int .i64 p, .int .i64 id, .int .i64 body, .int .i64 0, .int .i64 0] 44)).alloc (.cells #[.int .i64 0, .int .i64 0, .int .i64 0, .int .i64 0] 48)
  have D0 := (Blk.new w 44 #[.int .i64 1, .int .i64 p, .int .i64 id, .int .i64 body, .int .i64 0, .int .i64 0]).alloc (.cells #[.int .i64 0, .int .i64 0, .int .i64 0, .int .i64 0] 48)
  have F0 := Blk.new' (w := w.alloc (.cells #[.int .i64 1, .int .i64 p, .int .i64 id, .int .i64 body, .int .i64 0, .int .i64 0] 44)) (g := w.heap.size + 1) (t := 48) (cs := #[.int .i64 0, .int .i64 0, .int .i64 0, .int .i64 0]) (by simp)
  have bel0 := ((Below.refl g w).alloc (Nat.le_of_lt hgl) (.cells #[.int .i64 1, .int .i64 p, .int .i64 id, .int .i64 body, .int .i64 0, .int .i64 0] 44)).alloc (by simp; omega) (.cells #[.int .i64 0, .int .i64 0, .int .i64 0, .int .i64 0] 48)
  have HP := Lib.hid (show ∀ w', DeskIs w' g ep nx gv rd ls t f → Below g w w' → ActPost g w (ansV c 0 0 0) false ep nx gv rd ls t f (.returned (.tuple #[ansV c 0 0 0, .bool false])) w' from fun w' a b => ⟨rfl, a, b⟩)
  generalize ActPost g w (ansV c 0 0 0) false ep nx gv rd ls t f = POST at *
  clear o1 o2 E
  go_enter Try.func29, Try.ntmps29
  go_upto_region 1 with fail
  obtain ⟨ga, hga⟩ : ∃ ga, ga = w.heap.size + 1 := ⟨_, rfl⟩
  obtain ⟨ge, hge⟩ : ∃ ge, ge = w.heap.size := ⟨_, rfl⟩
  have hgga : g < ga := by omega
  have hgge : g < ge := by omega
  have hgea : ge < ga := by omega
  rw [← hga] at F0 ⊢
  rw [← hge] at D0 ⊢
  generalize (w.alloc (.cells #[.int .i64 1, .int .i64 p, .int .i64 id, .int .i64 body, .int .i64 0, .int .i64 0] 44)).alloc (.cells #[.int .i64 0, .int .i64 0, .int .i64 0, .int .i64 0] 48) = w0 at *
  clear hga hge
  obtain ⟨u0, u1, u2, u3, u4, u5, u6, u7, u8⟩ := qWin E0 hp
  have hgz := E0.lt
  have hez := D0.lt
  have d1 := D0.cell 1
  have d2 := D0.cell 2
  have hpI : (p : Int) < 4 := by omega
  have n1 : ¬ g = w0.heap.size := by omega
  have n2 : ¬ w0.heap.size = g := by omega
  have n3 : ¬ ge = w0.heap.size := by omega
  have n4 : ¬ w0.heap.size = ge := by omega
  go_cut [6, 7, 8] (fun s6 s7 s8 wx => ∃ gw, s6 = .pointer (some ⟨gw, 0, none⟩) ∧ s7 = .bool false ∧ s8 = .int .i64 c ∧ Blk wx gw 34 (winCells T q) ∧ Below w0.heap.size w0 wx ∧ w0.heap.size ≤ gw)
  case first =>
    go_region_held3 (fun W => W.cell? ⟨g, 5 + p * 9, none⟩ = some (.int .i64 (t p)) ∧ W.cell? ⟨g, 5 + p * 9 + 1, none⟩ = some (.bool (f p 0)) ∧ W.cell? ⟨g, 5 + p * 9 + 2, none⟩ = some (.bool (f p 1)) ∧ W.cell? ⟨g, 5 + p * 9 + 3, none⟩ = some (.bool (f p 2)) ∧ W.cell? ⟨g, 5 + p * 9 + 4, none⟩ = some (.bool (f p 3)) ∧ W.cell? ⟨g, 5 + p * 9 + 5, none⟩ = some (.bool (f p 4)) ∧ W.cell? ⟨g, 5 + p * 9 + 6, none⟩ = some (.bool (f p 5)) ∧ W.cell? ⟨g, 5 + p * 9 + 7, none⟩ = some (.bool (f p 6)) ∧ W.cell? ⟨g, 5 + p * 9 + 8, none⟩ = some (.bool (f p 7)) ∧ W.cell? ⟨ge, 1, none⟩ = some (.int .i64 p) ∧ W.cell? ⟨ge, 2, none⟩ = some (.int .i64 id)) (go_keep)
      (first
        | (go_at_call 52; refine (CT.out _).mono ?_; rintro e w3 ⟨rfl, b3⟩; have eN : Blk w3 w0.heap.size 34 #[.int .i64 0, .bool false, .bool false, .bool false, .bool false, .bool false, .bool false, .bool false, .bool false] := (by first | exact ((Blk.new w0 _ _).drew).below b3 (by simp) | exact (Blk.new w0.drew _ _).below b3 (by simp)); have hbW : Below w0.heap.size w0 w3 := (by first | exact (Below.refl _ _).drew.trans (b3.mono (by simp)) | exact ((Below.refl _ _).alloc (Nat.le_refl _) _).drew.trans (b3.mono (by simp)) | exact ((Below.refl _ _).drew.alloc (by simp) _).trans (b3.mono (by simp))); have m1 : ¬ g = w3.heap.size := (by have := hbW.size; omega); have m2 : ¬ w3.heap.size = g := (by have := hbW.size; omega); have m3 : ¬ ge = w3.heap.size := (by have := hbW.size; omega); have m4 : ¬ w3.heap.size = ge := (by have := hbW.size; omega); have fN := eN.frozen; have zN := eN.lt; have c0 := eN.cell 0; have c1 := eN.cell 1; have c2 := eN.cell 2; have c3 := eN.cell 3; have c4 := eN.cell 4; have c5 := eN.cell 5; have c6 := eN.cell 6; have c7 := eN.cell 7; have c8 := eN.cell 8; have s0 := (hbW.cell (p := ⟨g, 5 + p * 9, none⟩) hgz).trans u0; have s1 := (hbW.cell (p := ⟨g, 5 + p * 9 + 1, none⟩) hgz).trans u1; have s2 := (hbW.cell (p := ⟨g, 5 + p * 9 + 2, none⟩) hgz).trans u2; have s3 := (hbW.cell (p := ⟨g, 5 + p * 9 + 3, none⟩) hgz).trans u3; have s4 := (hbW.cell (p := ⟨g, 5 + p * 9 + 4, none⟩) hgz).trans u4; have s5 := (hbW.cell (p := ⟨g, 5 + p * 9 + 5, none⟩) hgz).trans u5; have s6 := (hbW.cell (p := ⟨g, 5 + p * 9 + 6, none⟩) hgz).trans u6; have s7 := (hbW.cell (p := ⟨g, 5 + p * 9 + 7, none⟩) hgz).trans u7; have s8 := (hbW.cell (p := ⟨g, 5 + p * 9 + 8, none⟩) hgz).trans u8; have s9 := (hbW.cell (p := ⟨ge, 1, none⟩) hez).trans d1; have s10 := (hbW.cell (p := ⟨ge, 2, none⟩) hez).trans d2; clear b3)
        | (go_at_call 52; refine (CT.out _).mono ?_; rintro e w3 ⟨rfl, b3⟩; have hbW : Below w0.heap.size w0 w3 := (by first | exact (Below.refl _ _).drew.trans (b3.mono (by simp)) | exact ((Below.refl _ _).alloc (Nat.le_refl _) _).drew.trans (b3.mono (by simp)) | exact ((Below.refl _ _).drew.alloc (by simp) _).trans (b3.mono (by simp))); have m1 : ¬ g = w3.heap.size := (by have := hbW.size; omega); have m2 : ¬ w3.heap.size = g := (by have := hbW.size; omega); have m3 : ¬ ge = w3.heap.size := (by have := hbW.size; omega); have m4 : ¬ w3.heap.size = ge := (by have := hbW.size; omega); have s0 := (hbW.cell (p := ⟨g, 5 + p * 9, none⟩) hgz).trans u0; have s1 := (hbW.cell (p := ⟨g, 5 + p * 9 + 1, none⟩) hgz).trans u1; have s2 := (hbW.cell (p := ⟨g, 5 + p * 9 + 2, none⟩) hgz).trans u2; have s3 := (hbW.cell (p := ⟨g, 5 + p * 9 + 3, none⟩) hgz).trans u3; have s4 := (hbW.cell (p := ⟨g, 5 + p * 9 + 4, none⟩) hgz).trans u4; have s5 := (hbW.cell (p := ⟨g, 5 + p * 9 + 5, none⟩) hgz).trans u5; have s6 := (hbW.cell (p := ⟨g, 5 + p * 9 + 6, none⟩) hgz).trans u6; have s7 := (hbW.cell (p := ⟨g, 5 + p * 9 + 7, none⟩) hgz).trans u7; have s8 := (hbW.cell (p := ⟨g, 5 + p * 9 + 8, none⟩) hgz).trans u8; have s9 := (hbW.cell (p := ⟨ge, 1, none⟩) hez).trans d1; have s10 := (hbW.cell (p := ⟨ge, 2, none⟩) hez).trans d2; clear b3))
    all_goals
      go_wp2_with fail
      go_meet
      first
        | with_reducible exact ⟨_, rfl, rfl, rfl, win_put eN T q, win_put_below hbW (Nat.le_refl _) T q, Nat.le_refl _⟩
        | exact ⟨_, rfl, rfl, rfl, Blk.new w3 _ _, hbW.alloc hbW.size _, hbW.size⟩
  case rest =>
    obtain ⟨gw, rfl, rfl, rfl, W1, b1, hgw⟩ := hcut
    have E1 := E0.below b1 E0.lt
    have F1 := F0.below b1 F0.lt
    have o11 := own_below o1' b1 (Nat.le_refl _)
    have o21 := own_below o2' b1 (Nat.le_refl _)
    have bel1 := bel0.trans (b1.mono (Nat.le_of_lt hgz))
    clear u0 u1 u2 u3 u4 u5 u6 u7 u8 d1 d2 n1 n2 n3 n4 E0 D0 F0 o1' o2' bel0 b1 CT
    have f0 := F1.cell 0
    have f1 := F1.cell 1
    have f2 := F1.cell 2
    have f3 := F1.cell 3
    have ff := F1.frozen
    have fz := F1.lt
    have hfin := Lib.hid (HP.out _ (same_end hn hm hgga E1 F1 hc1 hc2 o11 o21 bel1 c).1 (same_end hn hm hgga E1 F1 hc1 hc2 o11 o21 bel1 c).2)
    unfold put4 at hfin
    clear o11 o21 bel1 E1 F1 W1 HP
    rcases hc with rfl | rfl
    all_goals
      go_wp2_with fail
      first
        | exact bodyPost_ret (v := .tuple #[.agg #[.int .i64 0, .int .i64 0, .int .i64 0, .int .i64 0], .bool false]) (by simp [results, Try.results29, go_sem, *]) rfl hfin.out
        | exact bodyPost_ret (v := .tuple #[.agg #[.int .i64 9, .int .i64 0, .int .i64 0, .int .i64 0], .bool false]) (by simp [results, Try.results29, go_sem, *]) rfl hfin.out

set_option maxRecDepth 100000 in
set_option maxHeartbeats 3000000 in
theorem receive_not (ep nx gv : Int) (ls : List (Int × Int × Int)) (t : Nat → Int) (f : Nat → Nat → Bool) (g m : Nat) (v1 v2 : Value) (ev : Array Value) (w : World)
    (E : Blk w g 84 (qCells ep nx gv v1 v2 t f)) (hm : ls.length = m)
    (o1 : w.ownsRow (g + 1) 87 2 v1 0 (msgCells [])) (o2 : w.ownsRow (g + 1) 90 4 v2 m (lsCells ep ls)) :
    Calls Try.prog 30 #[.pointer (some ⟨g, 0, none⟩), .agg ev] w (ActPost g w (ansV 10 0 0 0) false ep nx gv [] ls t f) := by
  obtain ⟨A1, c1, rfl, hc1, _⟩ := own_shape o1
  obtain ⟨A2, c2, rfl, hc2, _⟩ := own_shape o2
  have hgl := E.lt
  have E0 := (E.alloc (.cells ev 44)).alloc (.cells #[.int .i64 0, .int .i64 0, .int .i64 0, .int .i64 0] 48)
  have o1' := (o1.alloc (.cells ev 44)).alloc (.cells #[.int .i64 0, .int .i64 0, .int .i64 0, .int .i64 0] 48)
  have o2' := (o2.alloc (.cells ev 44)).alloc (.cells #[.int .i64 0, .int .i64 0, .int .i64 0, .int .i64 0] 48)
  have F0 := Blk.new' (w := w.alloc (.cells ev 44)) (g := w.heap.size + 1) (t := 48) (cs := #[.int .i64 0, .int .i64 0, .int .i64 0, .int .i64 0]) (by simp)
  have bel0 := ((Below.refl g w).alloc (Nat.le_of_lt hgl) (.cells ev 44)).alloc (by simp; omega) (.cells #[.int .i64 0, .int .i64 0, .int .i64 0, .int .i64 0] 48)
  have HP := Lib.hid (show ∀ w', DeskIs w' g ep nx gv [] ls t f → Below g w w' → ActPost g w (ansV 10 0 0 0) false ep nx gv [] ls t f (.returned (.tuple #[ansV 10 0 0 0, .bool false])) w' from fun w' a b => ⟨rfl, a, b⟩)
  generalize ActPost g w (ansV 10 0 0 0) false ep nx gv [] ls t f = POST at *
  clear o1 o2 E
  go_enter Try.func30, Try.ntmps30
  go_upto_region 1 with fail
  obtain ⟨ga, hga⟩ : ∃ ga, ga = w.heap.size + 1 := ⟨_, rfl⟩
  have hgga : g < ga := by omega
  rw [← hga] at F0 ⊢
  generalize (w.alloc (.cells ev 44)).alloc (.cells #[.int .i64 0, .int .i64 0, .int .i64 0, .int .i64 0] 48) = w0 at *
  clear hga
  obtain ⟨x0, x1, x2, x3, x4⟩ := qBlk E0
  have hgz := E0.lt
  have f0 := F0.cell 0
  have f1 := F0.cell 1
  have f2 := F0.cell 2
  have f3 := F0.cell 3
  have ff := F0.frozen
  have fz := F0.lt
  have hfin := Lib.hid (HP.out _ (same_end (n := 0) rfl hm hgga E0 F0 hc1 hc2 o1' o2' bel0 10).1 (same_end (n := 0) rfl hm hgga E0 F0 hc1 hc2 o1' o2' bel0 10).2)
  unfold put4 at hfin
  clear o1' o2' bel0 E0 F0 HP
  go_wp2_with fail
  exact bodyPost_ret (v := .tuple #[.agg #[.int .i64 10, .int .i64 0, .int .i64 0, .int .i64 0], .bool false]) (by simp [results, Try.results30, go_sem, *]) rfl hfin.out

set_option maxRecDepth 100000 in
set_option maxHeartbeats 3000000 in
theorem ack_stale (ep nx gv : Int) (rd : List (Int × Int)) (ls : List (Int × Int × Int)) (t : Nat → Int) (f : Nat → Nat → Bool) (g n m : Nat) (v1 v2 : Value) (e0 e1 e2 e3 he id : Int) (w : World)
    (E : Blk w g 84 (qCells ep nx gv v1 v2 t f)) (hn : rd.length = n) (hm : ls.length = m)
    (o1 : w.ownsRow (g + 1) 87 2 v1 n (msgCells rd)) (o2 : w.ownsRow (g + 1) 90 4 v2 m (lsCells ep ls)) (hep : he ≠ ep) :
    Calls Try.prog 31 #[.pointer (some ⟨g, 0, none⟩), .agg #[.int .i64 e0, .int .i64 e1, .int .i64 e2, .int .i64 e3, .int .i64 he, .int .i64 id]] w (ActPost g w (ansV 11 0 0 0) false ep nx gv rd ls t f) := by
  have hne1 : (he == ep) = false := beq_eq_false_iff_ne.2 hep
  have hne2 : (he != ep) = true := bne_iff_ne.2 hep
  have hne3 : decide (he = ep) = false := decide_eq_false hep
  clear hep
  obtain ⟨A1, c1, rfl, hc1, _⟩ := own_shape o1
  obtain ⟨A2, c2, rfl, hc2, _⟩ := own_shape o2
  have hgl := E.lt
  have E0 := (E.alloc (.cells #[.int .i64 e0, .int .i64 e1, .int .i64 e2, .int .i64 e3, .int .i64 he, .int .i64 id] 44)).alloc (.cells #[.int .i64 0, .int .i64 0, .int .i64 0, .int .i64 0] 48)
  have o1' := (o1.alloc (.cells #[.int .i64 e0, .int .i64 e1, .int .i64 e2, .int .i64 e3, .int .i64 he, .int .i64 id] 44)).alloc (.cells #[.int .i64 0, .int .i64 0, .int .i64 0, .int .i64 0] 48)
  have o2' := (o2.alloc (.cells #[.int .i64 e0, .int .i64 e1, .int .i64 e2, .int .i64 e3, .int .i64 he, .int .i64 id] 44)).alloc (.cells #[.int .i64 0, .int .i64 0, .int .i64 0, .int .i64 0] 48)
  have D0 := (Blk.new w 44 #[.int .i64 e0, .int .i64 e1, .int .i64 e2, .int .i64 e3, .int .i64 he, .int .i64 id]).alloc (.cells #[.int .i64 0, .int .i64 0, .int .i64 0, .int .i64 0] 48)
  have F0 := Blk.new' (w := w.alloc (.cells #[.int .i64 e0, .int .i64 e1, .int .i64 e2, .int .i64 e3, .int .i64 he, .int .i64 id] 44)) (g := w.heap.size + 1) (t := 48) (cs := #[.int .i64 0, .int .i64 0, .int .i64 0, .int .i64 0]) (by simp)
  have bel0 := ((Below.refl g w).alloc (Nat.le_of_lt hgl) (.cells #[.int .i64 e0, .int .i64 e1, .int .i64 e2, .int .i64 e3, .int .i64 he, .int .i64 id] 44)).alloc (by simp; omega) (.cells #[.int .i64 0, .int .i64 0, .int .i64 0, .int .i64 0] 48)
  have HP := Lib.hid (show ∀ w', DeskIs w' g ep nx gv rd ls t f → Below g w w' → ActPost g w (ansV 11 0 0 0) false ep nx gv rd ls t f (.returned (.tuple #[ansV 11 0 0 0, .bool false])) w' from fun w' a b => ⟨rfl, a, b⟩)
  generalize ActPost g w (ansV 11 0 0 0) false ep nx gv rd ls t f = POST at *
  clear o1 o2 E
  go_enter Try.func31, Try.ntmps31
  go_upto_region 1 with fail
  obtain ⟨ga, hga⟩ : ∃ ga, ga = w.heap.size + 1 := ⟨_, rfl⟩
  obtain ⟨ge, hge⟩ : ∃ ge, ge = w.heap.size := ⟨_, rfl⟩
  have hgga : g < ga := by omega
  have hgge : g < ge := by omega
  have hgea : ge < ga := by omega
  rw [← hga] at F0 ⊢
  rw [← hge] at D0 ⊢
  generalize (w.alloc (.cells #[.int .i64 e0, .int .i64 e1, .int .i64 e2, .int .i64 e3, .int .i64 he, .int .i64 id] 44)).alloc (.cells #[.int .i64 0, .int .i64 0, .int .i64 0, .int .i64 0] 48) = w0 at *
  clear hga hge
  obtain ⟨x0, x1, x2, x3, x4⟩ := qBlk E0
  have hgz := E0.lt
  have d4 := D0.cell 4
  have d5 := D0.cell 5
  have hdz := D0.lt
  go_quiet (fail)
  have E1 : Blk (w0.drewN nq) g 84 _ := E0.drewN nq
  have D1 : Blk (w0.drewN nq) ge 44 _ := D0.drewN nq
  have F1 : Blk (w0.drewN nq) ga 48 _ := F0.drewN nq
  have o11 : (w0.drewN nq).ownsRow (g + 1) 87 2 _ n _ := o1'
  have o21 : (w0.drewN nq).ownsRow (g + 1) 90 4 _ m _ := o2'
  have bel1 := below_drewN bel0 nq
  generalize w0.drewN nq = w1 at *
  clear x0 x1 x2 x3 x4 hgz d4 d5 hdz E0 D0 F0 o1' o2' bel0
  have f0 := F1.cell 0
  have f1 := F1.cell 1
  have f2 := F1.cell 2
  have f3 := F1.cell 3
  have ff := F1.frozen
  have fz := F1.lt
  have hfin := Lib.hid (HP.out _ (same_end hn hm hgga E1 F1 hc1 hc2 o11 o21 bel1 11).1 (same_end hn hm hgga E1 F1 hc1 hc2 o11 o21 bel1 11).2)
  unfold put4 at hfin
  clear o11 o21 bel1 E1 F1 HP
  go_wp2_with fail
  exact bodyPost_ret (v := .tuple #[.agg #[.int .i64 11, .int .i64 0, .int .i64 0, .int .i64 0], .bool false]) (by simp [results, Try.results31, go_sem, *]) rfl hfin.out

set_option maxRecDepth 100000 in
set_option maxHeartbeats 3000000 in
theorem ack_none (ep nx gv : Int) (rd : List (Int × Int)) (ls : List (Int × Int × Int)) (t : Nat → Int) (f : Nat → Nat → Bool) (g n m : Nat) (v1 v2 : Value) (e0 e1 e2 e3 id : Int) (w : World)
    (E : Blk w g 84 (qCells ep nx gv v1 v2 t f)) (hn : rd.length = n) (hm : ls.length = m)
    (o1 : w.ownsRow (g + 1) 87 2 v1 n (msgCells rd)) (o2 : w.ownsRow (g + 1) 90 4 v2 m (lsCells ep ls)) (hlen : n + m ≤ 500) (hno : ∀ t, t < m → (ls.getD t (0, 0, 0)).1 ≠ id) :
    Calls Try.prog 31 #[.pointer (some ⟨g, 0, none⟩), .agg #[.int .i64 e0, .int .i64 e1, .int .i64 e2, .int .i64 e3, .int .i64 ep, .int .i64 id]] w (ActPost g w (ansV 7 0 0 0) false ep nx gv rd ls t f) := by
  obtain ⟨A1, c1, rfl, hc1, _⟩ := own_shape o1
  obtain ⟨A2, c2, rfl, hc2, _⟩ := own_shape o2
  have hgl := E.lt
  have E0 := (E.alloc (.cells #[.int .i64 e0, .int .i64 e1, .int .i64 e2, .int .i64 e3, .int .i64 ep, .int .i64 id] 44)).alloc (.cells #[.int .i64 0, .int .i64 0, .int .i64 0, .int .i64 0] 48)
  have o1' := (o1.alloc (.cells #[.int .i64 e0, .int .i64 e1, .int .i64 e2, .int .i64 e3, .int .i64 ep, .int .i64 id] 44)).alloc (.cells #[.int .i64 0, .int .i64 0, .int .i64 0, .int .i64 0] 48)
  have o2' := (o2.alloc (.cells #[.int .i64 e0, .int .i64 e1, .int .i64 e2, .int .i64 e3, .int .i64 ep, .int .i64 id] 44)).alloc (.cells #[.int .i64 0, .int .i64 0, .int .i64 0, .int .i64 0] 48)
  have D0 := (Blk.new w 44 #[.int .i64 e0, .int .i64 e1, .int .i64 e2, .int .i64 e3, .int .i64 ep, .int .i64 id]).alloc (.cells #[.int .i64 0, .int .i64 0, .int .i64 0, .int .i64 0] 48)
  have F0 := Blk.new' (w := w.alloc (.cells #[.int .i64 e0, .int .i64 e1, .int .i64 e2, .int .i64 e3, .int .i64 ep, .int .i64 id] 44)) (g := w.heap.size + 1) (t := 48) (cs := #[.int .i64 0, .int .i64 0, .int .i64 0, .int .i64 0]) (by simp)
  have bel0 := ((Below.refl g w).alloc (Nat.le_of_lt hgl) (.cells #[.int .i64 e0, .int .i64 e1, .int .i64 e2, .int .i64 e3, .int .i64 ep, .int .i64 id] 44)).alloc (by simp; omega) (.cells #[.int .i64 0, .int .i64 0, .int .i64 0, .int .i64 0] 48)
  have HP := Lib.hid (show ∀ w', DeskIs w' g ep nx gv rd ls t f → Below g w w' → ActPost g w (ansV 7 0 0 0) false ep nx gv rd ls t f (.returned (.tuple #[ansV 7 0 0 0, .bool false])) w' from fun w' a b => ⟨rfl, a, b⟩)
  generalize ActPost g w (ansV 7 0 0 0) false ep nx gv rd ls t f = POST at *
  clear o1 o2 E
  go_enter Try.func31, Try.ntmps31
  go_upto_region 1 with fail
  obtain ⟨ga, hga⟩ : ∃ ga, ga = w.heap.size + 1 := ⟨_, rfl⟩
  obtain ⟨ge, hge⟩ : ∃ ge, ge = w.heap.size := ⟨_, rfl⟩
  have hgga : g < ga := by omega
  have hgge : g < ge := by omega
  have hgea : ge < ga := by omega
  rw [← hga] at F0 ⊢
  rw [← hge] at D0 ⊢
  generalize (w.alloc (.cells #[.int .i64 e0, .int .i64 e1, .int .i64 e2, .int .i64 e3, .int .i64 ep, .int .i64 id] 44)).alloc (.cells #[.int .i64 0, .int .i64 0, .int .i64 0, .int .i64 0] 48) = w0 at *
  clear hga hge
  obtain ⟨x0, x1, x2, x3, x4⟩ := qBlk E0
  have hgz := E0.lt
  have d4 := D0.cell 4
  have d5 := D0.cell 5
  have hdz := D0.lt
  go_quiet (fail)
  have E1 : Blk (w0.drewN nq) g 84 _ := E0.drewN nq
  have D1 : Blk (w0.drewN nq) ge 44 _ := D0.drewN nq
  have F1 : Blk (w0.drewN nq) ga 48 _ := F0.drewN nq
  have o11 : (w0.drewN nq).ownsRow (g + 1) 87 2 _ n _ := o1'
  have o21 : (w0.drewN nq).ownsRow (g + 1) 90 4 _ m _ := o2'
  have bel1 := below_drewN bel0 nq
  generalize w0.drewN nq = w1 at *
  clear x0 x1 x2 x3 x4 hgz d4 d5 hdz E0 D0 F0 o1' o2' bel0
  obtain ⟨x0, x1, x2, x3, x4⟩ := qBlk E1
  go_wp2_with fail
  refine (index_ls ep A2 m c2 w1.heap.size ls id (-1) ge w1 hm (by omega) (Reads.of_own o21) (Nat.le_refl _) (D1.cell 4) (D1.cell 5) (.inr ⟨rfl, fun t ht => hno t (by omega)⟩)).mono ?_
  rintro e w2 ⟨rfl, b2⟩
  have E2 := E1.below b2 E1.lt
  have F2 := F1.below b2 F1.lt
  have o12 := own_below o11 b2 (Nat.le_refl _)
  have o22 := own_below o21 b2 (Nat.le_refl _)
  have bel2 := bel1.trans (b2.mono (Nat.le_of_lt E1.lt))
  clear x0 x1 x2 x3 x4 E1 D1 F1 o11 o21 bel1 b2 hno
  have E1 := E2
  have F1 := F2
  have o11 := o12
  have o21 := o22
  have bel1 := bel2
  clear E2 F2 o12 o22 bel2
  have f0 := F1.cell 0
  have f1 := F1.cell 1
  have f2 := F1.cell 2
  have f3 := F1.cell 3
  have ff := F1.frozen
  have fz := F1.lt
  have hfin := Lib.hid (HP.out _ (same_end hn hm hgga E1 F1 hc1 hc2 o11 o21 bel1 7).1 (same_end hn hm hgga E1 F1 hc1 hc2 o11 o21 bel1 7).2)
  unfold put4 at hfin
  clear o11 o21 bel1 E1 F1 HP
  go_wp2_with fail
  exact bodyPost_ret (v := .tuple #[.agg #[.int .i64 7, .int .i64 0, .int .i64 0, .int .i64 0], .bool false]) (by simp [results, Try.results31, go_sem, *]) rfl hfin.out

end Go.Proofs.Ytjmncbfmjeeneaa

namespace Go.Proofs.Ytjmncbfmjeeneaa
open Go.RowKit

theorem q_build (ep nx gv : Int) (vr vl : Value) (t : Nat → Int) (f : Nat → Nat → Bool) : Array.foldl (fun (cs : Array Value) (x : Value × Nat) => cs.setIfInBounds x.snd x.fst) #[.int .i64 0, .int .i64 0, .int .i64 0, .slice none 0 0, .slice none 0 0, .int .i64 0, .bool false, .bool false, .bool false, .bool false, .bool false, .bool false, .bool false, .bool false, .int .i64 0, .bool false, .bool false, .bool false, .bool false, .bool false, .bool false, .bool false, .bool false, .int .i64 0, .bool false, .bool false, .bool false, .bool false, .bool false, .bool false, .bool false, .bool false, .int .i64 0, .bool false, .bool false, .bool false, .bool false, .bool false, .bool false, .bool false, .bool false] (qCells ep nx gv vr vl t f).zipIdx 0 41 = qCells ep nx gv vr vl t f := by kernel_rfl

/-- a copy, in new memory -/
def ClonePostMsg (w : World) (n : Nat) (xs : List Value) (ed : Ending) (w' : World) : Prop := Gives w 87 2 n xs ed w'

set_option maxHeartbeats 400000 in
theorem clone_Msg (A : Option Addr) (n c B : Nat) (xs : List Value) (w : World) (h : Reads w B 2 A n xs) (hx : ∀ u ∈ xs, u.oneCell' = true) (hn : n ≤ c) (hc : n ≤ 100000) (hB : B ≤ w.heap.size) :
    Calls Try.prog 27 #[.slice A n c] w (ClonePostMsg w n xs) := by
  obtain ⟨i0, hi0, hz0, hz1, hz2⟩ := info_parts msg_info
  have hnil := fun (W : World) => Lib.run_eql_slice_nil (P := Try.prog) W 30 87 A n c 0 0 Try.underlying30
  rcases A with _ | ad
  · have h0 : n = 0 := by
      rcases Nat.eq_zero_or_pos n with h0 | h0
      · exact h0
      · obtain ⟨_, h1, _⟩ := h.2 h0; cases h1
    subst h0
    have hd : xs = [] := List.eq_nil_of_length_eq_zero (by simpa using h.1)
    subst hd
    have FIN := Lib.hid (show ClonePostMsg w 0 [] (.returned (.slice none 0 0)) w from ⟨_, rfl, World.ownsRow_nil _ _ _ _, Below.refl _ _⟩)
    generalize ClonePostMsg w 0 [] = POST at *
    clear h hx
    go_enter Try.func27, Try.ntmps27
    go_wp2
    exact FIN.out
  · have FIN : ∀ v w1 w2, Below w.heap.size w w1 → w2.ownsRow w.heap.size 87 2 v (0 + n) ([] ++ xs) → w1.grownBy w2 (some w.heap.size) → ClonePostMsg w n xs (.returned v) w2 := fun v w1 w2 hb ho hg => by
      rw [Nat.zero_add, List.nil_append] at ho
      exact ⟨v, rfl, ho, hb.grown hg hb.size (fun k hk => by cases hk; exact Nat.le_refl _)⟩
    have FH := Lib.hid FIN
    clear FIN
    generalize ClonePostMsg w n xs = POST at *
    have h1 := h.alloc hB (.cells #[] 87)
    have o0 : (w.alloc (.cells #[] 87)).ownsRow w.heap.size 87 2 (.slice (some ⟨w.heap.size, 0, none⟩) 0 0) 0 [] :=
      ⟨by simp, .inr ⟨w.heap.size, 0, #[], rfl, Nat.le_refl _, heap_alloc_new w _, Nat.le_refl _, by simp [maxLen], by simp, by simp⟩⟩
    have b0 := (Below.refl w.heap.size w).alloc (Nat.le_refl _) (.cells #[] 87)
    clear h
    go_enter Try.func27, Try.ntmps27
    go_wp2_with (at_builtin; refine wpList_append_any _ rfl (.tmp 5) (.tmp 6) _ rfl w.heap.size 87 i0 _ 2 16 Try.underlying30 hi0 hz0 hz1 hz2 rfl (by omega) (.slice (some ⟨w.heap.size, 0, none⟩) 0 0) 0 [] rfl o0 B (some ad) n c xs rfl h1 hx (by simp only [maxLen]; omega) (by omega) (by simp) ?_; intro v1 w1 o1 g1 at1)
    exact FH.out _ _ _ b0 o1 g1

/-- a copy, in new memory -/
def ClonePostLs (w : World) (n : Nat) (xs : List Value) (ed : Ending) (w' : World) : Prop := Gives w 90 4 n xs ed w'

set_option maxHeartbeats 400000 in
theorem clone_Ls (A : Option Addr) (n c B : Nat) (xs : List Value) (w : World) (h : Reads w B 4 A n xs) (hx : ∀ u ∈ xs, u.oneCell' = true) (hn : n ≤ c) (hc : n ≤ 100000) (hB : B ≤ w.heap.size) :
    Calls Try.prog 28 #[.slice A n c] w (ClonePostLs w n xs) := by
  obtain ⟨i0, hi0, hz0, hz1, hz2⟩ := info_parts ls_info
  have hnil := fun (W : World) => Lib.run_eql_slice_nil (P := Try.prog) W 31 90 A n c 0 0 Try.underlying31
  rcases A with _ | ad
  · have h0 : n = 0 := by
      rcases Nat.eq_zero_or_pos n with h0 | h0
      · exact h0
      · obtain ⟨_, h1, _⟩ := h.2 h0; cases h1
    subst h0
    have hd : xs = [] := List.eq_nil_of_length_eq_zero (by simpa using h.1)
    subst hd
    have FIN := Lib.hid (show ClonePostLs w 0 [] (.returned (.slice none 0 0)) w from ⟨_, rfl, World.ownsRow_nil _ _ _ _, Below.refl _ _⟩)
    generalize ClonePostLs w 0 [] = POST at *
    clear h hx
    go_enter Try.func28, Try.ntmps28
    go_wp2
    exact FIN.out
  · have FIN : ∀ v w1 w2, Below w.heap.size w w1 → w2.ownsRow w.heap.size 90 4 v (0 + n) ([] ++ xs) → w1.grownBy w2 (some w.heap.size) → ClonePostLs w n xs (.returned v) w2 := fun v w1 w2 hb ho hg => by
      rw [Nat.zero_add, List.nil_append] at ho
      exact ⟨v, rfl, ho, hb.grown hg hb.size (fun k hk => by cases hk; exact Nat.le_refl _)⟩
    have FH := Lib.hid FIN
    clear FIN
    generalize ClonePostLs w n xs = POST at *
    have h1 := h.alloc hB (.cells #[] 90)
    have o0 : (w.alloc (.cells #[] 90)).ownsRow w.heap.size 90 4 (.slice (some ⟨w.heap.size, 0, none⟩) 0 0) 0 [] :=
      ⟨by simp, .inr ⟨w.heap.size, 0, #[], rfl, Nat.le_refl _, heap_alloc_new w _, Nat.le_refl _, by simp [maxLen], by simp, by simp⟩⟩
    have b0 := (Below.refl w.heap.size w).alloc (Nat.le_refl _) (.cells #[] 90)
    clear h
    go_enter Try.func28, Try.ntmps28
    go_wp2_with (at_builtin; refine wpList_append_any _ rfl (.tmp 5) (.tmp 6) _ rfl w.heap.size 90 i0 _ 4 32 Try.underlying31 hi0 hz0 hz1 hz2 rfl (by omega) (.slice (some ⟨w.heap.size, 0, none⟩) 0 0) 0 [] rfl o0 B (some ad) n c xs rfl h1 hx (by simp only [maxLen]; omega) (by omega) (by simp) ?_; intro v1 w1 o1 g1 at1)
    exact FH.out _ _ _ b0 o1 g1

end Go.Proofs.Ytjmncbfmjeeneaa

namespace Go.Proofs.Ytjmncbfmjeeneaa
open Go.RowKit Go.Maps

/-- a desk's act as a value -/
def fv (gd j : Nat) : Value := .func (.func j) #[.pointer (some ⟨gd, 0, none⟩)] #[]
def fnElem (gd : Nat) : Value → Option (DataW Unit × List MemPlace)
  | .func (.func j) cs fs =>
    match cs.toList, fs.toList with
    | [.pointer (some ⟨b, o, none⟩)], [] => if b = gd ∧ o = 0 then some (.lit (.int .i64 j), []) else none
    | _, _ => none
  | .nilFunc => some (.lit (.bool false), [])
  | _ => none
theorem fnElem_mk (gd j : Nat) : fnElem gd (fv gd j) = some (.lit (.int .i64 j), []) := by simp [fnElem, fv]
theorem fnElem_inv {gd j : Nat} {v : Value} {ps : List MemPlace} (h : fnElem gd v = some (.lit (.int .i64 j), ps)) : v = fv gd j := by
  unfold fnElem at h
  split at h
  · rename_i i cs fs
    split at h
    · rename_i b o h1 h2
      split at h
      · rename_i hc
        obtain ⟨rfl, rfl⟩ := hc
        injection h with h
        injection h with h _
        injection h with h
        injection h with _ h
        have hj := Int.ofNat.inj h
        have e1 : cs = #[.pointer (some ⟨b, 0, none⟩)] := by rw [← Array.toArray_toList (xs := cs), h1]
        have e2 : fs = #[] := by rw [← Array.toArray_toList (xs := fs), h2]
        rw [e1, e2, hj]
        rfl
      · cases h
    · cases h
  · injection h with h
    injection h with h _
    injection h with h
    cases h
  · cases h
def actsD (a b c d : Nat) : DataW Unit := ((((DataW.map []).put (.int .i64 1) (.lit (.int .i64 a))).put (.int .i64 2) (.lit (.int .i64 b))).put (.int .i64 3) (.lit (.int .i64 c))).put (.int .i64 4) (.lit (.int .i64 d))
theorem key_i (x : Int) (h : Is64 x) : keyOf Try.prog 3 (.int .i64 x) = some (.int .i64 x) := keyOf_int_mk Try.underlying3 (wf_of_is64 h)
theorem acts_map (gd : Nat) (w : World) : ∃ w1 w2 w3 w4,
    (Instr.mapUpdate 92 (.map (some w.heap.size)) (.int .i64 1) (fv gd 29)).run Try.prog (w.alloc (.map #[] 0)) = .ok () w1 ∧
    (Instr.mapUpdate 92 (.map (some w.heap.size)) (.int .i64 2) (fv gd 30)).run Try.prog w1 = .ok () w2 ∧
    (Instr.mapUpdate 92 (.map (some w.heap.size)) (.int .i64 3) (fv gd 31)).run Try.prog w2 = .ok () w3 ∧
    (Instr.mapUpdate 92 (.map (some w.heap.size)) (.int .i64 4) (fv gd 32)).run Try.prog w3 = .ok () w4 ∧
    w.grownBy w4 none ∧
    (Instr.lookup 92 (.map (some w.heap.size)) (.int .i64 1) false).run Try.prog w4 = .ok (fv gd 29) w4 ∧
    (Instr.lookup 92 (.map (some w.heap.size)) (.int .i64 2) false).run Try.prog w4 = .ok (fv gd 30) w4 ∧
    (Instr.lookup 92 (.map (some w.heap.size)) (.int .i64 3) false).run Try.prog w4 = .ok (fv gd 31) w4 ∧
    (Instr.lookup 92 (.map (some w.heap.size)) (.int .i64 4) false).run Try.prog w4 = .ok (fv gd 32) w4 := by
  have ht := Try.underlying92
  have M0 := World.ownsMap_made w Try.prog 3 (fnElem gd)
  obtain ⟨w1, r1, M1, g1⟩ := M0.update k3 ht (by unfold maxLen; omega) (key_i 1 ⟨by omega, by omega⟩) (fnElem_mk gd 29)
  obtain ⟨w2, r2, M2, g2⟩ := M1.update k3 ht (by unfold maxLen; omega) (key_i 2 ⟨by omega, by omega⟩) (fnElem_mk gd 30)
  obtain ⟨w3, r3, M3, g3⟩ := M2.update k3 ht (by unfold maxLen; omega) (key_i 3 ⟨by omega, by omega⟩) (fnElem_mk gd 31)
  obtain ⟨w4, r4, M4, g4⟩ := M3.update k3 ht (by unfold maxLen; omega) (key_i 4 ⟨by omega, by omega⟩) (fnElem_mk gd 32)
  have M5 : w4.ownsMap Try.prog 3 (fnElem gd) w.heap.size _ (actsD 29 30 31 32) := M4
  have hz : (zeroValue 91).run Try.prog w4 = .ok .nilFunc w4 := by kernel_rfl
  have hne : ∀ a b : Int, a ≠ b → (Lit.int .i64 a) ≠ (Lit.int .i64 b) := fun a b h e => h (by injection e)
  have look : ∀ (x : Int) (j : Nat), Is64 x → (∀ z : DataW Unit, (actsD 29 30 31 32).atKey (.int .i64 x) z = .lit (.int .i64 j)) →
      (Instr.lookup 92 (.map (some w.heap.size)) (.int .i64 x) false).run Try.prog w4 = .ok (fv gd j) w4 := fun x j hx ha => by
    obtain ⟨v, ps, hr, hv⟩ := M5.lookup k3 ht hz (zd := .lit (.bool false)) (zp := []) (by simp [fnElem]) (key_i x hx)
    rw [ha] at hv
    rw [hr, fnElem_inv hv]
  have T0 : IsMap (.map [] : DataW Unit) := isMap_empty
  refine ⟨w1, w2, w3, w4, r1, r2, r3, r4, ?_, look 1 _ ⟨by omega, by omega⟩ (fun z => ?_), look 2 _ ⟨by omega, by omega⟩ (fun z => ?_), look 3 _ ⟨by omega, by omega⟩ (fun z => ?_), look 4 _ ⟨by omega, by omega⟩ (fun z => ?_)⟩
  · have ga := World.grownBy_alloc w (.map #[] 0) none
    have hs := ga.size
    refine ⟨g4.os.trans (g3.os.trans (g2.os.trans (g1.os.trans ga.os))), g4.tape.trans (g3.tape.trans (g2.tape.trans (g1.tape.trans ga.tape))), g4.output.trans (g3.output.trans (g2.output.trans (g1.output.trans ga.output))), Nat.le_trans hs (Nat.le_trans g1.size (Nat.le_trans g2.size (Nat.le_trans g3.size g4.size))), fun k hk _ => ?_⟩
    have n0 : some k ≠ some w.heap.size := fun e => by injection e with e; omega
    have s1 := g1.size
    have s2 := g2.size
    have s3 := g3.size
    exact (g4.block k (by omega) n0).trans ((g3.block k (by omega) n0).trans ((g2.block k (by omega) n0).trans ((g1.block k (by omega) n0).trans (ga.block k hk (by simp)))))
  · unfold actsD; rw [atKey_put_other (hne 1 4 (by omega)), atKey_put_other (hne 1 3 (by omega)), atKey_put_other (hne 1 2 (by omega)), atKey_put_same T0 (int_key 1)]
  · unfold actsD; rw [atKey_put_other (hne 2 4 (by omega)), atKey_put_other (hne 2 3 (by omega)), atKey_put_same (T0.put _ _) (int_key 2)]
  · unfold actsD; rw [atKey_put_other (hne 3 4 (by omega)), atKey_put_same ((T0.put _ _).put _ _) (int_key 3)]
  · unfold actsD; rw [atKey_put_same (((T0.put _ _).put _ _).put _ _) (int_key 4)]

end Go.Proofs.Ytjmncbfmjeeneaa

namespace Go.Proofs.Ytjmncbfmjeeneaa
open Go.RowKit Go.Maps

theorem reads_fresh {w w' : World} {B s n lo : Nat} {A : Option Addr} {xs : List Value} (h : Reads w B s A n xs) (hA : Fresh lo A) (hk : ∀ p : Addr, lo ≤ p.block → w'.cell? p = w.cell? p) : Reads w' B s A n xs :=
  ⟨h.1, fun hn => by
    obtain ⟨ad, e, hb, hc⟩ := h.2 hn
    have := hA ad e
    exact ⟨ad, e, hb, fun j v hv => (hk _ (by rw [block_of_add]; exact this)).trans (hc j v hv)⟩⟩
def DoPost (w : World) (ans : Value) (chg : Bool) (ep nx gv : Int) (rd : List (Int × Int)) (ls : List (Int × Int × Int)) (t : Nat → Int) (f : Nat → Nat → Bool) (e : Ending) (w' : World) : Prop :=
  ∃ A1 c1 A2 c2, e = .returned (.tuple #[.agg (qCells ep nx gv (.slice A1 rd.length c1) (.slice A2 ls.length c2) t f), ans, .bool chg, .int .i64 0]) ∧ rd.length ≤ c1 ∧ ls.length ≤ c2 ∧ Reads w' w'.heap.size 2 A1 rd.length (msgCells rd) ∧ Reads w' w'.heap.size 4 A2 ls.length (lsCells ep ls) ∧ Fresh w.heap.size A1 ∧ Fresh w.heap.size A2 ∧ Below w.heap.size w w'
theorem ans_under : Try.prog.underlying 48 = some (.struct (Try.prog.fieldsOf 48)) := by kernel_rfl
theorem own_kept_none {w : World} {base s n : Nat} {e : TypeId} {v : Value} {xs : List Value} (_ : w.ownsRow base e s v n xs) : v.ownBlock = none ∨ v.ownBlock ≠ none := by
  rcases hv : v.ownBlock with _ | k
  · exact .inl rfl
  · exact .inr (by simp)

set_option maxRecDepth 100000 in
set_option maxHeartbeats 2000000 in
theorem do_ok (ep nx gv : Int) (rd : List (Int × Int)) (ls : List (Int × Int × Int)) (t : Nat → Int) (S : Nat → Int → Bool) (A1 A2 : Option Addr) (n m c1 c2 B : Nat) (w : World) (h : QOk ep nx gv rd ls t S) (hn : rd.length = n) (hm : ls.length = m) (hr : Reads w B 2 A1 n (msgCells rd)) (hr2 : Reads w B 4 A2 m (lsCells ep ls)) (hB : B ≤ w.heap.size) (hc1 : n ≤ c1) (hc2 : m ≤ c2)
    (k p i b he hno : Int) (hev : Ev.check ⟨k, p, i, b, he, hno⟩ = 0) (F : Nat) (hkF : (k = 1 ∧ F = 29) ∨ (k = 2 ∧ F = 30) ∨ (k = 3 ∧ F = 31) ∨ (k = 4 ∧ F = 32))
    (a0 a1 a2 a3 ep' nx' gv' : Int) (chg : Bool) (rd' : List (Int × Int)) (ls' : List (Int × Int × Int)) (t' : Nat → Int) (f' : Nat → Nat → Bool)
    (hact : ∀ g W v1 v2, Blk W g 84 (qCells ep nx gv v1 v2 t (fun i => shows (t i) (S i))) → W.ownsRow (g + 1) 87 2 v1 n (msgCells rd) → W.ownsRow (g + 1) 90 4 v2 m (lsCells ep ls) →
      Calls Try.prog F #[.pointer (some ⟨g, 0, none⟩), .agg #[.int .i64 k, .int .i64 p, .int .i64 i, .int .i64 b, .int .i64 he, .int .i64 hno]] W (ActPost g W (ansV a0 a1 a2 a3) chg ep' nx' gv' rd' ls' t' f')) :
    Calls Try.prog 12 #[.agg (qCells ep nx gv (.slice A1 n c1) (.slice A2 m c2) t (fun i => shows (t i) (S i))), .agg #[.int .i64 k, .int .i64 p, .int .i64 i, .int .i64 b, .int .i64 he, .int .i64 hno]] w (DoPost w (ansV a0 a1 a2 a3) chg ep' nx' gv' rd' ls' t' f') := by
  have QC := Lib.hid (fun W hr hr2 hB => qcheck_ok ep nx gv rd ls t S A1 A2 n m c1 c2 B W h hn hm hr hr2 hB)
  have EC' := fun W => check_any k p i b he hno W
  rw [hev] at EC'
  have EC := Lib.hid EC'
  clear EC' hev
  have hq41 : (qCells ep nx gv (.slice A1 n c1) (.slice A2 m c2) t (fun i => shows (t i) (S i))).size = 41 := rfl
  have hbd := q_build ep nx gv (.slice A1 n c1) (.slice A2 m c2) t (fun i => shows (t i) (S i))
  have HCS := Lib.hid (fun v1 v2 => show ((qCells ep nx gv (.slice A1 n c1) (.slice A2 m c2) t (fun i => shows (t i) (S i))).setIfInBounds 3 v1).setIfInBounds 4 v2 = qCells ep nx gv v1 v2 t (fun i => shows (t i) (S i)) from rfl)
  have q3 := Lib.hid (show (qCells ep nx gv (.slice A1 n c1) (.slice A2 m c2) t (fun i => shows (t i) (S i)))[3]? = some (.slice A1 n c1) from rfl)
  have q4 := Lib.hid (show (qCells ep nx gv (.slice A1 n c1) (.slice A2 m c2) t (fun i => shows (t i) (S i)))[4]? = some (.slice A2 m c2) from rfl)
  have hlen := h.len
  have CM := Lib.hid (fun W hr hB => clone_Msg A1 n c1 B (msgCells rd) W hr (rowCells_oneQ _) hc1 (by omega) hB)
  have CL := Lib.hid (fun W hr hB => clone_Ls A2 m c2 B (lsCells ep ls) W hr (rowCells_oneQ _) hc2 (by omega) hB)
  generalize hqc : qCells ep nx gv (.slice A1 n c1) (.slice A2 m c2) t (fun i => shows (t i) (S i)) = cs at *
  have HBD := Lib.hid hbd
  clear hbd hqc
  have H41 := Lib.hid hq41
  clear hq41 h
  go_enter Try.func12, Try.ntmps12
  go_upto_region 1 with fail
  have hz : (qCells 0 0 0 (.slice none 0 0) (.slice none 0 0) (fun _ => 0) (fun _ _ => false)) = #[.int .i64 0, .int .i64 0, .int .i64 0, .slice none 0 0, .slice none 0 0, .int .i64 0, .bool false, .bool false, .bool false, .bool false, .bool false, .bool false, .bool false, .bool false, .int .i64 0, .bool false, .bool false, .bool false, .bool false, .bool false, .bool false, .bool false, .bool false, .int .i64 0, .bool false, .bool false, .bool false, .bool false, .bool false, .bool false, .bool false, .bool false, .int .i64 0, .bool false, .bool false, .bool false, .bool false, .bool false, .bool false, .bool false, .bool false] := rfl
  rw [← hz]
  have hzs : (qCells 0 0 0 (.slice none 0 0) (.slice none 0 0) (fun _ => 0) (fun _ _ => false)).size = 41 := rfl
  clear hz
  generalize (qCells 0 0 0 (.slice none 0 0) (.slice none 0 0) (fun _ => 0) (fun _ _ => false)) = zs at *
  have H41z := Lib.hid hzs
  clear hzs
  have E0 : Blk ((((w.alloc (.cells cs 37)).alloc (.cells #[.int .i64 k, .int .i64 p, .int .i64 i, .int .i64 b, .int .i64 he, .int .i64 hno] 44)).alloc (.cells zs 37)).alloc (.cells #[.int .i64 0, .int .i64 0, .int .i64 0, .int .i64 0] 48)) w.heap.size 37 cs := (((Blk.new w _ _).alloc _).alloc _).alloc _
  have D0 : Blk ((((w.alloc (.cells cs 37)).alloc (.cells #[.int .i64 k, .int .i64 p, .int .i64 i, .int .i64 b, .int .i64 he, .int .i64 hno] 44)).alloc (.cells zs 37)).alloc (.cells #[.int .i64 0, .int .i64 0, .int .i64 0, .int .i64 0] 48)) (w.heap.size + 1) 44 _ := ((Blk.new' (w := w.alloc (.cells cs 37)) (by simp)).alloc _).alloc _
  have R0 : Blk ((((w.alloc (.cells cs 37)).alloc (.cells #[.int .i64 k, .int .i64 p, .int .i64 i, .int .i64 b, .int .i64 he, .int .i64 hno] 44)).alloc (.cells zs 37)).alloc (.cells #[.int .i64 0, .int .i64 0, .int .i64 0, .int .i64 0] 48)) (w.heap.size + 1 + 1) 37 zs := (Blk.new' (w := (w.alloc (.cells cs 37)).alloc (.cells #[.int .i64 k, .int .i64 p, .int .i64 i, .int .i64 b, .int .i64 he, .int .i64 hno] 44)) (by simp)).alloc _
  have F0 : Blk ((((w.alloc (.cells cs 37)).alloc (.cells #[.int .i64 k, .int .i64 p, .int .i64 i, .int .i64 b, .int .i64 he, .int .i64 hno] 44)).alloc (.cells zs 37)).alloc (.cells #[.int .i64 0, .int .i64 0, .int .i64 0, .int .i64 0] 48)) (w.heap.size + 1 + 1 + 1) 48 _ := Blk.new' (w := ((w.alloc (.cells cs 37)).alloc (.cells #[.int .i64 k, .int .i64 p, .int .i64 i, .int .i64 b, .int .i64 he, .int .i64 hno] 44)).alloc (.cells zs 37)) (by simp)
  have bel0 := ((((Below.refl w.heap.size w).alloc (Nat.le_refl _) (.cells cs 37)).alloc (by simp) (.cells #[.int .i64 k, .int .i64 p, .int .i64 i, .int .i64 b, .int .i64 he, .int .i64 hno] 44)).alloc (by simp; omega) (.cells zs 37)).alloc (by simp; omega) (.cells #[.int .i64 0, .int .i64 0, .int .i64 0, .int .i64 0] 48)
  have r10 := (hr.below (bel0.mono hB))
  have r20 := (hr2.below (bel0.mono hB))
  have hs0 := bel0.size
  generalize (((w.alloc (.cells cs 37)).alloc (.cells #[.int .i64 k, .int .i64 p, .int .i64 i, .int .i64 b, .int .i64 he, .int .i64 hno] 44)).alloc (.cells zs 37)).alloc (.cells #[.int .i64 0, .int .i64 0, .int .i64 0, .int .i64 0] 48) = w0 at *
  clear hr hr2
  go_wp2_with (refine wpList_load_row rfl 37 (.tmp 2) rfl w.heap.size rfl 37 cs (0, 0) _ E0 q_under rfl (by rw [q_size, H41.out]) ?_)
  refine (QC.out _ r10 r20 (by omega)).mono ?_
  rintro e w1 ⟨rfl, b1⟩
  have E1 := E0.below b1 E0.lt
  have D1 := D0.below b1 D0.lt
  have R1 := R0.below b1 R0.lt
  have F1 := F0.below b1 F0.lt
  have r11 := r10.below (b1.mono (by omega))
  have r21 := r20.below (b1.mono (by omega))
  have bel1 := bel0.trans (b1.mono hs0)
  have hs1 := bel1.size
  clear E0 D0 R0 F0 r10 r20 bel0 hs0 b1 QC
  have d0 := D1.cell 0
  have d1 := D1.cell 1
  have d2 := D1.cell 2
  have d3 := D1.cell 3
  have d4 := D1.cell 4
  have d5 := D1.cell 5
  go_wp2_with fail
  refine (EC.out _).mono ?_
  rintro e w2 ⟨rfl, b2⟩
  have E2 := E1.below b2 E1.lt
  have D2 := D1.below b2 D1.lt
  have R2 := R1.below b2 R1.lt
  have F2 := F1.below b2 F1.lt
  have r12 := r11.below (b2.mono (by omega))
  have r22 := r21.below (b2.mono (by omega))
  have bel2 := bel1.trans (b2.mono hs1)
  have hs2 := bel2.size
  clear E1 D1 R1 F1 r11 r21 bel1 hs1 b2 EC d0 d1 d2 d3 d4 d5
  have hsz := H41.out
  go_wp2_with (refine wpList_load_row rfl 37 (.tmp 2) rfl w.heap.size rfl 37 cs (0, 0) _ E2 q_under rfl (by rw [q_size, H41.out]) ?_)
  rw [HBD.out]
  have E3 := E2.alloc (.cells cs 84)
  have D3 := D2.alloc (.cells cs 84)
  have R3 := R2.alloc (.cells cs 84)
  have F3 := F2.alloc (.cells cs 84)
  have K3 := Blk.new w2 84 cs
  have r13 := r12.alloc (by omega) (.cells cs 84)
  have r23 := r22.alloc (by omega) (.cells cs 84)
  have bel3 := bel2.alloc hs2 (.cells cs 84)
  have hgR := R2.lt
  have hgF := F2.lt
  have hgD := D2.lt
  have hgE := E2.lt
  obtain ⟨gd, hgd⟩ : ∃ gd, gd = w2.heap.size := ⟨_, rfl⟩
  rw [← hgd] at K3 ⊢
  have hqd : w.heap.size < gd := by omega
  have hRd : w.heap.size + 1 + 1 < gd := by omega
  have hFd : w.heap.size + 1 + 1 + 1 < gd := by omega
  have hsd : (w2.alloc (.cells cs 84)).heap.size = gd + 1 := by simp [hgd]
  have HSD := Lib.hid hsd
  generalize w2.alloc (.cells cs 84) = wd at *
  clear E2 D2 R2 F2 r12 r22 bel2 hs2 hgd hgR hgF hgD hgE hsd hsz
  have x3 := (E3.cell 3).trans q3.out
  have x4 := (E3.cell 4).trans q4.out
  have y3 := (K3.cell 3).trans q3.out
  have y4 := (K3.cell 4).trans q4.out
  have hdz := K3.lt
  have hez := E3.lt
  have nd1 : ¬ gd = w.heap.size := by omega
  have nd2 : ¬ w.heap.size = gd := by omega
  go_region_held3 (fun W => W.cell? ⟨w.heap.size, 3, none⟩ = some (.slice A1 n c1) ∧ W.cell? ⟨w.heap.size, 4, none⟩ = some (.slice A2 m c2)) (go_keep)
    (first
      | (go_at_call 27; refine (CM.out _ r13.drew (by have := HSD.out; simp; omega)).mono ?_; rintro e w4 ⟨v4, rfl, o4, b4⟩; obtain ⟨A4, c4, rfl, hc4, _⟩ := own_shape o4; have hb4 : Below wd.heap.size wd w4 := (Below.refl _ _).drew.trans (b4.mono (by simp)); have s3 := (hb4.cell (p := ⟨w.heap.size, 3, none⟩) hez).trans x3; have s4 := (hb4.cell (p := ⟨w.heap.size, 4, none⟩) hez).trans x4; have K4 := K3.below hb4 K3.lt; have f4 := K4.frozen; have z4 := K4.lt; have k3 := (K4.cell 3).trans q3.out; have k4 := (K4.cell 4).trans q4.out; have r24 := r23.below (hb4.mono (by have := HSD.out; omega)); clear b4)
      | (go_at_call 28; refine (CL.out _ r24 (by have := HSD.out; have := hb4.size; omega)).mono ?_; rintro e w5 ⟨v5, rfl, o5, b5⟩; obtain ⟨A5, c5, rfl, hc5, _⟩ := own_shape o5; have hb5 : Below w4.heap.size w4 w5 := b5; have t3 := (hb5.cell (p := ⟨w.heap.size, 3, none⟩) (show w.heap.size < w4.heap.size from by have := hb4.size; omega)).trans s3; have t4 := (hb5.cell (p := ⟨w.heap.size, 4, none⟩) (show w.heap.size < w4.heap.size from by have := hb4.size; omega)).trans s4; have K5 := K4.below hb5 z4; have f5 := K5.frozen; have z5 := K5.lt; have l3 := (K5.cell 3).trans q3.out; have l4 := (K5.cell 4).trans q4.out; clear b5))
  have hs4 := hb4.size
  have hs5 := hb5.size
  have hsdv := HSD.out
  have o45 := own_base (base' := gd + 1) (own_below o4 hb5 (Nat.le_refl _)) (by simp; omega)
  have o55 := own_base (base' := gd + 1) o5 (by omega)
  have m1 := own_blk_ne o45 K5 (by decide)
  have m2 := own_blk_ne o55 K5 (by decide)
  have K6 := (K5.set_ 3 (.slice A4 n c4)).set_ 4 (.slice A5 m c5)
  rw [HCS.out] at K6
  have o46 := ownsRow_setCell_other (a := ⟨gd, 4, none⟩) (ownsRow_setCell_other (a := ⟨gd, 3, none⟩) o45 m1 (.slice A4 n c4)) m1 (.slice A5 m c5)
  have o56 := ownsRow_setCell_other (a := ⟨gd, 4, none⟩) (ownsRow_setCell_other (a := ⟨gd, 3, none⟩) o55 m2 (.slice A4 n c4)) m2 (.slice A5 m c5)
  have hbb : Below gd wd w5 := (hb4.mono (by omega)).trans (hb5.mono (by omega))
  have hb6 := (hbb.setCell (p := ⟨gd, 3, none⟩) (Nat.le_refl _) (.slice A4 n c4)).setCell (p := ⟨gd, 4, none⟩) (Nat.le_refl _) (.slice A5 m c5)
  have D6 := D3.below hb6 (by omega)
  have R6 := R3.below hb6 (by omega)
  have F6 := F3.below hb6 (by omega)
  have bel6 := bel3.trans (hb6.mono (by omega))
  generalize (w5.setCell ⟨gd, 3, none⟩ (.slice A4 n c4)).setCell ⟨gd, 4, none⟩ (.slice A5 m c5) = w6 at *
  clear E3 D3 R3 F3 K3 r13 r23 bel3 x3 x4 y3 y4 s3 s4 t3 t4 K4 K5 f4 f5 z4 z5 k3 k4 l3 l4 o4 o5 o45 o55 m1 m2 hbb hb6 hb4 hb5 hs4 hs5 hsdv r24 HSD hdz hez HBD HCS CM CL
  have hmm := @run_makeMap Try.prog
  have CA := Lib.hid hact
  clear hact
  obtain ⟨u1, u2, u3, u4, e1, e2, e3, e4, gg, L1, L2, L3, L4⟩ := acts_map gd w6
  have hfv : ∀ j, fv gd j = .func (.func j) #[.pointer (some ⟨gd, 0, none⟩)] #[] := fun _ => rfl
  rw [hfv] at e1 e2 e3 e4 L1 L2 L3 L4
  clear hfv
  have K7 := K6.grown gg (by simp)
  have D7 := D6.grown gg (by simp)
  have R7 := R6.grown gg (by simp)
  have F7 := F6.grown gg (by simp)
  have o47 := o46.kept gg (own_kept_none o46)
  have o57 := o56.kept gg (own_kept_none o56)
  have bel7 := bel6.grown gg bel6.size (by intro k hk; cases hk)
  have d0 := D7.cell 0
  have d1 := D7.cell 1
  have d2 := D7.cell 2
  have d3 := D7.cell 3
  have d4 := D7.cell 4
  have d5 := D7.cell 5
  have hdz := D7.lt
  clear K6 D6 R6 F6 o46 o56 bel6 gg
  have LK : (Instr.lookup 92 (.map (some w6.heap.size)) (.int .i64 k) false).run Try.prog u4 = .ok (.func (.func F) #[.pointer (some ⟨gd, 0, none⟩)] #[]) u4 := by
    rcases hkF with ⟨hk, hF⟩ | ⟨hk, hF⟩ | ⟨hk, hF⟩ | ⟨hk, hF⟩ <;> subst hk hF <;> assumption
  have HF := Lib.hid (show ∀ args W, (callFunc F args).run Try.prog W = .ok (.enter F args) W from by
    rcases hkF with ⟨_, hF⟩ | ⟨_, hF⟩ | ⟨_, hF⟩ | ⟨_, hF⟩ <;> subst hF <;> intro args W <;> rfl)
  clear hkF L1 L2 L3 L4
  go_wp2_with fail
  rw [HF.out, Oper.upon_enter]
  refine (CA.out gd _ _ _ K7 (by assumption) (by assumption)).mono ?_
  rintro e w8 ⟨rfl, hD, b8⟩
  obtain ⟨⟨A1', c1', A2', c2', K8, hc1', hc2', r18, r28, fr1, fr2⟩⟩ := hD
  have R8 := R7.below b8 hRd
  have F8 := F7.below b8 hFd
  have bel8 := bel7.trans (b8.mono (by omega))
  have K9 := K8.alloc (.cells #[.int .i64 a0, .int .i64 a1, .int .i64 a2, .int .i64 a3] 48)
  have R9 := R8.alloc (.cells #[.int .i64 a0, .int .i64 a1, .int .i64 a2, .int .i64 a3] 48)
  have F9 := F8.alloc (.cells #[.int .i64 a0, .int .i64 a1, .int .i64 a2, .int .i64 a3] 48)
  have hs9 : w8.heap.size ≤ (w8.alloc (.cells #[.int .i64 a0, .int .i64 a1, .int .i64 a2, .int .i64 a3] 48)).heap.size := by simp
  have G9 := Blk.new w8 48 #[.int .i64 a0, .int .i64 a1, .int .i64 a2, .int .i64 a3]
  have r19 := r18.alloc (Nat.le_refl _) (.cells #[.int .i64 a0, .int .i64 a1, .int .i64 a2, .int .i64 a3] 48)
  have r29 := r28.alloc (Nat.le_refl _) (.cells #[.int .i64 a0, .int .i64 a1, .int .i64 a2, .int .i64 a3] 48)
  have bel9 := bel8.alloc bel8.size (.cells #[.int .i64 a0, .int .i64 a1, .int .i64 a2, .int .i64 a3] 48)
  have hK8 := K8.lt
  have hF8 := F8.lt
  have hR8 := R8.lt
  clear K7 D7 R7 F7 o47 o57 bel7 d0 d1 d2 d3 d4 d5 hdz e1 e2 e3 e4 LK hmm b8 K8 R8 F8 r18 r28 bel8 CA
  unfold ansV
  go_upto_region 11 with fail
  obtain ⟨gn, hgn⟩ : ∃ gn, gn = w8.heap.size := ⟨_, rfl⟩
  rw [← hgn] at G9 ⊢
  have hFn : w.heap.size + 1 + 1 + 1 < gn := by omega
  have n1 : ¬ gn = w.heap.size + 1 + 1 + 1 := by omega
  have n2 : ¬ w.heap.size + 1 + 1 + 1 = gn := by omega
  have n3 : w.heap.size + 1 + 1 + 1 ≠ w.heap.size + 1 + 1 := by omega
  generalize w8.alloc (.cells #[.int .i64 a0, .int .i64 a1, .int .i64 a2, .int .i64 a3] 48) = w9 at *
  clear hgn hK8 hF8 hR8
  have h41' : (qCells ep' nx' gv' (.slice A1' rd'.length c1') (.slice A2' ls'.length c2') t' f').size = 41 := rfl
  have hall : (qCells ep' nx' gv' (.slice A1' rd'.length c1') (.slice A2' ls'.length c2') t' f').all (·.oneCell') = true := by kernel_rfl
  generalize hqq : qCells ep' nx' gv' (.slice A1' rd'.length c1') (.slice A2' ls'.length c2') t' f' = cs' at *
  have HQ' := Lib.hid hqq
  have H42 := Lib.hid h41'
  have HALL := Lib.hid hall
  clear hqq h41' hall
  have F10 : Blk (w9.drew.setRow (w.heap.size + 1 + 1) cs') (w.heap.size + 1 + 1 + 1) 48 _ := (F9.drew).setRow_far n3
  have R10 : Blk (w9.drew.setRow (w.heap.size + 1 + 1) cs') (w.heap.size + 1 + 1) 37 cs' := (R9.drew).setRow_
  refine wp_region_held_drew (S := fun W => Blk W gd 84 cs' ∧ Blk W gn 48 #[.int .i64 a0, .int .i64 a1, .int .i64 a2, .int .i64 a3]) (by kernel_rfl) ⟨K9.drew, G9.drew⟩ (fun hS0 => ?_)
  refine takeH (i := 0) (v := .pointer (some ⟨gd, 0, none⟩)) rfl (by kernel_rfl) (by kernel_rfl) (by kernel_rfl) (fun _ _ _ h => h) (Or.inl ⟨by rfl, fun W _ => by go_simp⟩) hS0 ?_
  simp only [Act.put, List.setIfInBounds_toArray, List.set_cons_zero, List.set_cons_succ]
  refine takeH (i := 1) (v := .pointer (some ⟨gd, 0, none⟩)) rfl (by kernel_rfl) (by kernel_rfl) (by kernel_rfl) (fun _ _ _ h => h) (Or.inl ⟨by rfl, fun W _ => by go_simp⟩) hS0 ?_
  simp only [Act.put, List.setIfInBounds_toArray, List.set_cons_zero, List.set_cons_succ]
  refine takeH (i := 2) (v := .pointer (some ⟨gd, 0, none⟩)) rfl (by kernel_rfl) (by kernel_rfl) (by kernel_rfl) (fun _ _ _ h => h) (Or.inl ⟨by rfl, fun W _ => by go_simp⟩) hS0 ?_
  simp only [Act.put, List.setIfInBounds_toArray, List.set_cons_zero, List.set_cons_succ]
  refine takeH (i := 3) rfl (by kernel_rfl) (by kernel_rfl) (by kernel_rfl) (fun _ _ _ h => h) (yieldsIf_load_row (by rfl) 37 (.tmp 66) rfl gd rfl 84 cs' _ (fun W hW => hW.1) q_under rfl (by rw [q_size, H42.out])) hS0 ?_
  simp only [Act.put, List.setIfInBounds_toArray, List.set_cons_zero, List.set_cons_succ]
  refine takeH (i := 4) rfl (by kernel_rfl) (by kernel_rfl) (by kernel_rfl) (fun _ _ _ h => h) (yieldsIf_load_row (by rfl) 48 (.tmp 12) rfl gn rfl 48 #[.int .i64 a0, .int .i64 a1, .int .i64 a2, .int .i64 a3] _ (fun W hW => hW.2) ans_under rfl rfl) hS0 ?_
  simp only [Act.put, List.setIfInBounds_toArray, List.set_cons_zero, List.set_cons_succ]
  refine takeH (i := 5) (v := .bool chg) rfl (by kernel_rfl) (by kernel_rfl) (by kernel_rfl) (fun _ _ _ h => h) (Or.inl ⟨by rfl, fun W _ => by go_simp⟩) hS0 ?_
  simp only [Act.put, List.setIfInBounds_toArray, List.set_cons_zero, List.set_cons_succ]
  refine oneH (i := 6) rfl (by kernel_rfl) rfl (fun K hK => ?_)
  refine wp_store_row 37 (.tmp 4) (.tmp 67) rfl (w.heap.size + 1 + 1) cs' rfl rfl 37 zs R9.drew (by rw [q_size, H42.out]) (by rw [H41z.out, H42.out]) HALL.out ?_
  refine hK _ _ ⟨K9.drew.setRow_far (by omega), G9.drew.setRow_far (by omega)⟩ (fun hS0 => ?_)
  clear hK K
  simp only [Act.put]
  refine oneH (i := 7) rfl (by kernel_rfl) rfl (fun K hK => ?_)
  refine wp_store_row 48 (.tmp 5) (.tmp 68) rfl (w.heap.size + 1 + 1 + 1) #[.int .i64 a0, .int .i64 a1, .int .i64 a2, .int .i64 a3] rfl rfl 48 _ F10 (by kernel_rfl) rfl (by kernel_rfl) ?_
  refine hK _ _ ⟨hS0.1.setRow_far (by omega), hS0.2.setRow_far (by omega)⟩ (fun hS0 => ?_)
  clear hK K
  simp only [Act.put]
  refine oneH (i := 8) rfl (by kernel_rfl) rfl (fun K hK => ?_)
  go_simp
  refine hK _ _ hS0 (fun hS0 => ?_)
  clear hK K
  refine oneH (i := 9) rfl (by kernel_rfl) rfl (fun K hK => ?_)
  go_simp
  refine hK _ _ hS0 (fun hS0 => ?_)
  clear hK K
  refine wpAnyH_done (by kernel_rfl) ?_ _
  have R11 : Blk ((w9.drew.setRow (w.heap.size + 1 + 1) cs').setRow (w.heap.size + 1 + 1 + 1) #[.int .i64 a0, .int .i64 a1, .int .i64 a2, .int .i64 a3]) (w.heap.size + 1 + 1) 37 cs' := R10.setRow_far (by omega)
  have F11 : Blk ((w9.drew.setRow (w.heap.size + 1 + 1) cs').setRow (w.heap.size + 1 + 1 + 1) #[.int .i64 a0, .int .i64 a1, .int .i64 a2, .int .i64 a3]) (w.heap.size + 1 + 1 + 1) 48 #[.int .i64 a0, .int .i64 a1, .int .i64 a2, .int .i64 a3] := F10.setRow_
  have bF := below_setRow (g := w.heap.size + 1 + 1 + 1) (cs := #[.int .i64 a0, .int .i64 a1, .int .i64 a2, .int .i64 a3]) (below_setRow (g := w.heap.size + 1 + 1) (cs := cs') bel9.drew (by omega)) (by omega)
  have hk : ∀ p : Addr, gd + 1 ≤ p.block → ((w9.drew.setRow (w.heap.size + 1 + 1) cs').setRow (w.heap.size + 1 + 1 + 1) #[.int .i64 a0, .int .i64 a1, .int .i64 a2, .int .i64 a3]).cell? p = w9.cell? p := fun p hp =>
    World.cell?_of_block ((setRow_other _ _ _ _ (by omega)).trans (setRow_other _ _ _ _ (by omega)))
  have hz : w9.heap.size ≤ ((w9.drew.setRow (w.heap.size + 1 + 1) cs').setRow (w.heap.size + 1 + 1 + 1) #[.int .i64 a0, .int .i64 a1, .int .i64 a2, .int .i64 a3]).heap.size := by simp
  generalize (w9.drew.setRow (w.heap.size + 1 + 1) cs').setRow (w.heap.size + 1 + 1 + 1) #[.int .i64 a0, .int .i64 a1, .int .i64 a2, .int .i64 a3] = wf at *
  have q1 := (reads_fresh r19 fr1 hk).more (B' := wf.heap.size) (by omega)
  have q2 := (reads_fresh r29 fr2 hk).more (B' := wf.heap.size) (by omega)
  have l4 := run_loadVar_row (P := Try.prog) wf (w.heap.size + 1 + 1) 37 37 cs' (0, 0) _ R11 q_under rfl (by rw [q_size, H42.out])
  have l5 := run_loadVar_row (P := Try.prog) wf (w.heap.size + 1 + 1 + 1) 48 48 #[.int .i64 a0, .int .i64 a1, .int .i64 a2, .int .i64 a3] (0, 0) _ F11 ans_under rfl rfl
  have hfin := Lib.hid (show DoPost w (ansV a0 a1 a2 a3) chg ep' nx' gv' rd' ls' t' f' (.returned (.tuple #[.agg cs', ansV a0 a1 a2 a3, .bool chg, .int .i64 0])) wf from ⟨A1', c1', A2', c2', by rw [HQ'.out], hc1', hc2', q1, q2, fun ad e => by have := fr1 ad e; omega, fun ad e => by have := fr2 ad e; omega, bF⟩)
  clear hk q1 q2 bF r19 r29 bel9 hz hS0 F10 R10 F9 R9 K9 G9
  go_wp2_with fail
  exact bodyPost_ret (v := .tuple #[.agg cs', ansV a0 a1 a2 a3, .bool chg, .int .i64 0]) (by simp [results, Try.results12, asAddr, l4, l5, ansV]) rfl hfin.out

end Go.Proofs.Ytjmncbfmjeeneaa

namespace Go.Proofs.Ytjmncbfmjeeneaa
open Go.RowKit

/-- the value v is the queue q; its slices lie at lo or above, below B -/
def QIs (w : World) (lo B : Nat) (q : QM) (v : Value) : Prop :=
  ∃ A1 c1 A2 c2, v = .agg (qCells q.ep q.nx q.gv (.slice A1 q.rd.length c1) (.slice A2 q.ls.length c2) q.t (fun i => shows (q.t i) (q.S i))) ∧ q.rd.length ≤ c1 ∧ q.ls.length ≤ c2 ∧
    Reads w B 2 A1 q.rd.length (msgCells q.rd) ∧ Reads w B 4 A2 q.ls.length (lsCells q.ep q.ls) ∧ Fresh lo A1 ∧ Fresh lo A2
def StepPost (w : World) (q : QM) (a : QA) (chg : Bool) (e : Ending) (w' : World) : Prop :=
  ∃ v', e = .returned (.tuple #[v', a.val, .bool chg, .int .i64 0]) ∧ QIs w' w.heap.size w'.heap.size q v' ∧ Below w.heap.size w w'

theorem DoPost.step {w w' : World} {q : QM} {a : QA} {chg : Bool} {e : Ending} (h : DoPost w a.val chg q.ep q.nx q.gv q.rd q.ls q.t (fun i => shows (q.t i) (q.S i)) e w') : StepPost w q a chg e w' := by
  obtain ⟨A1, c1, A2, c2, he, h1, h2, h3, h4, h5, h6, h7⟩ := h
  exact ⟨_, he, ⟨A1, c1, A2, c2, rfl, h1, h2, h3, h4, h5, h6⟩, h7⟩

theorem shows_setF (t : Nat → Int) (S : Nat → Int → Bool) (p : Nat) (T : Int) (S' : Int → Bool) :
    setF (fun i => shows (t i) (S i)) p (shows T S') = fun i => shows (setF t p T i) (setF S p S' i) := by
  funext i
  unfold setF
  split <;> rfl
theorem eraseP_cut (no : Int) : ∀ (l : List (Int × Int × Int)), l.any (isNo no) = true → ∃ k, k < l.length ∧ (l.getD k (0, 0, 0)).1 = no ∧ (∀ t, t < k → (l.getD t (0, 0, 0)).1 ≠ no) ∧ l.take k ++ l.drop (k + 1) = l.eraseP (isNo no)
  | [], h => by simp at h
  | x :: l, h => by
    by_cases hx : x.1 = no
    · exact ⟨0, by simp, by simpa using hx, fun t ht => by omega, by simp [isNo, hx]⟩
    · have hf : isNo no x = false := by simp [isNo, hx]
      rw [List.any_cons, hf, Bool.false_or] at h
      obtain ⟨k, h1, h2, h3, h4⟩ := eraseP_cut no l h
      refine ⟨k + 1, by simp; omega, by simpa using h2, fun t ht => ?_, ?_⟩
      · cases t with
        | zero => simpa using hx
        | succ t => simpa using h3 t (by omega)
      · rw [List.eraseP_cons_of_neg (by simp [hf]), ← h4]
        simp
theorem any_none (no : Int) (l : List (Int × Int × Int)) (h : l.any (isNo no) = false) (t : Nat) (ht : t < l.length) : (l.getD t (0, 0, 0)).1 ≠ no := by
  have e : l.getD t (0, 0, 0) = l[t] := by simp [List.getD, List.getElem?_eq_getElem ht]
  rw [e]
  have := List.any_eq_false.1 h _ (List.getElem_mem ht)
  simpa [isNo] using this
theorem prod_nat {e : Ev} (h0 : 0 ≤ e.prod) (h1 : e.prod ≤ 3) : ∃ p : Nat, p < 4 ∧ e.prod = (p : Int) ∧ e.prod.toNat = p := ⟨e.prod.toNat, by omega, by omega, rfl⟩
def EndOk (q : QM) : Prop :=
  ∀ g W v1 v2 ev, Blk W g 84 (qCells q.ep q.nx q.gv v1 v2 q.t (fun i => shows (q.t i) (q.S i))) → W.ownsRow (g + 1) 87 2 v1 q.rd.length (msgCells q.rd) → W.ownsRow (g + 1) 90 4 v2 q.ls.length (lsCells q.ep q.ls) →
    Calls Try.prog 32 #[.pointer (some ⟨g, 0, none⟩), .agg ev] W (ActPost g W (ansV 0 0 0 0) true q.endAll.ep q.endAll.nx q.endAll.gv q.endAll.rd q.endAll.ls q.endAll.t (fun i => shows (q.endAll.t i) (q.endAll.S i)))

set_option maxRecDepth 100000 in
set_option maxHeartbeats 4000000 in
theorem do_step (q : QM) (e : Ev) (v : Value) (lo B : Nat) (w : World) (hi : q.Inv) (hr : q.Room 1) (he : e.check = 0) (hv : QIs w lo B q v) (hB : B ≤ w.heap.size) (hend : e.kind = 4 → EndOk q) :
    Calls Try.prog 12 #[v, e.val] w (StepPost w (q.step e).1 (q.step e).2.1 (q.step e).2.2) := by
  obtain ⟨A1, c1, A2, c2, rfl, hc1, hc2, r1, r2, _, _⟩ := hv
  have hok := hi.ok (hr.less (Nat.zero_le 1))
  have hE := he
  obtain ⟨k, pr, id, body, hep, hno⟩ := e
  obtain ⟨s1, s2, s3, s4⟩ := hr
  have hn0 := hi.n0
  have hg0 := hi.g0
  rcases check_kinds he with hk | hk | hk | hk
  · obtain ⟨b1, b2, b3, b4, b5, b6, b7, b8⟩ := check_pub he hk
    obtain ⟨p, hp, hpp, hpn⟩ := prod_nat b1 b2
    simp only at hk hpp b3 b4 b5 b6 b7 b8
    subst hk hpp b7 b8
    have hstep : q.step ⟨1, p, id, body, 0, 0⟩ = if id < q.t p - 8 then (q, ⟨9, 0, 0, 0⟩, false) else if q.S p id then (q, ⟨0, 0, 0, 0⟩, false) else (q.pub p id body, ⟨0, 0, 0, 0⟩, true) := by
      simp [QM.step]
    rw [hstep]
    have hW := hi.win p hp
    by_cases hlow : id < q.t p - 8
    · rw [if_pos hlow]
      refine (do_ok q.ep q.nx q.gv q.rd q.ls q.t q.S A1 A2 _ _ c1 c2 B w hok rfl rfl r1 r2 hB hc1 hc2 1 p id body 0 0 hE _ (.inl ⟨rfl, rfl⟩) 9 0 0 0 q.ep q.nx q.gv false q.rd q.ls q.t (fun i => shows (q.t i) (q.S i)) fun g W v1 v2 hg o1 o2 => ?_).mono fun _ _ h => DoPost.step (a := ⟨9, 0, 0, 0⟩) h
      exact publish_not q.ep q.nx q.gv q.rd q.ls q.t _ g _ _ p v1 v2 id body 0 9 (fun _ => false) W hg rfl rfl hp o1 o2 (fun W => wtake_low (q.t p) (q.S p) id W hW b3 b4 hlow) (.inr rfl)
    · rw [if_neg hlow]
      by_cases hs : q.S p id = true
      · rw [if_pos hs]
        refine (do_ok q.ep q.nx q.gv q.rd q.ls q.t q.S A1 A2 _ _ c1 c2 B w hok rfl rfl r1 r2 hB hc1 hc2 1 p id body 0 0 hE _ (.inl ⟨rfl, rfl⟩) 0 0 0 0 q.ep q.nx q.gv false q.rd q.ls q.t (fun i => shows (q.t i) (q.S i)) fun g W v1 v2 hg o1 o2 => ?_).mono fun _ _ h => DoPost.step (a := ⟨0, 0, 0, 0⟩) h
        exact publish_not q.ep q.nx q.gv q.rd q.ls q.t _ g _ _ p v1 v2 id body (q.t p) 0 (shows (q.t p) (q.S p)) W hg rfl rfl hp o1 o2 (fun W => wtake_seen (q.t p) (q.S p) id W hW b3 b4 (by omega) hs) (.inl rfl)
      · rw [if_neg hs]
        refine (do_ok q.ep q.nx q.gv q.rd q.ls q.t q.S A1 A2 _ _ c1 c2 B w hok rfl rfl r1 r2 hB hc1 hc2 1 p id body 0 0 hE _ (.inl ⟨rfl, rfl⟩) 0 0 0 0 q.ep (q.nx + 1) q.gv true (q.rd ++ [(q.nx, body)]) q.ls (setF q.t p (max (q.t p) (id + 1))) (fun i => shows (setF q.t p (max (q.t p) (id + 1)) i) (setF q.S p (fun x => q.S p x || x == id) i)) fun g W v1 v2 hg o1 o2 => ?_).mono fun _ _ h => DoPost.step (q := q.pub p id body) (a := ⟨0, 0, 0, 0⟩) h
        rw [← shows_setF]
        exact publish_ok q.ep q.nx q.gv q.rd q.ls q.t _ (q.S p) g _ _ p v1 v2 id body _ W hg rfl rfl hp o1 o2 (by omega) hn0 (by omega) rfl hW b3 b4 (by omega) (by simpa using hs) rfl
  · obtain ⟨b1, b2, b3, b4, b5⟩ := check_rest he (.inl hk)
    simp only at hk b1 b2 b3 b4 b5
    subst hk b1 b2 b3 b4 b5
    have hstep : q.step ⟨2, 0, 0, 0, 0, 0⟩ = q.recv := by simp [QM.step]
    rw [hstep]
    obtain hrd | ⟨m, rd, hrd⟩ : q.rd = [] ∨ ∃ m rd, q.rd = m :: rd := by cases q.rd <;> simp
    · have hrc : q.recv = (q, ⟨10, 0, 0, 0⟩, false) := by simp [QM.recv, hrd]
      rw [hrc]
      refine (do_ok q.ep q.nx q.gv q.rd q.ls q.t q.S A1 A2 _ _ c1 c2 B w hok rfl rfl r1 r2 hB hc1 hc2 2 0 0 0 0 0 hE _ (.inr (.inl ⟨rfl, rfl⟩)) 10 0 0 0 q.ep q.nx q.gv false q.rd q.ls q.t (fun i => shows (q.t i) (q.S i)) fun g W v1 v2 hg o1 o2 => ?_).mono fun _ _ h => DoPost.step (a := ⟨10, 0, 0, 0⟩) h
      rw [hrd] at o1
      have e := receive_not q.ep q.nx q.gv q.ls q.t (fun i => shows (q.t i) (q.S i)) g _ v1 v2 #[.int .i64 2, .int .i64 0, .int .i64 0, .int .i64 0, .int .i64 0, .int .i64 0] W hg rfl o1 o2
      rw [← hrd] at e
      exact e
    · have hrc : q.recv = (⟨q.ep, q.nx, q.gv + 1, rd, q.ls ++ [(q.gv, m.1, m.2)], q.t, q.S⟩, ⟨0, q.ep, q.gv, m.2⟩, true) := by simp [QM.recv, hrd]
      rw [hrc]
      refine (do_ok q.ep q.nx q.gv q.rd q.ls q.t q.S A1 A2 _ _ c1 c2 B w hok rfl rfl r1 r2 hB hc1 hc2 2 0 0 0 0 0 hE _ (.inr (.inl ⟨rfl, rfl⟩)) 0 q.ep q.gv m.2 q.ep q.nx (q.gv + 1) true rd (q.ls ++ [(q.gv, m.1, m.2)]) q.t (fun i => shows (q.t i) (q.S i)) fun g W v1 v2 hg o1 o2 => ?_).mono fun _ _ h => DoPost.step (q := ⟨q.ep, q.nx, q.gv + 1, rd, q.ls ++ [(q.gv, m.1, m.2)], q.t, q.S⟩) (a := ⟨0, q.ep, q.gv, m.2⟩) h
      have hlen : q.rd.length = (m :: rd).length := by rw [hrd]
      rw [hrd] at o1
      exact receive_ok q.ep q.nx q.gv m rd q.ls q.t _ g _ _ v1 v2 _ W hg rfl rfl o1 o2 (by omega) hg0 (by omega)
  · obtain ⟨b1, b2, b3, b4, b5, b6, b7⟩ := check_ack he hk
    simp only at hk b1 b2 b3 b4 b5 b6 b7
    subst hk b5 b6 b7
    have hstep : q.step ⟨3, 0, 0, 0, hep, hno⟩ = if hep = q.ep then (if q.ls.any (isNo hno) then (q.ack hno, ⟨0, 0, 0, 0⟩, true) else (q, ⟨7, 0, 0, 0⟩, false)) else (q, ⟨11, 0, 0, 0⟩, false) := by
      simp [QM.step]
    rw [hstep]
    by_cases hep' : hep = q.ep
    · rw [if_pos hep']
      subst hep'
      by_cases ha : q.ls.any (isNo hno) = true
      · rw [if_pos ha]
        obtain ⟨k, hk1, hk2, hk3, hk4⟩ := eraseP_cut hno q.ls ha
        refine (do_ok q.ep q.nx q.gv q.rd q.ls q.t q.S A1 A2 _ _ c1 c2 B w hok rfl rfl r1 r2 hB hc1 hc2 3 0 0 0 q.ep hno hE _ (.inr (.inr (.inl ⟨rfl, rfl⟩))) 0 0 0 0 q.ep q.nx q.gv true q.rd (q.ls.eraseP (isNo hno)) q.t (fun i => shows (q.t i) (q.S i)) fun g W v1 v2 hg o1 o2 => ?_).mono fun _ _ h => DoPost.step (q := q.ack hno) (a := ⟨0, 0, 0, 0⟩) h
        rw [← hk4]
        exact ack_ok q.ep q.nx q.gv q.rd q.ls q.t _ g _ _ k v1 v2 3 0 0 0 hno W hg rfl rfl o1 o2 (by omega) hk1 hk2 hk3
      · rw [if_neg ha]
        refine (do_ok q.ep q.nx q.gv q.rd q.ls q.t q.S A1 A2 _ _ c1 c2 B w hok rfl rfl r1 r2 hB hc1 hc2 3 0 0 0 q.ep hno hE _ (.inr (.inr (.inl ⟨rfl, rfl⟩))) 7 0 0 0 q.ep q.nx q.gv false q.rd q.ls q.t (fun i => shows (q.t i) (q.S i)) fun g W v1 v2 hg o1 o2 => ?_).mono fun _ _ h => DoPost.step (a := ⟨7, 0, 0, 0⟩) h
        exact ack_none q.ep q.nx q.gv q.rd q.ls q.t _ g _ _ v1 v2 3 0 0 0 hno W hg rfl rfl o1 o2 (by omega) fun t ht => any_none hno q.ls (by simpa using ha) t ht
    · rw [if_neg hep']
      refine (do_ok q.ep q.nx q.gv q.rd q.ls q.t q.S A1 A2 _ _ c1 c2 B w hok rfl rfl r1 r2 hB hc1 hc2 3 0 0 0 hep hno hE _ (.inr (.inr (.inl ⟨rfl, rfl⟩))) 11 0 0 0 q.ep q.nx q.gv false q.rd q.ls q.t (fun i => shows (q.t i) (q.S i)) fun g W v1 v2 hg o1 o2 => ?_).mono fun _ _ h => DoPost.step (a := ⟨11, 0, 0, 0⟩) h
      exact ack_stale q.ep q.nx q.gv q.rd q.ls q.t _ g _ _ v1 v2 3 0 0 0 hep hno W hg rfl rfl o1 o2 hep'
  · obtain ⟨b1, b2, b3, b4, b5⟩ := check_rest he (.inr hk)
    simp only at hk b1 b2 b3 b4 b5
    subst hk b1 b2 b3 b4 b5
    have hstep : q.step ⟨4, 0, 0, 0, 0, 0⟩ = (q.endAll, ⟨0, 0, 0, 0⟩, true) := by simp [QM.step]
    rw [hstep]
    refine (do_ok q.ep q.nx q.gv q.rd q.ls q.t q.S A1 A2 _ _ c1 c2 B w hok rfl rfl r1 r2 hB hc1 hc2 4 0 0 0 0 0 hE _ (.inr (.inr (.inr ⟨rfl, rfl⟩))) 0 0 0 0 q.endAll.ep q.endAll.nx q.endAll.gv true q.endAll.rd q.endAll.ls q.endAll.t (fun i => shows (q.endAll.t i) (q.endAll.S i)) fun g W v1 v2 hg o1 o2 => ?_).mono fun _ _ h => DoPost.step (q := q.endAll) (a := ⟨0, 0, 0, 0⟩) h
    exact hend rfl g W v1 v2 _ hg o1 o2

end Go.Proofs.Ytjmncbfmjeeneaa

namespace Go.Proofs.Ytjmncbfmjeeneaa
open Go.RowKit Go.Maps

theorem Reads.offB {w : World} {B size n : Nat} {A : Option Addr} {xs : List Value} (h : Reads w B size A n xs) {p : Addr} (hA : ∀ ad, A = some ad → ad.block ≠ p.block) (u : Value) : Reads (w.setCell p u) B size A n xs :=
  ⟨h.1, fun hn => by
    obtain ⟨ad, e, hb, hc⟩ := h.2 hn
    have := hA ad e
    exact ⟨ad, e, hb, fun j v hv => (World.cell?_setCell_other w p _ u (fun e => by
      have h3 := congrArg Addr.block e
      rw [block_of_add] at h3
      omega)).trans (hc j v hv)⟩⟩

set_option maxRecDepth 100000 in
set_option maxHeartbeats 4000000 in
theorem end_ok (ep nx gv : Int) (rd : List (Int × Int)) (ls : List (Int × Int × Int)) (t : Nat → Int) (f : Nat → Nat → Bool) (g n m : Nat) (v1 v2 : Value) (ev : Array Value) (w : World)
    (E : Blk w g 84 (qCells ep nx gv v1 v2 t f)) (hn : rd.length = n) (hm : ls.length = m)
    (o1 : w.ownsRow (g + 1) 87 2 v1 n (msgCells rd)) (o2 : w.ownsRow (g + 1) 90 4 v2 m (lsCells ep ls)) (hlen : n + m ≤ 500) (he0 : 0 ≤ ep) (he1 : ep < 1048576)
    (hd : ((rd ++ ls.map Prod.snd).map Prod.fst).Nodup) :
    Calls Try.prog 32 #[.pointer (some ⟨g, 0, none⟩), .agg ev] w (ActPost g w (ansV 0 0 0 0) true (ep + 1) nx 0 ((rd ++ ls.map Prod.snd).mergeSort byNo) [] t f) := by
  obtain ⟨i0, hi0, hz0, hz1, hz2⟩ := info_parts msg_info
  obtain ⟨A1, c1, rfl, hc1, _⟩ := own_shape o1
  obtain ⟨A2, c2, rfl, hc2, _⟩ := own_shape o2
  have hgl := E.lt
  have E0 := (E.alloc (.cells ev 44)).alloc (.cells #[.int .i64 0, .int .i64 0, .int .i64 0, .int .i64 0] 48)
  have o1' := (o1.alloc (.cells ev 44)).alloc (.cells #[.int .i64 0, .int .i64 0, .int .i64 0, .int .i64 0] 48)
  have o2' := (o2.alloc (.cells ev 44)).alloc (.cells #[.int .i64 0, .int .i64 0, .int .i64 0, .int .i64 0] 48)
  have F0 := Blk.new' (w := w.alloc (.cells ev 44)) (g := w.heap.size + 1) (t := 48) (cs := #[.int .i64 0, .int .i64 0, .int .i64 0, .int .i64 0]) (by simp)
  have bel0 := ((Below.refl g w).alloc (Nat.le_of_lt hgl) (.cells ev 44)).alloc (by simp; omega) (.cells #[.int .i64 0, .int .i64 0, .int .i64 0, .int .i64 0] 48)
  have HP := Lib.hid (show ∀ w', DeskIs w' g (ep + 1) nx 0 ((rd ++ ls.map Prod.snd).mergeSort byNo) [] t f → Below g w w' → ActPost g w (ansV 0 0 0 0) true (ep + 1) nx 0 ((rd ++ ls.map Prod.snd).mergeSort byNo) [] t f (.returned (.tuple #[ansV 0 0 0 0, .bool true])) w' from fun w' a b => ⟨rfl, a, b⟩)
  generalize ActPost g w (ansV 0 0 0 0) true (ep + 1) nx 0 ((rd ++ ls.map Prod.snd).mergeSort byNo) [] t f = POST at *
  clear o1 o2 E
  have HD := Lib.hid hd
  clear hd
  go_enter Try.func32, Try.ntmps32
  go_upto_region 1 with fail
  obtain ⟨ga, hga⟩ : ∃ ga, ga = w.heap.size + 1 := ⟨_, rfl⟩
  have hgga : g < ga := by omega
  rw [← hga] at F0 ⊢
  generalize (w.alloc (.cells ev 44)).alloc (.cells #[.int .i64 0, .int .i64 0, .int .i64 0, .int .i64 0] 48) = w0 at *
  clear hga hgl
  obtain ⟨x0, x1, x2, x3, x4⟩ := qBlk E0
  have hgz := E0.lt
  have hep : (ep == 1048576) = false := by rw [beq_eq_false_iff_ne]; omega
  have hep2 : decide (ep = 1048576) = false := decide_eq_false (by omega)
  have i1 : IntKind.i64.wrap (ep + 1) = ep + 1 := IntWalk.i64_in _ (by omega)
  have nga : ¬ ga = g := by omega
  have nga' : ¬ g = ga := by omega
  go_wp2_with fail
  have o1s : w0.ownsRow (g + 1) 87 2 (.slice A1 (n + 0) c1) (n + 0) (msgCells (rd ++ (ls.map Prod.snd).take 0)) := by simpa using o1'
  clear x0 x1 x2 x3 x4 hgz hep hep2
  go_loopw [21] (fun s21 wr => ∃ (k : Nat) (A : Option Addr) (c : Nat), k ≤ m ∧ s21 = .int .i64 k ∧ Blk wr g 84 (qCells ep nx gv (.slice A (n + k) c) (.slice A2 m c2) t f) ∧ Blk wr ga 48 #[.int .i64 0, .int .i64 0, .int .i64 0, .int .i64 0] ∧
      wr.ownsRow (g + 1) 87 2 (.slice A (n + k) c) (n + k) (msgCells (rd ++ (ls.map Prod.snd).take k)) ∧ wr.ownsRow (g + 1) 90 4 (.slice A2 m c2) m (lsCells ep ls) ∧ Below g w wr) (fun s21 _ => m - (intOf s21).toNat)
  case atStart => exact ⟨0, A1, c1, by omega, rfl, E0, F0, o1s, o2', bel0⟩
  case round =>
    clear E0 F0 o1s o1' o2' bel0
    obtain ⟨k, A, c, hk, rfl, E, F, oM, oL, bel⟩ := hrel
    by_cases hcond : k < m
    · have hI1 : (k : Int) < (m : Int) := by omega
      have hk0 : (0 : Int) ≤ (k : Int) := by omega
      have hmc2 : (m : Int) ≤ (c2 : Int) := by omega
      have i2 : IntKind.i64.wrap ((k : Int) + 1) = (k : Int) + 1 := IntWalk.i64_in _ (by omega)
      obtain ⟨b, off, hA, hb, y0, y1, y2, y3⟩ := lsAt (Reads.of_own oL) hm hcond
      have htake : (ls.map Prod.snd).take (k + 1) = (ls.map Prod.snd).take k ++ [(ls.getD k (0, 0, 0)).2] := by
        rw [List.take_add_one]
        have : (ls.map Prod.snd)[k]? = some (ls.getD k (0, 0, 0)).2 := by
          rw [List.getElem?_map, List.getElem?_eq_getElem (show k < ls.length by omega), List.getD, List.getElem?_eq_getElem (show k < ls.length by omega)]
          rfl
        rw [this]
        rfl
      have HT := Lib.hid (show msgCells (rd ++ (ls.map Prod.snd).take k) ++ [.int .i64 (ls.getD k (0, 0, 0)).2.1, .int .i64 (ls.getD k (0, 0, 0)).2.2] = msgCells (rd ++ (ls.map Prod.snd).take (k + 1)) from by
        rw [htake, ← List.append_assoc, show (ls.getD k (0, 0, 0)).2 = ((ls.getD k (0, 0, 0)).2.1, (ls.getD k (0, 0, 0)).2.2) from rfl, msgCells_snoc])
      clear htake
      generalize (ls.getD k (0, 0, 0)).1 = l1 at *
      generalize (ls.getD k (0, 0, 0)).2.1 = l2 at *
      generalize (ls.getD k (0, 0, 0)).2.2 = l3 at *
      subst hA
      obtain ⟨x0, x1, x2, x3, x4⟩ := qBlk E
      have hgz := E.lt
      go_upto_region 6 with fail
      have E5 := E.alloc (.cells #[.int .i64 ep, .int .i64 l1, .int .i64 l2, .int .i64 l3] 90)
      have L5 := Blk.new wr 90 #[.int .i64 ep, .int .i64 l1, .int .i64 l2, .int .i64 l3]
      have F5 := F.alloc (.cells #[.int .i64 ep, .int .i64 l1, .int .i64 l2, .int .i64 l3] 90)
      have oM5 := oM.alloc (.cells #[.int .i64 ep, .int .i64 l1, .int .i64 l2, .int .i64 l3] 90)
      have oL5 := oL.alloc (.cells #[.int .i64 ep, .int .i64 l1, .int .i64 l2, .int .i64 l3] 90)
      have bel5 := bel.alloc (Nat.le_of_lt hgz) (.cells #[.int .i64 ep, .int .i64 l1, .int .i64 l2, .int .i64 l3] 90)
      obtain ⟨gl, hgl⟩ : ∃ gl, gl = wr.heap.size := ⟨_, rfl⟩
      have ngl : ¬ gl = g := by omega
      have ngl' : ¬ g = gl := by omega
      rw [← hgl] at L5 ⊢
      generalize wr.alloc (.cells #[.int .i64 ep, .int .i64 l1, .int .i64 l2, .int .i64 l3] 90) = w5 at *
      clear x0 x1 x2 x3 x4 y0 y1 y2 y3 hb hgz E F oM oL bel hgl
      obtain ⟨x0, x1, x2, x3, x4⟩ := qBlk E5
      have hgf := E5.frozen
      have hgz := E5.lt
      have l0 := L5.cell 0
      have l1' := L5.cell 1
      have l2' := L5.cell 2
      have l3' := L5.cell 3
      have hlz := L5.lt
      obtain ⟨c', rfl⟩ : ∃ c', c' = c := ⟨_, rfl⟩
      obtain ⟨_, _, hA, hcc, _⟩ := own_shape oM5
      cases hA
      have OD : w5.drew.ownsRow (g + 1) 87 2 (.slice A (n + k) c') (n + k) (msgCells (rd ++ (ls.map Prod.snd).take k)) := oM5
      have o7 := OD.alloc (.cells #[.int .i64 l2, .int .i64 l3] 87)
      have rR := reads_oneQ w5.drew 87 #[.int .i64 l2, .int .i64 l3] 2 rfl
      have E7 : Blk (w5.drew.alloc (.cells #[.int .i64 l2, .int .i64 l3] 87)) g 84 _ := (E5.drew).alloc (.cells #[.int .i64 l2, .int .i64 l3] 87)
      have F7 : Blk (w5.drew.alloc (.cells #[.int .i64 l2, .int .i64 l3] 87)) ga 48 _ := (F5.drew).alloc (.cells #[.int .i64 l2, .int .i64 l3] 87)
      have o27 : (w5.drew.alloc (.cells #[.int .i64 l2, .int .i64 l3] 87)).ownsRow (g + 1) 90 4 (.slice (some ⟨b, off, none⟩) m c2) m (lsCells ep ls) := (show w5.drew.ownsRow (g + 1) 90 4 (.slice (some ⟨b, off, none⟩) m c2) m (lsCells ep ls) from oL5).alloc (.cells #[.int .i64 l2, .int .i64 l3] 87)
      have bel7 : Below g w (w5.drew.alloc (.cells #[.int .i64 l2, .int .i64 l3] 87)) := bel5.drew.alloc (Nat.le_of_lt hgz) (.cells #[.int .i64 l2, .int .i64 l3] 87)
      have ne7 := own_blk_ne o7 E7 (by decide)
      have neF := own_blk_ne o7 F7 (by decide)
      have neL := own_rows_ne o27 o7 (by decide)
      go_region_law (first
        | (refine step_append_any _ rfl (.tmp 30) (.tmp 33) _ rfl (g + 1) 87 i0 _ 2 16 Try.underlying30 hi0 hz0 hz1 hz2 rfl (by omega) (.slice A (n + k) c') (n + k) (msgCells (rd ++ (ls.map Prod.snd).take k)) rfl o7 _ _ 1 1 _ rfl rR (by intro u hu; simp at hu; rcases hu with h | h <;> subst h <;> rfl) (by simp only [maxLen]; omega) (by omega) (by simp; omega) ?_; intro v8 w8 o8 g8 at8; obtain ⟨A8, c8, rfl, hc8, _⟩ := own_shape o8; have E8 := E7.grown g8 (fun h => ne7 h.symm); have F8 := F7.grown g8 (fun h => neF h.symm); have o28 := o27.kept g8 neL; have bel8 := bel7.grown g8 (by simp; omega) (fun k hk => by have := own_blk_geQ o7 k hk; omega); have f8 := E8.frozen; have z8 := E8.lt; have q8 : w8.cell? ⟨g, 3, none⟩ = some (.slice A (n + k) c') := (qBlk E8).2.2.2.1))
      all_goals
        have o9 := ownsRow_setCell_other (a := ⟨g, 3, none⟩) o8 (own_blk_ne o8 E8 (by decide)) (.slice A8 (n + k + 1) c8)
        have o29 := ownsRow_setCell_other (a := ⟨g, 3, none⟩) o28 (own_blk_ne o28 E8 (by decide)) (.slice A8 (n + k + 1) c8)
        have E9 := E8.set_ 3 (.slice A8 (n + k + 1) c8)
        rw [qset3] at E9
        have F9 := F8.far (p := ⟨g, 3, none⟩) nga (.slice A8 (n + k + 1) c8)
        have bel9 := bel8.setCell (p := ⟨g, 3, none⟩) (Nat.le_refl _) (.slice A8 (n + k + 1) c8)
        have e9 : (#[Value.int .i64 l2, .int .i64 l3] : Array Value).toList = [.int .i64 l2, .int .i64 l3] := rfl
        rw [e9, HT.out] at o9
        generalize w8.setCell ⟨g, 3, none⟩ (.slice A8 (n + k + 1) c8) = w9 at *
        clear x0 x1 x2 x3 x4 hgf hgz l0 l1' l2' l3' hlz E7 F7 E5 F5 L5 oM5 oL5 OD o7 o27 rR bel5 bel7 ne7 neF neL HT E8 F8 o8 o28 bel8 f8 z8 q8 g8 at8
        go_wp2_with fail
        go_roundw
        case rel => exact ⟨k + 1, A8, c8, by omega, by go_num, E9, F9, o9, o29, bel9⟩
        case measure => simp [intOf]; omega
    · have hI1 : ¬ (k : Int) < (m : Int) := by omega
      have hkm : k = m := by omega
      subst hkm
      have htk : (ls.map Prod.snd).take k = ls.map Prod.snd := List.take_of_length_le (by simp; omega)
      rw [htk] at oM
      obtain ⟨x0, x1, x2, x3, x4⟩ := qBlk E
      have hgz := E.lt
      have neF := own_blk_ne oM F (by decide)
      have neE := own_blk_ne oM E (by decide)
      have hlL : (rd ++ ls.map Prod.snd).length = n + k := by simp; omega
      have CS := Lib.hid (sort_msgs (rd ++ ls.map Prod.snd) (.slice A (n + k) c) (n + k) (g + 1) wr oM hlL HD.out (by omega))
      have hnb := own_blk_geQ oM
      have hAa : ∀ ad, A = some ad → ad.block ≠ ga := fun ad e h => neF (by subst e; simp [Value.ownBlock, h])
      clear oM oL
      go_wp2_with fail
      refine (CS.out).mono ?_
      rintro e w2 ⟨rfl, A3, c3, row, hv, hc3, hgr, hrow, r3, fr3⟩
      rw [hlL] at hv hc3 r3
      cases hv
      have E2 := E.grown hgr (fun h => neE (hrow _ h.symm))
      have F2 := F.grown hgr (fun h => neF (hrow _ h.symm))
      have bel2 := bel.grown hgr (by omega) (fun j hj => by have := hnb j (hrow _ hj); omega)
      clear x0 x1 x2 x3 x4 hgz E F bel CS hgr hrow neF neE hnb
      obtain ⟨x0, x1, x2, x3, x4⟩ := qBlk E2
      have hgf := E2.frozen
      have hgz := E2.lt
      have f0 := F2.cell 0
      have f1 := F2.cell 1
      have f2 := F2.cell 2
      have f3 := F2.cell 3
      have ff := F2.frozen
      have fz := F2.lt
      have EF := (E2.set_ 4 (.slice none 0 0))
      rw [qset4] at EF
      have EF2 := EF.set_ 0 (.int .i64 (ep + 1))
      rw [qset0] at EF2
      have EF3 := EF2.set_ 2 (.int .i64 0)
      rw [qset2] at EF3
      have EFF := (((EF3.far (p := ⟨ga, 0, none⟩) nga' (.int .i64 0)).far (p := ⟨ga, 1, none⟩) nga' (.int .i64 0)).far (p := ⟨ga, 2, none⟩) nga' (.int .i64 0)).far (p := ⟨ga, 3, none⟩) nga' (.int .i64 0)
      have bF := ((((((bel2.setCell (p := ⟨g, 4, none⟩) (Nat.le_refl _) (.slice none 0 0)).setCell (p := ⟨g, 0, none⟩) (Nat.le_refl _) (.int .i64 (ep + 1))).setCell (p := ⟨g, 2, none⟩) (Nat.le_refl _) (.int .i64 0)).setCell (p := ⟨ga, 0, none⟩) (Nat.le_of_lt hgga) (.int .i64 0)).setCell (p := ⟨ga, 1, none⟩) (Nat.le_of_lt hgga) (.int .i64 0)).setCell (p := ⟨ga, 2, none⟩) (Nat.le_of_lt hgga) (.int .i64 0)).setCell (p := ⟨ga, 3, none⟩) (Nat.le_of_lt hgga) (.int .i64 0)
      have hAg : ∀ ad, A = some ad → ad.block ≠ g := fun ad e => by have := fr3 ad e; omega
      have hrF := ((((((r3.offB (p := ⟨g, 4, none⟩) hAg (.slice none 0 0)).offB (p := ⟨g, 0, none⟩) hAg (.int .i64 (ep + 1))).offB (p := ⟨g, 2, none⟩) hAg (.int .i64 0)).offB (p := ⟨ga, 0, none⟩) hAa (.int .i64 0)).offB (p := ⟨ga, 1, none⟩) hAa (.int .i64 0)).offB (p := ⟨ga, 2, none⟩) hAa (.int .i64 0)).offB (p := ⟨ga, 3, none⟩) hAa (.int .i64 0)
      have hl2 : ((rd ++ ls.map Prod.snd).mergeSort byNo).length = n + k := by rw [List.length_mergeSort]; exact hlL
      have hfin := Lib.hid (HP.out _ ⟨A, c, none, 0, by rw [hl2]; exact EFF, by rw [hl2]; exact hc3, Nat.le_refl _, by rw [hl2]; exact ⟨hrF.1, fun h => by obtain ⟨ad, e, hb, hc⟩ := hrF.2 h; exact ⟨ad, e, by simpa using hb, hc⟩⟩, ⟨rfl, fun h => absurd h (by simp)⟩, fr3, fun _ h => by cases h⟩ bF)
      clear hrF EF EF2 EF3 EFF bF HP r3 fr3 hAg hAa E2 F2 bel2
      go_wp2_with fail
      exact bodyPost_ret (v := .tuple #[.agg #[.int .i64 0, .int .i64 0, .int .i64 0, .int .i64 0], .bool true]) (by simp [results, Try.results32, go_sem, *]) rfl hfin.out

theorem QM.Inv.end_ok {q : QM} (hi : q.Inv) (hr : q.Room 1) : EndOk q := by
  intro g W v1 v2 ev hg o1 o2
  obtain ⟨s1, s2, s3, s4⟩ := hr
  have he0 := hi.e0
  refine Go.Proofs.Ytjmncbfmjeeneaa.end_ok q.ep q.nx q.gv q.rd q.ls q.t _ g _ _ v1 v2 ev W hg rfl rfl o1 o2 (by omega) he0 (by omega) ?_
  have := hi.apart
  simpa [List.map_append, List.map_map, Function.comp_def] using this
/-- queue.Do is a step of the model, whatever the event -/
theorem do_any (q : QM) (e : Ev) (v : Value) (lo B : Nat) (w : World) (hi : q.Inv) (hr : q.Room 1) (he : e.check = 0) (hv : QIs w lo B q v) (hB : B ≤ w.heap.size) :
    Calls Try.prog 12 #[v, e.val] w (StepPost w (q.step e).1 (q.step e).2.1 (q.step e).2.2) :=
  do_step q e v lo B w hi hr he hv hB fun _ => hi.end_ok hr

end Go.Proofs.Ytjmncbfmjeeneaa

namespace Go.Proofs.Ytjmncbfmjeeneaa
open Go.RowKit

set_option maxHeartbeats 1000000 in
set_option maxRecDepth 100000 in
theorem event_any (k a b c : Int) (w : World) (h0 : Is64 k) (h1 : Is64 a) (h2 : Is64 b) (h3 : Is64 c) :
    Calls Try.prog 39 #[.agg #[.int .i64 k, .int .i64 a, .int .i64 b, .int .i64 c]] w (Puts w (evOf k a b c).val) := by
  obtain ⟨h01, h02⟩ := h0
  obtain ⟨h11, h12⟩ := h1
  obtain ⟨h21, h22⟩ := h2
  obtain ⟨h31, h32⟩ := h3
  have px := pick_lo k 8 (by omega)
  have px' := pick_hi k 8 (by omega)
  have HV : ∀ m, pick k 8 = m → evOf k a b c = (if m < 3 then ⟨1, pick a 2, pick b 24, pick c 1000, 0, 0⟩ else if m < 5 then ⟨2, 0, 0, 0, 0, 0⟩ else if m < 7 then ⟨3, 0, 0, 0, pick a 3, pick b 6⟩ else ⟨4, 0, 0, 0, 0, 0⟩) := by intro m hm; subst hm; rfl
  have HW := Lib.hid HV
  clear HV
  generalize evOf k a b c = ev at *
  go_enter Try.func39, Try.ntmps39
  go_wp2_with fail
  refine (picked_any _ _ _ (by omega) (by omega) (by omega) (by omega)).mono ?_
  rintro e w1 ⟨rfl, rfl⟩
  obtain ⟨m, hm⟩ : ∃ m, pick k 8 = m := ⟨_, rfl⟩
  have HE := HW.out m hm
  rw [hm] at px px' ⊢
  clear HW hm
  rcases (show m = 0 ∨ m = 1 ∨ m = 2 ∨ m = 3 ∨ m = 4 ∨ m = 5 ∨ m = 6 ∨ m = 7 by omega) with h | h | h | h | h | h | h | h
  all_goals
    subst h
    simp only [reduceIte, Int.reduceLT] at HE
    subst HE
    go_wp2_with fail
  iterate 3
    · refine region_tail 10 (by kernel_rfl) (by kernel_rfl) ?_
      simp only [List.take_succ_cons, List.take_zero, List.drop_succ_cons, List.drop_zero]
      repeat still_step
      still_call (picked_still _ _ _ _ rfl (by omega) (by omega) (by omega) (by omega))
      repeat still_step
      still_call (picked_still _ _ _ _ rfl (by omega) (by omega) (by omega) (by omega))
      repeat still_step
      still_call (picked_still _ _ _ _ rfl (by omega) (by omega) (by omega) (by omega))
      repeat still_step
      refine wpStill_nil ?_
      go_wp2
      exact bodyPost_ret (v := (⟨1, pick a 2, pick b 24, pick c 1000, 0, 0⟩ : Ev).val) (by simp [results, Try.results39, go_sem, Ev.val]) rfl ⟨rfl, by repeat (first | exact Below.refl _ _ | refine Below.drew ?_ | refine Below.alloc ?_ (by simp) _)⟩
  iterate 2
    · go_wp2
      exact bodyPost_ret (v := (⟨2, 0, 0, 0, 0, 0⟩ : Ev).val) (by simp [results, Try.results39, go_sem, Ev.val]) rfl ⟨rfl, by repeat (first | exact Below.refl _ _ | refine Below.drew ?_ | refine Below.alloc ?_ (by simp) _)⟩
  iterate 2
    · refine region_tail 8 (by kernel_rfl) (by kernel_rfl) ?_
      simp only [List.take_succ_cons, List.take_zero, List.drop_succ_cons, List.drop_zero]
      repeat still_step
      still_call (picked_still _ _ _ _ rfl (by omega) (by omega) (by omega) (by omega))
      repeat still_step
      still_call (picked_still _ _ _ _ rfl (by omega) (by omega) (by omega) (by omega))
      repeat still_step
      refine wpStill_nil ?_
      go_wp2
      exact bodyPost_ret (v := (⟨3, 0, 0, 0, pick a 3, pick b 6⟩ : Ev).val) (by simp [results, Try.results39, go_sem, Ev.val]) rfl ⟨rfl, by repeat (first | exact Below.refl _ _ | refine Below.drew ?_ | refine Below.alloc ?_ (by simp) _)⟩
  · go_wp2
    exact bodyPost_ret (v := (⟨4, 0, 0, 0, 0, 0⟩ : Ev).val) (by simp [results, Try.results39, go_sem, Ev.val]) rfl ⟨rfl, by repeat (first | exact Below.refl _ _ | refine Below.drew ?_ | refine Below.alloc ?_ (by simp) _)⟩

end Go.Proofs.Ytjmncbfmjeeneaa

namespace Go.Proofs.Ytjmncbfmjeeneaa
open Go.RowKit

def qevRow (e : Ev) : List Int := [e.kind, e.prod, e.id, e.body, e.hep, e.hno]
def qevCells (es : List Ev) : List Value := rowCells (es.map qevRow)
def qansRow (a : QA) : List Int := [a.code, a.ep, a.no, a.body]
def qansCells (l : List QA) : List Value := rowCells (l.map qansRow)
theorem qevCells_snoc (es : List Ev) (k p i b h n : Int) : qevCells (es ++ [⟨k, p, i, b, h, n⟩]) = qevCells es ++ [.int .i64 k, .int .i64 p, .int .i64 i, .int .i64 b, .int .i64 h, .int .i64 n] := by simp [qevCells, rowCells, qevRow]
theorem qansCells_snoc (l : List QA) (k p i b : Int) : qansCells (l ++ [⟨k, p, i, b⟩]) = qansCells l ++ [.int .i64 k, .int .i64 p, .int .i64 i, .int .i64 b] := by simp [qansCells, rowCells, qansRow]

structure PL where
  q : QM
  es : List Ev
  ans : List QA
def PL.zero : PL := ⟨QM.zero, [], []⟩
def PL.next (p : PL) (e : Ev) : PL := ⟨(p.q.step e).1, if (p.q.step e).2.2 then p.es ++ [e] else p.es, if (p.q.step e).2.2 then p.ans ++ [(p.q.step e).2.1] else p.ans⟩
def evIn (rows : List (List Int)) (k : Nat) : Ev := evOf ((rows.getD k []).getD 0 0) ((rows.getD k []).getD 1 0) ((rows.getD k []).getD 2 0) ((rows.getD k []).getD 3 0)
def playN (rows : List (List Int)) : Nat → PL
  | 0 => PL.zero
  | k + 1 => (playN rows k).next (evIn rows k)
theorem evOf_chk (k a b c : Int) : (evOf k a b c).check = 0 := by
  have a1 := pick_lo a 2 (by omega)
  have a2 := pick_hi a 2 (by omega)
  have b1 := pick_lo b 24 (by omega)
  have b2 := pick_hi b 24 (by omega)
  have c1 := pick_lo c 1000 (by omega)
  have c2 := pick_hi c 1000 (by omega)
  have a3 := pick_lo a 3 (by omega)
  have a4 := pick_hi a 3 (by omega)
  have b3 := pick_lo b 6 (by omega)
  have b4 := pick_hi b 6 (by omega)
  unfold evOf
  split
  · unfold Ev.check
    rw [if_pos rfl, if_pos (by simp [Ev.ok1, inB]; omega), if_pos ⟨rfl, rfl⟩]
  · split
    · rfl
    · split
      · unfold Ev.check
        rw [if_neg (by simp), if_pos rfl, if_pos (by simp [Ev.ok3, inB]; omega), if_pos ⟨rfl, rfl, rfl⟩]
      · rfl
theorem QM.step_same {q : QM} {e : Ev} (h : (q.step e).2.2 = false) : (q.step e).1 = q := by
  revert h
  unfold QM.step
  by_cases h1 : e.kind = 1
  · by_cases h2 : e.id < q.t e.prod.toNat - 8
    · simp [h1, h2]
    · by_cases h3 : q.S e.prod.toNat e.id = true
      · simp [h1, h2, h3]
      · simp [h1, h2, h3]
  · by_cases h2 : e.kind = 2
    · rw [if_neg h1, if_pos h2]
      unfold QM.recv
      cases q.rd <;> simp
    · by_cases h3 : e.kind = 3
      · by_cases h4 : e.hep = q.ep
        · by_cases h5 : q.ls.any (isNo e.hno) = true
          · rw [if_neg h1, if_neg h2, if_pos h3, if_pos h4, if_pos h5]; simp
          · rw [if_neg h1, if_neg h2, if_pos h3, if_pos h4, if_neg h5]; simp
        · rw [if_neg h1, if_neg h2, if_pos h3, if_neg h4]; simp
      · rw [if_neg h1, if_neg h2, if_neg h3]; simp
structure PL.Ok (p : PL) (k : Nat) : Prop where
  inv : p.q.Inv
  room : p.q.Room (100 - k)
  len : p.es.length = p.ans.length
  le : p.es.length ≤ k
theorem PL.zero_ok : PL.zero.Ok 0 := ⟨QM.zero_inv, ⟨by simp [zero, QM.zero], by simp [zero, QM.zero], by simp [zero, QM.zero], by simp [zero, QM.zero]⟩, rfl, Nat.le_refl _⟩
theorem PL.Ok.next {p : PL} {k : Nat} (h : p.Ok k) (hk : k < 100) {e : Ev} (he : e.check = 0) : (p.next e).Ok (k + 1) := by
  refine ⟨h.inv.step he, ?_, ?_, ?_⟩
  · have := h.room
    rw [show 100 - k = 100 - (k + 1) + 1 by omega] at this
    exact this.step e
  · unfold PL.next
    have := h.len
    dsimp only
    split <;> simp [this]
  · unfold PL.next
    have := h.le
    dsimp only
    split
    · simp; omega
    · omega
theorem playN_ok (rows : List (List Int)) : ∀ k, k ≤ 100 → (playN rows k).Ok k
  | 0, _ => PL.zero_ok
  | k + 1, h => (playN_ok rows k (by omega)).next (by omega) (evOf_chk _ _ _ _)

theorem QIs.agg {w : World} {lo B : Nat} {q : QM} {v : Value} (h : QIs w lo B q v) : ∃ cs, v = .agg cs ∧ cs.size = 41 ∧ cs.all (·.oneCell') = true := by
  obtain ⟨A1, c1, A2, c2, rfl, _⟩ := h
  exact ⟨_, rfl, rfl, by kernel_rfl⟩
theorem Reads.keepIn {w w' : World} {B size n lo : Nat} {A : Option Addr} {xs : List Value} (h : Reads w B size A n xs) (hA : Fresh lo A) (hk : ∀ p : Addr, lo ≤ p.block → p.block < B → w'.cell? p = w.cell? p) : Reads w' B size A n xs :=
  ⟨h.1, fun hn => by
    obtain ⟨ad, e, hb, hc⟩ := h.2 hn
    have := hA ad e
    exact ⟨ad, e, hb, fun j v hv => (hk _ (by rw [block_of_add]; exact this) (by rw [block_of_add]; exact hb)).trans (hc j v hv)⟩⟩
theorem QIs.keep {w w' : World} {lo B : Nat} {q : QM} {v : Value} (h : QIs w lo B q v) (hk : ∀ p : Addr, lo ≤ p.block → p.block < B → w'.cell? p = w.cell? p) : QIs w' lo B q v := by
  obtain ⟨A1, c1, A2, c2, e, h1, h2, h3, h4, h5, h6⟩ := h
  exact ⟨A1, c1, A2, c2, e, h1, h2, h3.keepIn h5 hk, h4.keepIn h6 hk, h5, h6⟩
theorem QIs.more {w : World} {lo B B' : Nat} {q : QM} {v : Value} (h : QIs w lo B q v) (hB : B ≤ B') : QIs w lo B' q v := by
  obtain ⟨A1, c1, A2, c2, e, h1, h2, h3, h4, h5, h6⟩ := h
  exact ⟨A1, c1, A2, c2, e, h1, h2, h3.more hB, h4.more hB, h5, h6⟩
theorem QIs.low {w : World} {lo lo' B : Nat} {q : QM} {v : Value} (h : QIs w lo B q v) (hl : lo' ≤ lo) : QIs w lo' B q v := by
  obtain ⟨A1, c1, A2, c2, e, h1, h2, h3, h4, h5, h6⟩ := h
  exact ⟨A1, c1, A2, c2, e, h1, h2, h3, h4, fun ad e => Nat.le_trans hl (h5 ad e), fun ad e => Nat.le_trans hl (h6 ad e)⟩
theorem QIs.below {w w' : World} {lo B : Nat} {q : QM} {v : Value} (h : QIs w lo B q v) (hb : Below B w w') : QIs w' lo B q v := h.keep fun _ _ hp => hb.cell hp
theorem QIs.setRow {w : World} {lo B g : Nat} {q : QM} {v : Value} {cs : Array Value} (h : QIs w lo B q v) (hg : g < lo ∨ B ≤ g) : QIs (w.setRow g cs) lo B q v :=
  h.keep fun _ h1 h2 => World.cell?_of_block (setRow_other _ _ _ _ (by omega))
theorem QIs.alloc {w : World} {lo B : Nat} {q : QM} {v : Value} (h : QIs w lo B q v) (hB : B ≤ w.heap.size) (o : Obj) : QIs (w.alloc o) lo B q v := h.below ((Below.refl B w).alloc hB o)
theorem QIs.grown {w w' : World} {lo B : Nat} {q : QM} {v : Value} {row : Option Nat} (h : QIs w lo B q v) (hg : w.grownBy w' row) (hB : B ≤ w.heap.size) (hr : ∀ k, row = some k → k < lo ∨ B ≤ k) : QIs w' lo B q v :=
  h.keep fun p h1 h2 => World.cell?_of_block (hg.block p.block (by omega) (fun e => by have := hr _ e.symm; omega))
theorem QIs.zero (w : World) (lo B : Nat) : QIs w lo B QM.zero (.agg (qCells 0 0 0 (.slice none 0 0) (.slice none 0 0) (fun _ => 0) (fun _ _ => false))) :=
  ⟨none, 0, none, 0, rfl, Nat.le_refl _, Nat.le_refl _, ⟨rfl, fun h => absurd h (by simp [QM.zero])⟩, ⟨rfl, fun h => absurd h (by simp [QM.zero])⟩, fun _ h => (by cases h), fun _ h => (by cases h)⟩

end Go.Proofs.Ytjmncbfmjeeneaa

namespace Go.Proofs.Ytjmncbfmjeeneaa
open Go.RowKit

theorem row4q {w : World} {B n k : Nat} {A : Option Addr} {rows : List (List Int)} (hl : rows.length = n) (hs : ∀ r ∈ rows, r.length = 4 ∧ ∀ z ∈ r, (Lit.int .i64 z).wf = true) (h : Reads w B 4 A n (rowCells rows)) (hk : k < n) :
    ∃ b off, A = some ⟨b, off, none⟩ ∧ b < B ∧ (∀ j, j < 4 → w.cell? ⟨b, off + (k * 4 + j), none⟩ = some (.int .i64 ((rows.getD k []).getD j 0))) ∧ ∀ j, Is64 ((rows.getD k []).getD j 0) := by
  obtain ⟨b, off, rfl, hb, hc⟩ := h.plain (by omega) (by omega)
  have hr : rows[k]? = some (rows.getD k []) := by rw [List.getElem?_eq_getElem (show k < rows.length by omega)]; simp [List.getD, List.getElem?_eq_getElem (show k < rows.length by omega)]
  have hmem : rows.getD k [] ∈ rows := List.mem_of_getElem? hr
  obtain ⟨h4, hz⟩ := hs _ hmem
  refine ⟨b, off, rfl, hb, fun j hj => ?_, fun j => ?_⟩
  · refine hc _ _ ?_
    rw [rowCells_at 4 rows (fun r hr => (hs r hr).1) k j _ hr hj]
    generalize rows.getD k [] = row at *
    rw [List.getElem?_eq_getElem (show j < row.length by omega)]
    simp [List.getD, List.getElem?_eq_getElem (show j < row.length by omega)]
  · generalize rows.getD k [] = row at *
    by_cases hj : j < 4
    · refine is64_of_wf (hz _ ?_)
      rw [List.getD, List.getElem?_eq_getElem (show j < row.length by omega)]
      simp
    · rw [List.getD, List.getElem?_eq_none (by omega)]
      simp [Is64]
theorem own_grownQ {w w' : World} {base size n : Nat} {e : TypeId} {v : Value} {xs : List Value} {row : Option Nat} (h : w.ownsRow base e size v n xs) (hg : w.grownBy w' row) (hne : ∀ g, v.ownBlock = some g → row ≠ some g) : w'.ownsRow base e size v n xs := by
  refine ⟨h.1, ?_⟩
  rcases h.2 with hn | ⟨g, cap, cur, rfl, hb, hh, r⟩
  · exact .inl hn
  · have hlt : g < w.heap.size := by
      rcases Nat.lt_or_ge g w.heap.size with h' | h'
      · exact h'
      · rw [Array.getElem?_eq_none h'] at hh; cases hh
    exact .inr ⟨g, cap, cur, rfl, hb, by rw [hg.block g hlt (fun h => hne g rfl h.symm)]; exact hh, r⟩
theorem own_row_neQ {w : World} {base base' size size' n m : Nat} {e e' : TypeId} {v u : Value} {xs ys : List Value} (h : w.ownsRow base e size v n xs) (k : w.ownsRow base' e' size' u m ys) (hne : e ≠ e') : ∀ g, v.ownBlock = some g → u.ownBlock ≠ some g := by
  intro g hv hu
  rcases h.2 with ⟨rfl, _⟩ | ⟨g1, cap, cur, rfl, _, h1, _⟩
  · cases hv
  · rcases k.2 with ⟨rfl, _⟩ | ⟨g2, cap2, cur2, rfl, _, h2, _⟩
    · cases hu
    · have e1 : g1 = g := by injection hv
      have e2 : g2 = g := by injection hu
      subst e1 e2
      rw [h1] at h2
      injection h2 with h2
      injection h2 with _ h2
      exact hne h2
theorem own_setRow {w : World} {base size n g : Nat} {e t : TypeId} {v : Value} {xs : List Value} {cs ds : Array Value} (h : w.ownsRow base e size v n xs) (hg : Blk w g t cs) (hne : e ≠ t) : (w.setRow g ds).ownsRow base e size v n xs :=
  own_grownQ h (row := some g) ⟨rfl, rfl, rfl, by simp, fun k _ hk => setRow_other _ _ _ _ (fun e => hk (by rw [e]))⟩ fun k hk h' => own_blk_ne h hg hne (hk.trans (by rw [← h']))

theorem q_zero : (Try.prog.info? 37).bind (·.zero) = some (.agg (qCells 0 0 0 (.slice none 0 0) (.slice none 0 0) (fun _ => 0) (fun _ _ => false))) := by kernel_rfl
theorem ans_zero : (Try.prog.info? 48).bind (·.zero) = some (.agg #[.int .i64 0, .int .i64 0, .int .i64 0, .int .i64 0]) := by kernel_rfl
/-- what holds ahead of a round of 'played' -/
structure PS (w : World) (p : PL) (ve va : Value) (wr : World) : Prop where
  res : ∃ cs, Blk wr w.heap.size 37 cs ∧ cs.size = 41
  q : ∃ lo cs, w.heap.size + 1 < lo ∧ Blk wr (w.heap.size + 1) 37 cs ∧ cs.size = 41 ∧ QIs wr lo wr.heap.size p.q (.agg cs)
  es : wr.ownsRow w.heap.size 44 6 ve p.es.length (qevCells p.es)
  ans : wr.ownsRow w.heap.size 48 4 va p.ans.length (qansCells p.ans)
  bel : Below w.heap.size w wr
theorem PS.lt {w wr : World} {p : PL} {ve va : Value} (h : PS w p ve va wr) : w.heap.size + 1 < wr.heap.size := by
  obtain ⟨lo, cs, _, hb, _⟩ := h.q
  exact hb.lt
theorem PS.below {w wr w' : World} {p : PL} {ve va : Value} (h : PS w p ve va wr) (hb : Below wr.heap.size wr w') : PS w p ve va w' := by
  have hlt := h.lt
  obtain ⟨⟨c1, r1, r2⟩, ⟨lo, c2, q0, q1, q2, q3⟩, es, as', bel⟩ := h
  exact ⟨⟨c1, r1.below hb r1.lt, r2⟩, ⟨lo, c2, q0, q1.below hb q1.lt, q2, (q3.below hb).more hb.size⟩, own_below es hb (Nat.le_refl _), own_below as' hb (Nat.le_refl _), bel.trans (hb.mono bel.size)⟩
def PlayedPost (w : World) (p : PL) (e : Ending) (w' : World) : Prop :=
  ∃ v ve va lo, e = .returned (.tuple #[v, ve, va, .bool true]) ∧ QIs w' lo w'.heap.size p.q v ∧ w'.ownsRow w.heap.size 44 6 ve p.es.length (qevCells p.es) ∧ w'.ownsRow w.heap.size 48 4 va p.ans.length (qansCells p.ans) ∧ Below w.heap.size w w' ∧ w.heap.size ≤ lo
theorem qcheck_is (q : QM) (v : Value) (lo B : Nat) (w : World) (hi : q.Inv) (hr : q.Room 0) (hv : QIs w lo B q v) (hB : B ≤ w.heap.size) : Calls Try.prog 25 #[v] w (Puts w (.int .i64 0)) := by
  obtain ⟨A1, c1, A2, c2, rfl, h1, h2, h3, h4, _⟩ := hv
  exact qcheck_ok q.ep q.nx q.gv q.rd q.ls q.t q.S A1 A2 _ _ c1 c2 B w (hi.ok hr) rfl rfl h3 h4 hB
theorem ev_info : (Try.prog.info? 44).map (fun i => (i.zero, i.size, i.bytes)) = some (some (.agg #[.int .i64 0, .int .i64 0, .int .i64 0, .int .i64 0, .int .i64 0, .int .i64 0]), 6, 48) := by kernel_rfl
theorem ans_info : (Try.prog.info? 48).map (fun i => (i.zero, i.size, i.bytes)) = some (some (.agg #[.int .i64 0, .int .i64 0, .int .i64 0, .int .i64 0]), 4, 32) := by kernel_rfl

end Go.Proofs.Ytjmncbfmjeeneaa

namespace Go.Proofs.Ytjmncbfmjeeneaa
open Go.RowKit

def Ev.zero0 : Ev := ⟨0, 0, 0, 0, 0, 0⟩
theorem qevAt {w : World} {B n i : Nat} {A : Option Addr} {es : List Ev} (hr : Reads w B 6 A n (qevCells es)) (hl : es.length = n) (hi : i < n) :
    ∃ b off, A = some ⟨b, off, none⟩ ∧ b < B ∧ w.cell? ⟨b, off + i * 6, none⟩ = some (.int .i64 (es.getD i .zero0).kind) ∧ w.cell? ⟨b, off + i * 6 + 1, none⟩ = some (.int .i64 (es.getD i .zero0).prod) ∧
      w.cell? ⟨b, off + i * 6 + 2, none⟩ = some (.int .i64 (es.getD i .zero0).id) ∧ w.cell? ⟨b, off + i * 6 + 3, none⟩ = some (.int .i64 (es.getD i .zero0).body) ∧
      w.cell? ⟨b, off + i * 6 + 4, none⟩ = some (.int .i64 (es.getD i .zero0).hep) ∧ w.cell? ⟨b, off + i * 6 + 5, none⟩ = some (.int .i64 (es.getD i .zero0).hno) := by
  have hr1 : es[i]? = some (es.getD i .zero0) := by rw [List.getElem?_eq_getElem (show i < es.length by omega)]; simp [List.getD, List.getElem?_eq_getElem (show i < es.length by omega)]
  obtain ⟨b, off, h1, h2, h3⟩ := rowAt hr (by simpa using hl) (fun r hr => by obtain ⟨x, _, rfl⟩ := List.mem_map.1 hr; rfl) (by omega) hi (r := qevRow (es.getD i .zero0)) (by rw [List.getElem?_map, hr1]; rfl)
  exact ⟨b, off, h1, h2, h3 0 _ rfl, h3 1 _ rfl, h3 2 _ rfl, h3 3 _ rfl, h3 4 _ rfl, h3 5 _ rfl⟩
def isKind (k : Int) (e : Ev) : Bool := e.kind == k
theorem count_take (es : List Ev) (k : Int) (i : Nat) (hi : i < es.length) : (es.take (i + 1)).countP (isKind k) = (es.take i).countP (isKind k) + (if (es.getD i .zero0).kind = k then 1 else 0) := by
  have hr1 : es[i]? = some (es.getD i .zero0) := by rw [List.getElem?_eq_getElem hi]; simp [List.getD, List.getElem?_eq_getElem hi]
  rw [List.take_add_one, List.countP_append, hr1]
  simp [List.countP_cons, isKind]

end Go.Proofs.Ytjmncbfmjeeneaa

namespace Go.Proofs.Ytjmncbfmjeeneaa

theorem evOf_prod (k a b c : Int) : 0 ≤ (evOf k a b c).prod ∧ (evOf k a b c).prod ≤ 1 := by
  have a1 := pick_lo a 2 (by omega)
  have a2 := pick_hi a 2 (by omega)
  unfold evOf
  split
  · exact ⟨a1, by show pick a 2 ≤ 1; omega⟩
  · split
    · exact ⟨by simp, by simp⟩
    · split <;> exact ⟨by simp, by simp⟩
theorem QM.step_win {q : QM} {e : Ev} (i : Nat) (hi : e.prod.toNat ≠ i) : (q.step e).1.t i = q.t i ∧ (q.step e).1.S i = q.S i := by
  unfold QM.step
  split
  · split
    · exact ⟨rfl, rfl⟩
    · split
      · exact ⟨rfl, rfl⟩
      · simp only [QM.pub, setF]
        rw [if_neg (Ne.symm hi), if_neg (Ne.symm hi)]
        exact ⟨rfl, rfl⟩
  · split
    · unfold QM.recv
      split <;> exact ⟨rfl, rfl⟩
    · split
      · split
        · split <;> exact ⟨rfl, rfl⟩
        · exact ⟨rfl, rfl⟩
      · exact ⟨rfl, rfl⟩
theorem playN_win (rows : List (List Int)) (i : Nat) (hi : 2 ≤ i) : ∀ k, (playN rows k).q.t i = 0 ∧ (playN rows k).q.S i = fun _ => false
  | 0 => ⟨rfl, rfl⟩
  | k + 1 => by
    have h := playN_win rows i hi k
    have hp := evOf_prod ((rows.getD k []).getD 0 0) ((rows.getD k []).getD 1 0) ((rows.getD k []).getD 2 0) ((rows.getD k []).getD 3 0)
    have hs := QM.step_win (q := (playN rows k).q) (e := evIn rows k) i (by unfold evIn; omega)
    exact ⟨hs.1.trans h.1, hs.2.trans h.2⟩
/-- how many -/
structure PL.Keeps (p : PL) : Prop where
  len : p.q.rd.length + p.q.ls.length + p.es.countP (isKind 3) = p.es.countP (isKind 1)
  ep : p.q.ep = (p.es.countP (isKind 4) : Nat)
  nx : p.q.nx = (p.es.countP (isKind 1) : Nat)
theorem eraseP_len (no : Int) (l : List (Int × Int × Int)) (h : l.any (isNo no) = true) : (l.eraseP (isNo no)).length + 1 = l.length := by
  obtain ⟨a, ha, hp⟩ := List.any_eq_true.1 h
  have := List.length_eraseP_of_mem ha hp
  have hpos := List.length_pos_of_mem ha
  omega
theorem PL.Keeps.next {p : PL} (h : p.Keeps) (e : Ev) (he : e.check = 0) : (p.next e).Keeps := by
  obtain ⟨h1, h2, h3⟩ := h
  have hsame : (p.q.step e).2.2 = false → (p.next e).Keeps := fun hc => by
    have := QM.step_same hc
    unfold PL.next
    rw [hc, this]
    exact ⟨h1, h2, h3⟩
  by_cases hc : (p.q.step e).2.2 = true
  · have hn : p.next e = ⟨(p.q.step e).1, p.es ++ [e], p.ans ++ [(p.q.step e).2.1]⟩ := by unfold PL.next; rw [hc]; rfl
    rw [hn]
    have hcnt : ∀ k, (p.es ++ [e]).countP (isKind k) = p.es.countP (isKind k) + (if e.kind = k then 1 else 0) := fun k => by
      rw [List.countP_append]; simp [List.countP_cons, isKind]
    revert hc
    rcases check_kinds he with hk | hk | hk | hk
    · unfold QM.step
      rw [if_pos hk]
      split
      · simp
      · split
        · simp
        · intro _
          refine ⟨?_, ?_, ?_⟩
          · dsimp only [QM.pub]; rw [hcnt, hcnt, hk]; simp; omega
          · dsimp only [QM.pub]; rw [hcnt, hk]; simpa using h2
          · dsimp only [QM.pub]; rw [hcnt, hk, h3]; simp
    · unfold QM.step
      rw [if_neg (by omega), if_pos hk]
      unfold QM.recv
      split
      · simp
      · next m rd hrd =>
        intro _
        rw [hrd] at h1
        refine ⟨?_, ?_, ?_⟩
        · dsimp only; rw [hcnt, hcnt, hk]; simp at h1 ⊢; omega
        · dsimp only; rw [hcnt, hk]; simpa using h2
        · dsimp only; rw [hcnt, hk]; simpa using h3
    · unfold QM.step
      rw [if_neg (by omega), if_neg (by omega), if_pos hk]
      split
      · split
        · next ha =>
          intro _
          have hl := eraseP_len e.hno p.q.ls ha
          refine ⟨?_, ?_, ?_⟩
          · dsimp only [QM.ack]; rw [hcnt, hcnt, hk]; simp; omega
          · dsimp only [QM.ack]; rw [hcnt, hk]; simpa using h2
          · dsimp only [QM.ack]; rw [hcnt, hk]; simpa using h3
        · simp
      · simp
    · unfold QM.step
      rw [if_neg (by omega), if_neg (by omega), if_neg (by omega)]
      intro _
      refine ⟨?_, ?_, ?_⟩
      · dsimp only [QM.endAll]; rw [hcnt, hcnt, hk]; simp; omega
      · dsimp only [QM.endAll]; rw [hcnt, hk, h2]; simp
      · dsimp only [QM.endAll]; rw [hcnt, hk]; simpa using h3
  · exact hsame (by simpa using hc)
theorem playN_keeps (rows : List (List Int)) : ∀ k, (playN rows k).Keeps
  | 0 => ⟨rfl, rfl, rfl⟩
  | k + 1 => (playN_keeps rows k).next _ (evOf_chk _ _ _ _)
theorem QM.step_nx (q : QM) (e : Ev) : q.nx ≤ (q.step e).1.nx := by
  unfold QM.step
  split
  · split
    · exact Int.le_refl _
    · split
      · exact Int.le_refl _
      · simp only [QM.pub]; omega
  · split
    · unfold QM.recv
      split <;> exact Int.le_refl _
    · split
      · split
        · split <;> exact Int.le_refl _
        · exact Int.le_refl _
      · exact Int.le_refl _
theorem playN_first (rows : List (List Int)) (h : pick ((rows.getD 0 []).getD 0 0) 8 < 3) : ∀ k, 1 ≤ (playN rows (k + 1)).q.nx
  | 0 => by
    have b1 := pick_lo ((rows.getD 0 []).getD 2 0) 24 (by omega)
    show 1 ≤ (QM.zero.step (evIn rows 0)).1.nx
    unfold evIn evOf
    rw [if_pos h]
    generalize pick ((rows.getD 0 []).getD 2 0) 24 = i at *
    unfold QM.step
    rw [if_pos rfl, if_neg (by simp [QM.zero]; omega), if_neg (by simp [QM.zero])]
    simp [QM.pub, QM.zero]
  | k + 1 => Int.le_trans (playN_first rows h k) (QM.step_nx _ _)
/-- what was published was seen -/
def PL.Seen (p : PL) : Prop := ∀ e ∈ p.es, e.check = 0 ∧ (e.kind = 1 → p.q.S e.prod.toNat e.id = true)
theorem QM.step_S (q : QM) (e : Ev) (i : Nat) (x : Int) (h : q.S i x = true) : (q.step e).1.S i x = true := by
  unfold QM.step
  split
  · split
    · exact h
    · split
      · exact h
      · simp only [QM.pub, setF]
        split
        · next hi => subst hi; simp [h]
        · exact h
  · split
    · unfold QM.recv
      split <;> exact h
    · split
      · split
        · split <;> exact h
        · exact h
      · exact h
theorem PL.Seen.next {p : PL} (h : p.Seen) (e : Ev) (he : e.check = 0) : (p.next e).Seen := by
  have hold : ∀ x ∈ p.es, x.check = 0 ∧ (x.kind = 1 → (p.q.step e).1.S x.prod.toNat x.id = true) := fun x hx => ⟨(h x hx).1, fun hk => QM.step_S _ _ _ _ ((h x hx).2 hk)⟩
  intro x hx
  unfold PL.next at hx ⊢
  dsimp only at hx ⊢
  by_cases hc : (p.q.step e).2.2 = true
  · rw [if_pos hc] at hx
    rcases List.mem_append.1 hx with hx | hx
    · exact hold x hx
    · simp at hx
      subst hx
      refine ⟨he, fun hk => ?_⟩
      revert hc
      unfold QM.step
      rw [if_pos hk]
      split
      · simp
      · split
        · next hs => simp
        · intro _
          simp [QM.pub, setF]
  · rw [if_neg hc] at hx
    exact hold x hx
theorem playN_seen (rows : List (List Int)) : ∀ k, (playN rows k).Seen
  | 0 => fun _ h => by cases h
  | k + 1 => (playN_seen rows k).next _ (evOf_chk _ _ _ _)

end Go.Proofs.Ytjmncbfmjeeneaa

namespace Go.Proofs.Ytjmncbfmjeeneaa
open Go.RowKit

theorem ev_zero : (Try.prog.info? 44).bind (·.zero) = some (.agg #[.int .i64 0, .int .i64 0, .int .i64 0, .int .i64 0, .int .i64 0, .int .i64 0]) := by kernel_rfl
/-- the cells of a queue -/
def qArr (q : QM) (A1 : Option Addr) (c1 : Nat) (A2 : Option Addr) (c2 : Nat) : Array Value := qCells q.ep q.nx q.gv (.slice A1 q.rd.length c1) (.slice A2 q.ls.length c2) q.t (fun i => shows (q.t i) (q.S i))
def rdIt (q : QM) (A : Option Addr) : It := .rd 2 A q.rd.length (msgCells q.rd)
def lsIt (q : QM) (A : Option Addr) : It := .rd 4 A q.ls.length (lsCells q.ep q.ls)
def evIt (A : Option Addr) (es : List Ev) : It := .rd 6 A es.length (qevCells es)
def anIt (A : Option Addr) (l : List QA) : It := .rd 4 A l.length (qansCells l)
theorem do_st {w0 w : World} {I : List It} (q : QM) (e : Ev) {A1 A2 : Option Addr} {c1 c2 : Nat} (H : St w0 w I) [h1 : Has I (rdIt q A1)] [h2 : Has I (lsIt q A2)]
    (hi : q.Inv) (hr : q.Room 1) (he : e.check = 0) (hc1 : q.rd.length ≤ c1) (hc2 : q.ls.length ≤ c2) :
    Calls Try.prog 12 #[.agg (qArr q A1 c1 A2 c2), e.val] w (fun ed w' => ∃ B1 d1 B2 d2, ed = .returned (.tuple #[.agg (qArr (q.step e).1 B1 d1 B2 d2), (q.step e).2.1.val, .bool (q.step e).2.2, .int .i64 0]) ∧ (q.step e).1.rd.length ≤ d1 ∧ (q.step e).1.ls.length ≤ d2 ∧
      St w0 w' (rdIt (q.step e).1 B1 :: lsIt (q.step e).1 B2 :: I)) := by
  have r1 : Reads w w.heap.size 2 A1 q.rd.length (msgCells q.rd) := H.get (rdIt q A1)
  have r2 : Reads w w.heap.size 4 A2 q.ls.length (lsCells q.ep q.ls) := H.get (lsIt q A2)
  have hv : QIs w 0 w.heap.size q (.agg (qArr q A1 c1 A2 c2)) := ⟨A1, c1, A2, c2, rfl, hc1, hc2, r1, r2, fun _ _ => Nat.zero_le _, fun _ _ => Nat.zero_le _⟩
  refine (do_any q e _ 0 w.heap.size w hi hr he hv (Nat.le_refl _)).mono fun ed w' h => ?_
  obtain ⟨v', rfl, ⟨B1, d1, B2, d2, rfl, k1, k2, s1, s2, f1, f2⟩, hb⟩ := h
  refine ⟨B1, d1, B2, d2, rfl, k1, k2, H.newRds [rdIt (q.step e).1 B1, lsIt (q.step e).1 B2] hb fun y hy => ?_⟩
  rcases List.mem_cons.1 hy with rfl | hy
  · exact ⟨_, _, _, _, rfl, s1, f1⟩
  · rw [List.mem_singleton.1 hy]
    exact ⟨_, _, _, _, rfl, s2, f2⟩
/-- a variable that holds a queue -/
def QAt (w0 w : World) (g : Nat) (q : QM) : Prop := ∃ B1 d1 B2 d2, q.rd.length ≤ d1 ∧ q.ls.length ≤ d2 ∧ St w0 w [.bl g 37 (qArr q B1 d1 B2 d2), rdIt q B1, lsIt q B2]
def lenAt (w : World) (g j : Nat) : Nat := match w.cell? ⟨g, j, none⟩ with | some (.slice _ n _) => n | _ => 0
theorem qArr_at (q : QM) (A1 : Option Addr) (c1 : Nat) (A2 : Option Addr) (c2 : Nat) :
    (qArr q A1 c1 A2 c2)[0]? = some (.int .i64 q.ep) ∧ (qArr q A1 c1 A2 c2)[1]? = some (.int .i64 q.nx) ∧ (qArr q A1 c1 A2 c2)[2]? = some (.int .i64 q.gv) ∧ (qArr q A1 c1 A2 c2)[3]? = some (.slice A1 q.rd.length c1) ∧ (qArr q A1 c1 A2 c2)[4]? = some (.slice A2 q.ls.length c2) := ⟨rfl, rfl, rfl, rfl, rfl⟩

end Go.Proofs.Ytjmncbfmjeeneaa

namespace Go.Proofs.Ytjmncbfmjeeneaa
open Go.RowKit

/-- the cells of a telling -/
def tArr (q : QM) (A1 : Option Addr) (c1 : Nat) (A2 : Option Addr) (c2 : Nat) (va : Value) : Array Value := ((qArr q A1 c1 A2 c2).toList ++ [va]).toArray
theorem tArr_q (q : QM) (A1 : Option Addr) (c1 : Nat) (A2 : Option Addr) (c2 : Nat) (va : Value) : (tArr q A1 c1 A2 c2 va).extract 0 (0 + 41) = qArr q A1 c1 A2 c2 := by kernel_rfl
theorem tArr_put (q q' : QM) (A1 A1' : Option Addr) (c1 c1' : Nat) (A2 A2' : Option Addr) (c2 c2' : Nat) (va : Value) : spl (tArr q A1 c1 A2 c2 va) 0 (qArr q' A1' c1' A2' c2').toList = tArr q' A1' c1' A2' c2' va := by kernel_rfl
theorem tArr_ans (q : QM) (A1 : Option Addr) (c1 : Nat) (A2 : Option Addr) (c2 : Nat) (va va' : Value) : (tArr q A1 c1 A2 c2 va).setIfInBounds 41 va' = tArr q A1 c1 A2 c2 va' := by kernel_rfl
theorem ans_info2 : (Try.prog.info? 48).map (fun i => (i.zero, i.size)) = some (some (.agg #[.int .i64 0, .int .i64 0, .int .i64 0, .int .i64 0]), 4) := by kernel_rfl
/-- what is known of a telling: the queue, what was answered -/
def TIs (w0 w : World) (I : List It) (g : Nat) (q : QM) (la : List QA) : Prop :=
  ∃ A1 c1 A2 c2 va, q.rd.length ≤ c1 ∧ q.ls.length ≤ c2 ∧ St w0 w (.bl g 139 (tArr q A1 c1 A2 c2 va) :: .ow 48 4 va la.length (qansCells la) :: rdIt q A1 :: lsIt q A2 :: I)
def TAdd (w0 : World) (I : List It) (q : QM) (e : Ev) (g : Nat) (la : List QA) (ed : Ending) (w' : World) : Prop :=
  ed = .returned (.bool (q.step e).2.2) ∧ ((q.step e).2.2 = false → St w0 w' I) ∧ ((q.step e).2.2 = true → TIs w0 w' I g (q.step e).1 (la ++ [(q.step e).2.1]))
theorem anss_snoc (la : List QA) (k p i b : Int) : qansCells la ++ (#[Value.int .i64 k, .int .i64 p, .int .i64 i, .int .i64 b] : Array Value).toList = qansCells (la ++ [⟨k, p, i, b⟩]) := (qansCells_snoc la k p i b).symm

set_option maxRecDepth 100000 in
set_option maxHeartbeats 8000000 in
theorem tadd_st {w0 w : World} {I : List It} (q : QM) (e : Ev) (g : Nat) (la : List QA) (HT : TIs w0 w I g q la)
    (hi : q.Inv) (hr : q.Room 1) (he : e.check = 0) (hn : la.length ≤ 1000) :
    Calls Try.prog 88 #[.pointer (some ⟨g, 0, none⟩), e.val] w (TAdd w0 I q e g la) := by
  obtain ⟨A1, c1, A2, c2, va, hc1, hc2, H⟩ := HT
  have CD := Lib.hid (fun W J H h1 h2 => do_st (w0 := w0) (w := W) (I := J) (h1 := h1) (h2 := h2) q e (A1 := A1) (A2 := A2) H hi hr he hc1 hc2)
  have HF := Lib.hid (show ∀ W, (q.step e).2.2 = false → St w0 W I → TAdd w0 I q e g la (.returned (.bool false)) W from fun W h1 h2 => ⟨by rw [h1], fun _ => h2, fun h => by rw [h1] at h; cases h⟩)
  have HY := Lib.hid (show ∀ W, (q.step e).2.2 = true → TIs w0 W I g (q.step e).1 (la ++ [(q.step e).2.1]) → TAdd w0 I q e g la (.returned (.bool true)) W from fun W h1 h2 => ⟨by rw [h1], fun h => (by rw [h1] at h; cases h), fun _ => h2⟩)
  generalize TAdd w0 I q e g la = POST at *
  obtain ⟨r, hr'⟩ : ∃ r, q.step e = r := ⟨_, rfl⟩
  rw [hr'] at CD HF HY
  obtain ⟨q', a, chg⟩ := r
  dsimp only at CD HF HY
  obtain ⟨a0, a1, a2, a3⟩ := a
  simp only [QA.val, ansV] at CD
  have hvn : ∃ A c, va = .slice A la.length c := by
    obtain ⟨A, c, h, _⟩ := own_shape (H.own 48 va)
    exact ⟨A, c, h⟩
  obtain ⟨Av, cv, rfl⟩ := hvn
  obtain ⟨n, hn'⟩ : ∃ n, la.length = n := ⟨_, rfl⟩
  have HN := Lib.hid hn'
  rw [hn'] at H hn
  obtain ⟨k, p, i, b, he', hno⟩ := e
  unfold Ev.val
  dsimp only
  clear hr' hi hr he hc1 hc2 hn'
  go_enter Try.func88, Try.ntmps88
  go_upto_region 1 with (first | ((with_reducible refine here_load ?_); first | refine ldR H rfl _ _ rfl rfl (by kernel_rfl) ?_ | refine ldS H rfl _ _ rfl rfl (by rfl) ?_ | refine ldSG H (by rfl) _ _ rfl rfl (by rfl) ?_ | refine ldRG H (by rfl) _ _ rfl rfl (by kernel_rfl) ?_) | ((with_reducible refine here_store ?_); first | (refine stR H rfl _ _ _ rfl rfl rfl (by rfl) (by rfl) (by kernel_rfl) ?_; clear H; intro wx H) | (refine stS H rfl _ _ _ rfl rfl _ rfl (by rfl) (by rfl) (by rfl) ?_; clear H; intro wx H)) | ((with_reducible refine here_alloc ?_); first | (refine wpList_alloc_st H rfl 37 rfl _ q_zero ?_; clear H; intro gq wx H) | (refine wpList_alloc_st H rfl 48 rfl _ ans_zero ?_; clear H; intro ga wx H) | (refine wpList_alloc_st H rfl 44 rfl _ ev_zero ?_; clear H; intro ge wx H)) | ((with_reducible refine here_box ?_); refine wpList_box_st H rfl _ _ rfl _ rfl ?_; clear H; intro gb wx H))
  (try simp only [Act.put, List.setIfInBounds_toArray, List.set_cons_zero, List.set_cons_succ])
  go_cut [5, 6, 7, 8] (fun s5 s6 s7 s8 wx => ∃ g1 g2 G1 y1 G2 y2, s5 = .pointer (some ⟨g1, 0, none⟩) ∧ s6 = .pointer (some ⟨g2, 0, none⟩) ∧ s7 = .bool chg ∧ s8 = .int .i64 0 ∧ q'.rd.length ≤ y1 ∧ q'.ls.length ≤ y2 ∧
    St w0 wx (.bl g1 37 (qArr q' G1 y1 G2 y2) :: .bl g2 48 #[.int .i64 a0, .int .i64 a1, .int .i64 a2, .int .i64 a3] :: .bl g 139 (tArr q A1 c1 A2 c2 (.slice Av n cv)) :: .ow 48 4 (.slice Av n cv) n (qansCells la) :: rdIt q' G1 :: lsIt q' G2 :: I))
  case first =>
    refine startS H (by kernel_rfl) (fun HS => ?_)
    replace H := HS
    refine takeMove (i := 0) rfl rfl _ (by rfl) (by kernel_rfl) (by kernel_rfl) (by kernel_rfl) (fun _ _ _ _ h => h) (by rfl) HS ?_
    (try simp only [Act.put, List.setIfInBounds_toArray, List.set_cons_zero, List.set_cons_succ])
    refine takeV (i := 1) (v := ?_) rfl (by kernel_rfl) (by kernel_rfl) (by kernel_rfl) (fun _ _ _ h => h) (by rfl) ?_ HS ?_
    rotate_left
    · (intro W hW; go_simp; try with_reducible rfl)
    (try simp only [Act.put, List.setIfInBounds_toArray, List.set_cons_zero, List.set_cons_succ])
    refine takeV (i := 2) (v := ?_) rfl (by kernel_rfl) (by kernel_rfl) (by kernel_rfl) (fun _ _ _ h => h) (by rfl) ?_ HS ?_
    rotate_left
    · (intro W hW; go_simp; try with_reducible rfl)
    (try simp only [Act.put, List.setIfInBounds_toArray, List.set_cons_zero, List.set_cons_succ])
    refine takePart_st (i := 3) 37 _ rfl rfl rfl row_Queue (by kernel_rfl) (by rfl) _ (tArr_q _ _ _ _ _ _) (by kernel_rfl) (by kernel_rfl) (by kernel_rfl) (fun _ _ _ _ h => h) (by rfl) HS ?_
    (try simp only [Act.put, List.setIfInBounds_toArray, List.set_cons_zero, List.set_cons_succ])
    refine takeRow_st (i := 4) 44 _ rfl rfl rfl row_Event (by kernel_rfl) (by kernel_rfl) (by kernel_rfl) (by kernel_rfl) (fun _ _ _ _ h => h) (by rfl) HS ?_
    (try simp only [Act.put, List.setIfInBounds_toArray, List.set_cons_zero, List.set_cons_succ])
    refine branchH [5, 11, 12] (by kernel_rfl) (by kernel_rfl) (AllStep.cons ?_ (AllStep.cons ?_ (AllStep.cons ?_ AllStep.nil)))
    · refine stepH_do (i := 5) rfl (by rfl) ?_
      refine wp_call_st rfl Try.func12 (by kernel_rfl) (by kernel_rfl) _ ?_ ((CD.out _ _ H inferInstance inferInstance).mono ?_)
      · rfl
      rintro ed wy ⟨G1, y1, G2, y2, rfl, v1, v2, H⟩
      replace HS := HS.of H
      refine ⟨_, rfl, HS, ?_⟩
      (try simp only [Act.put, List.setIfInBounds_toArray, List.set_cons_zero, List.set_cons_succ])
      refine takeMove (i := 6) rfl rfl _ (by rfl) (by kernel_rfl) (by kernel_rfl) (by kernel_rfl) (fun _ _ _ _ h => h) (by rfl) HS ?_
      (try simp only [Act.put, List.setIfInBounds_toArray, List.set_cons_zero, List.set_cons_succ])
      refine takeExtract (i := 7) rfl rfl _ _ (by rfl) (by rfl) (by kernel_rfl) (by kernel_rfl) (by kernel_rfl) (fun _ _ _ _ h => h) (by rfl) HS ?_
      (try simp only [Act.put, List.setIfInBounds_toArray, List.set_cons_zero, List.set_cons_succ])
      refine takeExtract (i := 8) rfl rfl _ _ (by rfl) (by rfl) (by kernel_rfl) (by kernel_rfl) (by kernel_rfl) (fun _ _ _ _ h => h) (by rfl) HS ?_
      (try simp only [Act.put, List.setIfInBounds_toArray, List.set_cons_zero, List.set_cons_succ])
      refine takeExtract (i := 9) rfl rfl _ _ (by rfl) (by rfl) (by kernel_rfl) (by kernel_rfl) (by kernel_rfl) (fun _ _ _ _ h => h) (by rfl) HS ?_
      (try simp only [Act.put, List.setIfInBounds_toArray, List.set_cons_zero, List.set_cons_succ])
      refine takeExtract (i := 10) rfl rfl _ _ (by rfl) (by rfl) (by kernel_rfl) (by kernel_rfl) (by kernel_rfl) (fun _ _ _ _ h => h) (by rfl) HS ?_
      (try simp only [Act.put, List.setIfInBounds_toArray, List.set_cons_zero, List.set_cons_succ])
      refine branchH [11, 12] (by kernel_rfl) (by kernel_rfl) (AllStep.cons ?_ (AllStep.cons ?_ AllStep.nil))
      · refine stepH_do (i := 11) rfl (by rfl) ?_
        refine wp_alloc_st H 37 rfl _ q_zero ?_
        clear H
        intro gq9 wx H
        replace HS := HS.of H
        refine ⟨HS, ?_⟩
        (try simp only [Act.put, List.setIfInBounds_toArray, List.set_cons_zero, List.set_cons_succ])
        refine branchH [12] (by kernel_rfl) (by kernel_rfl) (AllStep.cons ?_ AllStep.nil)
        refine stepH_do (i := 12) rfl (by rfl) ?_
        refine wp_alloc_st H 48 rfl _ ans_zero ?_
        clear H
        intro ga9 wx H
        replace HS := HS.of H
        refine ⟨HS, ?_⟩
        (try simp only [Act.put, List.setIfInBounds_toArray, List.set_cons_zero, List.set_cons_succ])
        refine branchH [13] (by kernel_rfl) (by kernel_rfl) (AllStep.cons ?_ AllStep.nil)
        refine stepH_do (i := 13) rfl (by rfl) ?_
        refine wp_store_st H 37 _ _ rfl rfl rfl (by kernel_rfl) (by rfl) (by kernel_rfl) ?_
        clear H
        intro wx H
        replace HS := HS.of H
        refine ⟨HS, ?_⟩
        (try simp only [Act.put])
        refine branchH [14] (by kernel_rfl) (by kernel_rfl) (AllStep.cons ?_ AllStep.nil)
        refine stepH_do (i := 14) rfl (by rfl) ?_
        refine wp_store_st H 48 _ _ rfl rfl rfl (by kernel_rfl) (by rfl) (by kernel_rfl) ?_
        clear H
        intro wx H
        replace HS := HS.of H
        refine ⟨HS, ?_⟩
        (try simp only [Act.put])
        refine takeAssign (i := 15) rfl rfl _ (by rfl) (by kernel_rfl) (by kernel_rfl) (by kernel_rfl) (fun _ _ _ _ h => h) (by rfl) HS ?_
        (try simp only [Act.put, List.setIfInBounds_toArray, List.set_cons_zero, List.set_cons_succ])
        refine takeAssign (i := 16) rfl rfl _ (by rfl) (by kernel_rfl) (by kernel_rfl) (by kernel_rfl) (fun _ _ _ _ h => h) (by rfl) HS ?_
        (try simp only [Act.put, List.setIfInBounds_toArray, List.set_cons_zero, List.set_cons_succ])
        refine doneH (by kernel_rfl) ?_
        go_wp2_with fail
        go_meet
        exact ⟨_, _, G1, y1, G2, y2, rfl, rfl, rfl, rfl, v1, v2, H.subm _⟩
      · refine stepH_do (i := 12) rfl (by rfl) ?_
        refine wp_alloc_st H 48 rfl _ ans_zero ?_
        clear H
        intro ga9 wx H
        replace HS := HS.of H
        refine ⟨HS, ?_⟩
        (try simp only [Act.put, List.setIfInBounds_toArray, List.set_cons_zero, List.set_cons_succ])
        refine branchH [11] (by kernel_rfl) (by kernel_rfl) (AllStep.cons ?_ AllStep.nil)
        refine stepH_do (i := 11) rfl (by rfl) ?_
        refine wp_alloc_st H 37 rfl _ q_zero ?_
        clear H
        intro gq9 wx H
        replace HS := HS.of H
        refine ⟨HS, ?_⟩
        (try simp only [Act.put, List.setIfInBounds_toArray, List.set_cons_zero, List.set_cons_succ])
        refine branchH [13] (by kernel_rfl) (by kernel_rfl) (AllStep.cons ?_ AllStep.nil)
        refine stepH_do (i := 13) rfl (by rfl) ?_
        refine wp_store_st H 37 _ _ rfl rfl rfl (by kernel_rfl) (by rfl) (by kernel_rfl) ?_
        clear H
        intro wx H
        replace HS := HS.of H
        refine ⟨HS, ?_⟩
        (try simp only [Act.put])
        refine branchH [14] (by kernel_rfl) (by kernel_rfl) (AllStep.cons ?_ AllStep.nil)
        refine stepH_do (i := 14) rfl (by rfl) ?_
        refine wp_store_st H 48 _ _ rfl rfl rfl (by kernel_rfl) (by rfl) (by kernel_rfl) ?_
        clear H
        intro wx H
        replace HS := HS.of H
        refine ⟨HS, ?_⟩
        (try simp only [Act.put])
        refine takeAssign (i := 15) rfl rfl _ (by rfl) (by kernel_rfl) (by kernel_rfl) (by kernel_rfl) (fun _ _ _ _ h => h) (by rfl) HS ?_
        (try simp only [Act.put, List.setIfInBounds_toArray, List.set_cons_zero, List.set_cons_succ])
        refine takeAssign (i := 16) rfl rfl _ (by rfl) (by kernel_rfl) (by kernel_rfl) (by kernel_rfl) (fun _ _ _ _ h => h) (by rfl) HS ?_
        (try simp only [Act.put, List.setIfInBounds_toArray, List.set_cons_zero, List.set_cons_succ])
        refine doneH (by kernel_rfl) ?_
        go_wp2_with fail
        go_meet
        exact ⟨_, _, G1, y1, G2, y2, rfl, rfl, rfl, rfl, v1, v2, H.subm _⟩
    · refine stepH_do (i := 11) rfl (by rfl) ?_
      refine wp_alloc_st H 37 rfl _ q_zero ?_
      clear H
      intro gq9 wx H
      replace HS := HS.of H
      refine ⟨HS, ?_⟩
      (try simp only [Act.put, List.setIfInBounds_toArray, List.set_cons_zero, List.set_cons_succ])
      refine branchH [5, 12] (by kernel_rfl) (by kernel_rfl) (AllStep.cons ?_ (AllStep.cons ?_ AllStep.nil))
      · refine stepH_do (i := 5) rfl (by rfl) ?_
        refine wp_call_st rfl Try.func12 (by kernel_rfl) (by kernel_rfl) _ ?_ ((CD.out _ _ H inferInstance inferInstance).mono ?_)
        · rfl
        rintro ed wy ⟨G1, y1, G2, y2, rfl, v1, v2, H⟩
        replace HS := HS.of H
        refine ⟨_, rfl, HS, ?_⟩
        (try simp only [Act.put, List.setIfInBounds_toArray, List.set_cons_zero, List.set_cons_succ])
        refine takeMove (i := 6) rfl rfl _ (by rfl) (by kernel_rfl) (by kernel_rfl) (by kernel_rfl) (fun _ _ _ _ h => h) (by rfl) HS ?_
        (try simp only [Act.put, List.setIfInBounds_toArray, List.set_cons_zero, List.set_cons_succ])
        refine takeExtract (i := 7) rfl rfl _ _ (by rfl) (by rfl) (by kernel_rfl) (by kernel_rfl) (by kernel_rfl) (fun _ _ _ _ h => h) (by rfl) HS ?_
        (try simp only [Act.put, List.setIfInBounds_toArray, List.set_cons_zero, List.set_cons_succ])
        refine takeExtract (i := 8) rfl rfl _ _ (by rfl) (by rfl) (by kernel_rfl) (by kernel_rfl) (by kernel_rfl) (fun _ _ _ _ h => h) (by rfl) HS ?_
        (try simp only [Act.put, List.setIfInBounds_toArray, List.set_cons_zero, List.set_cons_succ])
        refine takeExtract (i := 9) rfl rfl _ _ (by rfl) (by rfl) (by kernel_rfl) (by kernel_rfl) (by kernel_rfl) (fun _ _ _ _ h => h) (by rfl) HS ?_
        (try simp only [Act.put, List.setIfInBounds_toArray, List.set_cons_zero, List.set_cons_succ])
        refine takeExtract (i := 10) rfl rfl _ _ (by rfl) (by rfl) (by kernel_rfl) (by kernel_rfl) (by kernel_rfl) (fun _ _ _ _ h => h) (by rfl) HS ?_
        (try simp only [Act.put, List.setIfInBounds_toArray, List.set_cons_zero, List.set_cons_succ])
        refine branchH [12] (by kernel_rfl) (by kernel_rfl) (AllStep.cons ?_ AllStep.nil)
        refine stepH_do (i := 12) rfl (by rfl) ?_
        refine wp_alloc_st H 48 rfl _ ans_zero ?_
        clear H
        intro ga9 wx H
        replace HS := HS.of H
        refine ⟨HS, ?_⟩
        (try simp only [Act.put, List.setIfInBounds_toArray, List.set_cons_zero, List.set_cons_succ])
        refine branchH [13] (by kernel_rfl) (by kernel_rfl) (AllStep.cons ?_ AllStep.nil)
        refine stepH_do (i := 13) rfl (by rfl) ?_
        refine wp_store_st H 37 _ _ rfl rfl rfl (by kernel_rfl) (by rfl) (by kernel_rfl) ?_
        clear H
        intro wx H
        replace HS := HS.of H
        refine ⟨HS, ?_⟩
        (try simp only [Act.put])
        refine branchH [14] (by kernel_rfl) (by kernel_rfl) (AllStep.cons ?_ AllStep.nil)
        refine stepH_do (i := 14) rfl (by rfl) ?_
        refine wp_store_st H 48 _ _ rfl rfl rfl (by kernel_rfl) (by rfl) (by kernel_rfl) ?_
        clear H
        intro wx H
        replace HS := HS.of H
        refine ⟨HS, ?_⟩
        (try simp only [Act.put])
        refine takeAssign (i := 15) rfl rfl _ (by rfl) (by kernel_rfl) (by kernel_rfl) (by kernel_rfl) (fun _ _ _ _ h => h) (by rfl) HS ?_
        (try simp only [Act.put, List.setIfInBounds_toArray, List.set_cons_zero, List.set_cons_succ])
        refine takeAssign (i := 16) rfl rfl _ (by rfl) (by kernel_rfl) (by kernel_rfl) (by kernel_rfl) (fun _ _ _ _ h => h) (by rfl) HS ?_
        (try simp only [Act.put, List.setIfInBounds_toArray, List.set_cons_zero, List.set_cons_succ])
        refine doneH (by kernel_rfl) ?_
        go_wp2_with fail
        go_meet
        exact ⟨_, _, G1, y1, G2, y2, rfl, rfl, rfl, rfl, v1, v2, H.subm _⟩
      · refine stepH_do (i := 12) rfl (by rfl) ?_
        refine wp_alloc_st H 48 rfl _ ans_zero ?_
        clear H
        intro ga9 wx H
        replace HS := HS.of H
        refine ⟨HS, ?_⟩
        (try simp only [Act.put, List.setIfInBounds_toArray, List.set_cons_zero, List.set_cons_succ])
        refine branchH [5] (by kernel_rfl) (by kernel_rfl) (AllStep.cons ?_ AllStep.nil)
        refine stepH_do (i := 5) rfl (by rfl) ?_
        refine wp_call_st rfl Try.func12 (by kernel_rfl) (by kernel_rfl) _ ?_ ((CD.out _ _ H inferInstance inferInstance).mono ?_)
        · rfl
        rintro ed wy ⟨G1, y1, G2, y2, rfl, v1, v2, H⟩
        replace HS := HS.of H
        refine ⟨_, rfl, HS, ?_⟩
        (try simp only [Act.put, List.setIfInBounds_toArray, List.set_cons_zero, List.set_cons_succ])
        refine takeMove (i := 6) rfl rfl _ (by rfl) (by kernel_rfl) (by kernel_rfl) (by kernel_rfl) (fun _ _ _ _ h => h) (by rfl) HS ?_
        (try simp only [Act.put, List.setIfInBounds_toArray, List.set_cons_zero, List.set_cons_succ])
        refine takeExtract (i := 7) rfl rfl _ _ (by rfl) (by rfl) (by kernel_rfl) (by kernel_rfl) (by kernel_rfl) (fun _ _ _ _ h => h) (by rfl) HS ?_
        (try simp only [Act.put, List.setIfInBounds_toArray, List.set_cons_zero, List.set_cons_succ])
        refine takeExtract (i := 8) rfl rfl _ _ (by rfl) (by rfl) (by kernel_rfl) (by kernel_rfl) (by kernel_rfl) (fun _ _ _ _ h => h) (by rfl) HS ?_
        (try simp only [Act.put, List.setIfInBounds_toArray, List.set_cons_zero, List.set_cons_succ])
        refine takeExtract (i := 9) rfl rfl _ _ (by rfl) (by rfl) (by kernel_rfl) (by kernel_rfl) (by kernel_rfl) (fun _ _ _ _ h => h) (by rfl) HS ?_
        (try simp only [Act.put, List.setIfInBounds_toArray, List.set_cons_zero, List.set_cons_succ])
        refine takeExtract (i := 10) rfl rfl _ _ (by rfl) (by rfl) (by kernel_rfl) (by kernel_rfl) (by kernel_rfl) (fun _ _ _ _ h => h) (by rfl) HS ?_
        (try simp only [Act.put, List.setIfInBounds_toArray, List.set_cons_zero, List.set_cons_succ])
        refine branchH [13] (by kernel_rfl) (by kernel_rfl) (AllStep.cons ?_ AllStep.nil)
        refine stepH_do (i := 13) rfl (by rfl) ?_
        refine wp_store_st H 37 _ _ rfl rfl rfl (by kernel_rfl) (by rfl) (by kernel_rfl) ?_
        clear H
        intro wx H
        replace HS := HS.of H
        refine ⟨HS, ?_⟩
        (try simp only [Act.put])
        refine branchH [14] (by kernel_rfl) (by kernel_rfl) (AllStep.cons ?_ AllStep.nil)
        refine stepH_do (i := 14) rfl (by rfl) ?_
        refine wp_store_st H 48 _ _ rfl rfl rfl (by kernel_rfl) (by rfl) (by kernel_rfl) ?_
        clear H
        intro wx H
        replace HS := HS.of H
        refine ⟨HS, ?_⟩
        (try simp only [Act.put])
        refine takeAssign (i := 15) rfl rfl _ (by rfl) (by kernel_rfl) (by kernel_rfl) (by kernel_rfl) (fun _ _ _ _ h => h) (by rfl) HS ?_
        (try simp only [Act.put, List.setIfInBounds_toArray, List.set_cons_zero, List.set_cons_succ])
        refine takeAssign (i := 16) rfl rfl _ (by rfl) (by kernel_rfl) (by kernel_rfl) (by kernel_rfl) (fun _ _ _ _ h => h) (by rfl) HS ?_
        (try simp only [Act.put, List.setIfInBounds_toArray, List.set_cons_zero, List.set_cons_succ])
        refine doneH (by kernel_rfl) ?_
        go_wp2_with fail
        go_meet
        exact ⟨_, _, G1, y1, G2, y2, rfl, rfl, rfl, rfl, v1, v2, H.subm _⟩
    · refine stepH_do (i := 12) rfl (by rfl) ?_
      refine wp_alloc_st H 48 rfl _ ans_zero ?_
      clear H
      intro ga9 wx H
      replace HS := HS.of H
      refine ⟨HS, ?_⟩
      (try simp only [Act.put, List.setIfInBounds_toArray, List.set_cons_zero, List.set_cons_succ])
      refine branchH [5, 11] (by kernel_rfl) (by kernel_rfl) (AllStep.cons ?_ (AllStep.cons ?_ AllStep.nil))
      · refine stepH_do (i := 5) rfl (by rfl) ?_
        refine wp_call_st rfl Try.func12 (by kernel_rfl) (by kernel_rfl) _ ?_ ((CD.out _ _ H inferInstance inferInstance).mono ?_)
        · rfl
        rintro ed wy ⟨G1, y1, G2, y2, rfl, v1, v2, H⟩
        replace HS := HS.of H
        refine ⟨_, rfl, HS, ?_⟩
        (try simp only [Act.put, List.setIfInBounds_toArray, List.set_cons_zero, List.set_cons_succ])
        refine takeMove (i := 6) rfl rfl _ (by rfl) (by kernel_rfl) (by kernel_rfl) (by kernel_rfl) (fun _ _ _ _ h => h) (by rfl) HS ?_
        (try simp only [Act.put, List.setIfInBounds_toArray, List.set_cons_zero, List.set_cons_succ])
        refine takeExtract (i := 7) rfl rfl _ _ (by rfl) (by rfl) (by kernel_rfl) (by kernel_rfl) (by kernel_rfl) (fun _ _ _ _ h => h) (by rfl) HS ?_
        (try simp only [Act.put, List.setIfInBounds_toArray, List.set_cons_zero, List.set_cons_succ])
        refine takeExtract (i := 8) rfl rfl _ _ (by rfl) (by rfl) (by kernel_rfl) (by kernel_rfl) (by kernel_rfl) (fun _ _ _ _ h => h) (by rfl) HS ?_
        (try simp only [Act.put, List.setIfInBounds_toArray, List.set_cons_zero, List.set_cons_succ])
        refine takeExtract (i := 9) rfl rfl _ _ (by rfl) (by rfl) (by kernel_rfl) (by kernel_rfl) (by kernel_rfl) (fun _ _ _ _ h => h) (by rfl) HS ?_
        (try simp only [Act.put, List.setIfInBounds_toArray, List.set_cons_zero, List.set_cons_succ])
        refine takeExtract (i := 10) rfl rfl _ _ (by rfl) (by rfl) (by kernel_rfl) (by kernel_rfl) (by kernel_rfl) (fun _ _ _ _ h => h) (by rfl) HS ?_
        (try simp only [Act.put, List.setIfInBounds_toArray, List.set_cons_zero, List.set_cons_succ])
        refine branchH [11] (by kernel_rfl) (by kernel_rfl) (AllStep.cons ?_ AllStep.nil)
        refine stepH_do (i := 11) rfl (by rfl) ?_
        refine wp_alloc_st H 37 rfl _ q_zero ?_
        clear H
        intro gq9 wx H
        replace HS := HS.of H
        refine ⟨HS, ?_⟩
        (try simp only [Act.put, List.setIfInBounds_toArray, List.set_cons_zero, List.set_cons_succ])
        refine branchH [13] (by kernel_rfl) (by kernel_rfl) (AllStep.cons ?_ AllStep.nil)
        refine stepH_do (i := 13) rfl (by rfl) ?_
        refine wp_store_st H 37 _ _ rfl rfl rfl (by kernel_rfl) (by rfl) (by kernel_rfl) ?_
        clear H
        intro wx H
        replace HS := HS.of H
        refine ⟨HS, ?_⟩
        (try simp only [Act.put])
        refine branchH [14] (by kernel_rfl) (by kernel_rfl) (AllStep.cons ?_ AllStep.nil)
        refine stepH_do (i := 14) rfl (by rfl) ?_
        refine wp_store_st H 48 _ _ rfl rfl rfl (by kernel_rfl) (by rfl) (by kernel_rfl) ?_
        clear H
        intro wx H
        replace HS := HS.of H
        refine ⟨HS, ?_⟩
        (try simp only [Act.put])
        refine takeAssign (i := 15) rfl rfl _ (by rfl) (by kernel_rfl) (by kernel_rfl) (by kernel_rfl) (fun _ _ _ _ h => h) (by rfl) HS ?_
        (try simp only [Act.put, List.setIfInBounds_toArray, List.set_cons_zero, List.set_cons_succ])
        refine takeAssign (i := 16) rfl rfl _ (by rfl) (by kernel_rfl) (by kernel_rfl) (by kernel_rfl) (fun _ _ _ _ h => h) (by rfl) HS ?_
        (try simp only [Act.put, List.setIfInBounds_toArray, List.set_cons_zero, List.set_cons_succ])
        refine doneH (by kernel_rfl) ?_
        go_wp2_with fail
        go_meet
        exact ⟨_, _, G1, y1, G2, y2, rfl, rfl, rfl, rfl, v1, v2, H.subm _⟩
      · refine stepH_do (i := 11) rfl (by rfl) ?_
        refine wp_alloc_st H 37 rfl _ q_zero ?_
        clear H
        intro gq9 wx H
        replace HS := HS.of H
        refine ⟨HS, ?_⟩
        (try simp only [Act.put, List.setIfInBounds_toArray, List.set_cons_zero, List.set_cons_succ])
        refine branchH [5] (by kernel_rfl) (by kernel_rfl) (AllStep.cons ?_ AllStep.nil)
        refine stepH_do (i := 5) rfl (by rfl) ?_
        refine wp_call_st rfl Try.func12 (by kernel_rfl) (by kernel_rfl) _ ?_ ((CD.out _ _ H inferInstance inferInstance).mono ?_)
        · rfl
        rintro ed wy ⟨G1, y1, G2, y2, rfl, v1, v2, H⟩
        replace HS := HS.of H
        refine ⟨_, rfl, HS, ?_⟩
        (try simp only [Act.put, List.setIfInBounds_toArray, List.set_cons_zero, List.set_cons_succ])
        refine takeMove (i := 6) rfl rfl _ (by rfl) (by kernel_rfl) (by kernel_rfl) (by kernel_rfl) (fun _ _ _ _ h => h) (by rfl) HS ?_
        (try simp only [Act.put, List.setIfInBounds_toArray, List.set_cons_zero, List.set_cons_succ])
        refine takeExtract (i := 7) rfl rfl _ _ (by rfl) (by rfl) (by kernel_rfl) (by kernel_rfl) (by kernel_rfl) (fun _ _ _ _ h => h) (by rfl) HS ?_
        (try simp only [Act.put, List.setIfInBounds_toArray, List.set_cons_zero, List.set_cons_succ])
        refine takeExtract (i := 8) rfl rfl _ _ (by rfl) (by rfl) (by kernel_rfl) (by kernel_rfl) (by kernel_rfl) (fun _ _ _ _ h => h) (by rfl) HS ?_
        (try simp only [Act.put, List.setIfInBounds_toArray, List.set_cons_zero, List.set_cons_succ])
        refine takeExtract (i := 9) rfl rfl _ _ (by rfl) (by rfl) (by kernel_rfl) (by kernel_rfl) (by kernel_rfl) (fun _ _ _ _ h => h) (by rfl) HS ?_
        (try simp only [Act.put, List.setIfInBounds_toArray, List.set_cons_zero, List.set_cons_succ])
        refine takeExtract (i := 10) rfl rfl _ _ (by rfl) (by rfl) (by kernel_rfl) (by kernel_rfl) (by kernel_rfl) (fun _ _ _ _ h => h) (by rfl) HS ?_
        (try simp only [Act.put, List.setIfInBounds_toArray, List.set_cons_zero, List.set_cons_succ])
        refine branchH [13] (by kernel_rfl) (by kernel_rfl) (AllStep.cons ?_ AllStep.nil)
        refine stepH_do (i := 13) rfl (by rfl) ?_
        refine wp_store_st H 37 _ _ rfl rfl rfl (by kernel_rfl) (by rfl) (by kernel_rfl) ?_
        clear H
        intro wx H
        replace HS := HS.of H
        refine ⟨HS, ?_⟩
        (try simp only [Act.put])
        refine branchH [14] (by kernel_rfl) (by kernel_rfl) (AllStep.cons ?_ AllStep.nil)
        refine stepH_do (i := 14) rfl (by rfl) ?_
        refine wp_store_st H 48 _ _ rfl rfl rfl (by kernel_rfl) (by rfl) (by kernel_rfl) ?_
        clear H
        intro wx H
        replace HS := HS.of H
        refine ⟨HS, ?_⟩
        (try simp only [Act.put])
        refine takeAssign (i := 15) rfl rfl _ (by rfl) (by kernel_rfl) (by kernel_rfl) (by kernel_rfl) (fun _ _ _ _ h => h) (by rfl) HS ?_
        (try simp only [Act.put, List.setIfInBounds_toArray, List.set_cons_zero, List.set_cons_succ])
        refine takeAssign (i := 16) rfl rfl _ (by rfl) (by kernel_rfl) (by kernel_rfl) (by kernel_rfl) (fun _ _ _ _ h => h) (by rfl) HS ?_
        (try simp only [Act.put, List.setIfInBounds_toArray, List.set_cons_zero, List.set_cons_succ])
        refine doneH (by kernel_rfl) ?_
        go_wp2_with fail
        go_meet
        exact ⟨_, _, G1, y1, G2, y2, rfl, rfl, rfl, rfl, v1, v2, H.subm _⟩
  case rest =>
    obtain ⟨g1, g2, G1, y1, G2, y2, rfl, rfl, rfl, rfl, v1, v2, H⟩ := hcut
    clear CD
    cases chg
    · go_wp2_with (first | ((with_reducible refine here_load ?_); first | refine ldR H rfl _ _ rfl rfl (by kernel_rfl) ?_ | refine ldS H rfl _ _ rfl rfl (by rfl) ?_ | refine ldSG H (by rfl) _ _ rfl rfl (by rfl) ?_ | refine ldRG H (by rfl) _ _ rfl rfl (by kernel_rfl) ?_) | ((with_reducible refine here_store ?_); first | (refine stR H rfl _ _ _ rfl rfl rfl (by rfl) (by rfl) (by kernel_rfl) ?_; clear H; intro wx H) | (refine stS H rfl _ _ _ rfl rfl _ rfl (by rfl) (by rfl) (by rfl) ?_; clear H; intro wx H)) | ((with_reducible refine here_alloc ?_); first | (refine wpList_alloc_st H rfl 37 rfl _ q_zero ?_; clear H; intro gq2 wx H) | (refine wpList_alloc_st H rfl 48 rfl _ ans_zero ?_; clear H; intro ga2 wx H) | (refine wpList_alloc_st H rfl 44 rfl _ ev_zero ?_; clear H; intro ge2 wx H)) | ((with_reducible refine here_box ?_); refine wpList_box_st H rfl _ _ rfl _ rfl ?_; clear H; intro gb2 wx H))
      exact HF.out _ (by first | rfl | trivial) (H.subm _)
    · go_upto_region 5 with (first | ((with_reducible refine here_store ?_); refine wpList_storePart2_st H rfl 37 _ _ rfl rfl rfl _ (tArr_put _ _ _ _ _ _ _ _ _ _ _) (by kernel_rfl) (by rfl) (by kernel_rfl) ?_; clear H; intro wx H) | ((with_reducible refine here_load ?_); first | refine ldR H rfl _ _ rfl rfl (by kernel_rfl) ?_ | refine ldS H rfl _ _ rfl rfl (by rfl) ?_ | refine ldSG H (by rfl) _ _ rfl rfl (by rfl) ?_ | refine ldRG H (by rfl) _ _ rfl rfl (by kernel_rfl) ?_) | ((with_reducible refine here_store ?_); first | (refine stR H rfl _ _ _ rfl rfl rfl (by rfl) (by rfl) (by kernel_rfl) ?_; clear H; intro wx H) | (refine stS H rfl _ _ _ rfl rfl _ rfl (by rfl) (by rfl) (by rfl) ?_; clear H; intro wx H)) | ((with_reducible refine here_alloc ?_); first | (refine wpList_alloc_st H rfl 37 rfl _ q_zero ?_; clear H; intro gq3 wx H) | (refine wpList_alloc_st H rfl 48 rfl _ ans_zero ?_; clear H; intro ga3 wx H) | (refine wpList_alloc_st H rfl 44 rfl _ ev_zero ?_; clear H; intro ge3 wx H)) | ((with_reducible refine here_box ?_); refine wpList_box_st H rfl _ _ rfl _ rfl ?_; clear H; intro gb3 wx H))
      (try simp only [Act.put])
      refine startT (by kernel_rfl) ?_
      have HS := trivial
      replace H := H.drew
      refine takeMove (i := 0) rfl rfl _ (by rfl) (by kernel_rfl) (by kernel_rfl) (by kernel_rfl) (fun _ _ _ _ h => h) (by rfl) HS ?_
      (try simp only [Act.put, List.setIfInBounds_toArray, List.set_cons_zero, List.set_cons_succ])
      refine takeMove (i := 1) rfl rfl _ (by rfl) (by kernel_rfl) (by kernel_rfl) (by kernel_rfl) (fun _ _ _ _ h => h) (by rfl) HS ?_
      (try simp only [Act.put, List.setIfInBounds_toArray, List.set_cons_zero, List.set_cons_succ])
      refine takeV (i := 2) (v := ?_) rfl (by kernel_rfl) (by kernel_rfl) (by kernel_rfl) (fun _ _ _ h => h) (by rfl) ?_ HS ?_
      rotate_left
      · (intro W hW; go_simp; try with_reducible rfl)
      (try simp only [Act.put, List.setIfInBounds_toArray, List.set_cons_zero, List.set_cons_succ])
      refine takeV (i := 3) (v := ?_) rfl (by kernel_rfl) (by kernel_rfl) (by kernel_rfl) (fun _ _ _ h => h) (by rfl) ?_ HS ?_
      rotate_left
      · (intro W hW; go_simp; try with_reducible rfl)
      (try simp only [Act.put, List.setIfInBounds_toArray, List.set_cons_zero, List.set_cons_succ])
      refine branchH [4, 5] (by kernel_rfl) (by kernel_rfl) (AllStep.cons ?_ (AllStep.cons ?_ AllStep.nil))
      · refine stepH_do (i := 4) rfl (by rfl) ?_
        refine wp_load1_st H 137 _ rfl rfl sc_Anss (by rfl) ?_
        refine ⟨trivial, ?_⟩
        (try simp only [Act.put, List.setIfInBounds_toArray, List.set_cons_zero, List.set_cons_succ])
        refine branchH [5] (by kernel_rfl) (by kernel_rfl) (AllStep.cons ?_ AllStep.nil)
        refine stepH_do (i := 5) rfl (by rfl) ?_
        refine wp_loadRow_st H 48 _ rfl rfl row_Answer (by kernel_rfl) ?_
        refine ⟨trivial, ?_⟩
        (try simp only [Act.put, List.setIfInBounds_toArray, List.set_cons_zero, List.set_cons_succ])
        refine branchH [6] (by kernel_rfl) (by kernel_rfl) (AllStep.cons ?_ AllStep.nil)
        refine stepH_do (i := 6) rfl (by rfl) ?_
        refine wp_buildSlice1_st H 137 _ rfl 48 Try.underlying137 _ rfl _ ans_info2 (by rfl) (by rfl) ?_
        clear H
        intro gs wx H
        refine ⟨trivial, ?_⟩
        (try simp only [Act.put, List.setIfInBounds_toArray, List.set_cons_zero, List.set_cons_succ])
        refine branchH [7] (by kernel_rfl) (by kernel_rfl) (AllStep.cons ?_ AllStep.nil)
        refine stepH_do (i := 7) rfl (by rfl) ?_
        refine wp_appendB_st (v := .slice Av n cv) H _ _ 137 rfl rfl rfl Try.underlying137 _ _ ans_info (by rfl) (by rfl) (by rfl) (by kernel_rfl) (by simp only [maxLen]; omega) (by omega) ?_
        clear H
        intro A9 c9 wx hc9 hc9' H
        refine ⟨trivial, ?_⟩
        (try simp only [Act.put, List.setIfInBounds_toArray, List.set_cons_zero, List.set_cons_succ])
        refine takeV (i := 8) (v := ?_) rfl (by kernel_rfl) (by kernel_rfl) (by kernel_rfl) (fun _ _ _ h => h) (by rfl) ?_ HS ?_
        rotate_left
        · (intro W hW; go_simp; try with_reducible rfl)
        (try simp only [Act.put, List.setIfInBounds_toArray, List.set_cons_zero, List.set_cons_succ])
        refine takeV (i := 9) (v := ?_) rfl (by kernel_rfl) (by kernel_rfl) (by kernel_rfl) (fun _ _ _ h => h) (by rfl) ?_ HS ?_
        rotate_left
        · (intro W hW; go_simp; try with_reducible rfl)
        (try simp only [Act.put, List.setIfInBounds_toArray, List.set_cons_zero, List.set_cons_succ])
        refine branchH [10] (by kernel_rfl) (by kernel_rfl) (AllStep.cons ?_ AllStep.nil)
        refine stepH_do (i := 10) rfl (by rfl) ?_
        refine wp_store1_st H 137 _ _ rfl rfl (.slice A9 (n + 1) c9) rfl (by rfl) _ (tArr_ans _ _ _ _ _ _ _) s1_Anss (by rfl) (by rfl) ?_
        clear H
        intro wx H
        refine ⟨trivial, ?_⟩
        (try simp only [Act.put])
        refine doneH (by kernel_rfl) ?_
        rw [anss_snoc] at H
        go_wp2_with fail
        refine HY.out _ (by first | rfl | trivial) ⟨G1, y1, G2, y2, .slice A9 (n + 1) c9, v1, v2, ?_⟩
        rw [List.length_append, HN.out]
        exact H.subm _
      · refine stepH_do (i := 5) rfl (by rfl) ?_
        refine wp_loadRow_st H 48 _ rfl rfl row_Answer (by kernel_rfl) ?_
        refine ⟨trivial, ?_⟩
        (try simp only [Act.put, List.setIfInBounds_toArray, List.set_cons_zero, List.set_cons_succ])
        refine branchH [4, 6] (by kernel_rfl) (by kernel_rfl) (AllStep.cons ?_ (AllStep.cons ?_ AllStep.nil))
        · refine stepH_do (i := 4) rfl (by rfl) ?_
          refine wp_load1_st H 137 _ rfl rfl sc_Anss (by rfl) ?_
          refine ⟨trivial, ?_⟩
          (try simp only [Act.put, List.setIfInBounds_toArray, List.set_cons_zero, List.set_cons_succ])
          refine branchH [6] (by kernel_rfl) (by kernel_rfl) (AllStep.cons ?_ AllStep.nil)
          refine stepH_do (i := 6) rfl (by rfl) ?_
          refine wp_buildSlice1_st H 137 _ rfl 48 Try.underlying137 _ rfl _ ans_info2 (by rfl) (by rfl) ?_
          clear H
          intro gs wx H
          refine ⟨trivial, ?_⟩
          (try simp only [Act.put, List.setIfInBounds_toArray, List.set_cons_zero, List.set_cons_succ])
          refine branchH [7] (by kernel_rfl) (by kernel_rfl) (AllStep.cons ?_ AllStep.nil)
          refine stepH_do (i := 7) rfl (by rfl) ?_
          refine wp_appendB_st (v := .slice Av n cv) H _ _ 137 rfl rfl rfl Try.underlying137 _ _ ans_info (by rfl) (by rfl) (by rfl) (by kernel_rfl) (by simp only [maxLen]; omega) (by omega) ?_
          clear H
          intro A9 c9 wx hc9 hc9' H
          refine ⟨trivial, ?_⟩
          (try simp only [Act.put, List.setIfInBounds_toArray, List.set_cons_zero, List.set_cons_succ])
          refine takeV (i := 8) (v := ?_) rfl (by kernel_rfl) (by kernel_rfl) (by kernel_rfl) (fun _ _ _ h => h) (by rfl) ?_ HS ?_
          rotate_left
          · (intro W hW; go_simp; try with_reducible rfl)
          (try simp only [Act.put, List.setIfInBounds_toArray, List.set_cons_zero, List.set_cons_succ])
          refine takeV (i := 9) (v := ?_) rfl (by kernel_rfl) (by kernel_rfl) (by kernel_rfl) (fun _ _ _ h => h) (by rfl) ?_ HS ?_
          rotate_left
          · (intro W hW; go_simp; try with_reducible rfl)
          (try simp only [Act.put, List.setIfInBounds_toArray, List.set_cons_zero, List.set_cons_succ])
          refine branchH [10] (by kernel_rfl) (by kernel_rfl) (AllStep.cons ?_ AllStep.nil)
          refine stepH_do (i := 10) rfl (by rfl) ?_
          refine wp_store1_st H 137 _ _ rfl rfl (.slice A9 (n + 1) c9) rfl (by rfl) _ (tArr_ans _ _ _ _ _ _ _) s1_Anss (by rfl) (by rfl) ?_
          clear H
          intro wx H
          refine ⟨trivial, ?_⟩
          (try simp only [Act.put])
          refine doneH (by kernel_rfl) ?_
          rw [anss_snoc] at H
          go_wp2_with fail
          refine HY.out _ (by first | rfl | trivial) ⟨G1, y1, G2, y2, .slice A9 (n + 1) c9, v1, v2, ?_⟩
          rw [List.length_append, HN.out]
          exact H.subm _
        · refine stepH_do (i := 6) rfl (by rfl) ?_
          refine wp_buildSlice1_st H 137 _ rfl 48 Try.underlying137 _ rfl _ ans_info2 (by rfl) (by rfl) ?_
          clear H
          intro gs wx H
          refine ⟨trivial, ?_⟩
          (try simp only [Act.put, List.setIfInBounds_toArray, List.set_cons_zero, List.set_cons_succ])
          refine branchH [4] (by kernel_rfl) (by kernel_rfl) (AllStep.cons ?_ AllStep.nil)
          refine stepH_do (i := 4) rfl (by rfl) ?_
          refine wp_load1_st H 137 _ rfl rfl sc_Anss (by rfl) ?_
          refine ⟨trivial, ?_⟩
          (try simp only [Act.put, List.setIfInBounds_toArray, List.set_cons_zero, List.set_cons_succ])
          refine branchH [7] (by kernel_rfl) (by kernel_rfl) (AllStep.cons ?_ AllStep.nil)
          refine stepH_do (i := 7) rfl (by rfl) ?_
          refine wp_appendB_st (v := .slice Av n cv) H _ _ 137 rfl rfl rfl Try.underlying137 _ _ ans_info (by rfl) (by rfl) (by rfl) (by kernel_rfl) (by simp only [maxLen]; omega) (by omega) ?_
          clear H
          intro A9 c9 wx hc9 hc9' H
          refine ⟨trivial, ?_⟩
          (try simp only [Act.put, List.setIfInBounds_toArray, List.set_cons_zero, List.set_cons_succ])
          refine takeV (i := 8) (v := ?_) rfl (by kernel_rfl) (by kernel_rfl) (by kernel_rfl) (fun _ _ _ h => h) (by rfl) ?_ HS ?_
          rotate_left
          · (intro W hW; go_simp; try with_reducible rfl)
          (try simp only [Act.put, List.setIfInBounds_toArray, List.set_cons_zero, List.set_cons_succ])
          refine takeV (i := 9) (v := ?_) rfl (by kernel_rfl) (by kernel_rfl) (by kernel_rfl) (fun _ _ _ h => h) (by rfl) ?_ HS ?_
          rotate_left
          · (intro W hW; go_simp; try with_reducible rfl)
          (try simp only [Act.put, List.setIfInBounds_toArray, List.set_cons_zero, List.set_cons_succ])
          refine branchH [10] (by kernel_rfl) (by kernel_rfl) (AllStep.cons ?_ AllStep.nil)
          refine stepH_do (i := 10) rfl (by rfl) ?_
          refine wp_store1_st H 137 _ _ rfl rfl (.slice A9 (n + 1) c9) rfl (by rfl) _ (tArr_ans _ _ _ _ _ _ _) s1_Anss (by rfl) (by rfl) ?_
          clear H
          intro wx H
          refine ⟨trivial, ?_⟩
          (try simp only [Act.put])
          refine doneH (by kernel_rfl) ?_
          rw [anss_snoc] at H
          go_wp2_with fail
          refine HY.out _ (by first | rfl | trivial) ⟨G1, y1, G2, y2, .slice A9 (n + 1) c9, v1, v2, ?_⟩
          rw [List.length_append, HN.out]
          exact H.subm _

end Go.Proofs.Ytjmncbfmjeeneaa
