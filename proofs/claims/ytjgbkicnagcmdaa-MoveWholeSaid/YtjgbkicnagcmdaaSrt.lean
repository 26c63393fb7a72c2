/- slices.SortFunc at messages, by the shelf's contract: laid in plain words (the laid tables are of this seat's numbers). -/
import Derived.Shelf.SlSortCmp.NoneTotal
import Derived.Shelf.SlicesG.Cmp
import Derived.Shelf.Small.Bits
import Derived.Ground.SlsfProg
import Derived.Ground.SlgcProg
import Derived.Ground.NamesProg
import Derived.Test.YtjgbkicnagcmdaaQM
namespace Go.Proofs.Ytjgbkicnagcmdaa
open Go.Shelf Go.RowKit Go.Lib Go.Sort
def sortMsg_ren : Go.Shelf.Ren := ⟨fun | 6 => 57 | 15 => 62 | 14 => 61 | 28 => 72 | 29 => 73 | 20 => 64 | 21 => 65 | 22 => 66 | 23 => 67 | 24 => 68 | 25 => 69 | 26 => 70 | 27 => 71 | 46 => 75 | 47 => 76 | 48 => 77 | 49 => 78 | 50 => 79 | 57 => 80 | n => n, fun | 22 => 39 | 24 => 91 | 25 => 112 | 3 => 3 | 39 => 118 | 0 => 0 | 53 => 128 | 55 => 130 | 4 => 4 | 46 => 121 | 45 => 120 | 50 => 125 | 5 => 5 | 9 => 9 | 66 => 131 | 70 => 135 | 76 => 137 | 77 => 138 | n => n, fun | n => n⟩
theorem sortMsg : Go.Proofs.SlLaysF0.n6 Try.prog sortMsg_ren := {
  mixed := by kernel_rfl
  f6 := ⟨Try.f57.name, by decide, Try.func57.trans (congrArg some (by kernel_rfl))⟩
  f14 := ⟨Try.f61.name, by decide, Try.func61.trans (congrArg some (by kernel_rfl))⟩
  f15 := Try.func62.trans (congrArg some (by kernel_rfl))
  f20 := ⟨Try.f64.name, by decide, Try.func64.trans (congrArg some (by kernel_rfl))⟩
  f21 := ⟨Try.f65.name, by decide, Try.func65.trans (congrArg some (by kernel_rfl))⟩
  f22 := ⟨Try.f66.name, by decide, Try.func66.trans (congrArg some (by kernel_rfl))⟩
  f23 := ⟨Try.f67.name, by decide, Try.func67.trans (congrArg some (by kernel_rfl))⟩
  f24 := ⟨Try.f68.name, by decide, Try.func68.trans (congrArg some (by kernel_rfl))⟩
  f25 := ⟨Try.f69.name, by decide, Try.func69.trans (congrArg some (by kernel_rfl))⟩
  f26 := ⟨Try.f70.name, by decide, Try.func70.trans (congrArg some (by kernel_rfl))⟩
  f27 := ⟨Try.f71.name, by decide, Try.func71.trans (congrArg some (by kernel_rfl))⟩
  f28 := Try.func72.trans (congrArg some (by kernel_rfl))
  f29 := Try.func73.trans (congrArg some (by kernel_rfl))
  f46 := ⟨Try.f75.name, by decide, Try.func75.trans (congrArg some (by kernel_rfl))⟩
  f47 := Try.func76.trans (congrArg some (by kernel_rfl))
  f48 := Try.func77.trans (congrArg some (by kernel_rfl))
  f49 := ⟨Try.f78.name, by decide, Try.func78.trans (congrArg some (by kernel_rfl))⟩
  f50 := ⟨Try.f79.name, by decide, Try.func79.trans (congrArg some (by kernel_rfl))⟩
  f57 := ⟨Try.f80.name, by decide, Try.func80.trans (congrArg some (by kernel_rfl))⟩
  t0 := Try.underlying0
  a0 := Try.isAgg0
  z0 := Try.sizeOf0
  v0 := Try.zeroValue0
  t3 := Try.underlying3
  a3 := Try.isAgg3
  z3 := Try.sizeOf3
  v3 := Try.zeroValue3
  t4 := Try.underlying4
  a4 := Try.isAgg4
  z4 := Try.sizeOf4
  v4 := Try.zeroValue4
  t5 := Try.underlying5
  a5 := Try.isAgg5
  z5 := Try.sizeOf5
  v5 := Try.zeroValue5
  t9 := Try.underlying9
  a9 := Try.isAgg9
  z9 := Try.sizeOf9
  v9 := Try.zeroValue9
  t22 := Try.underlying39
  a22 := Try.isAgg39
  z22 := Try.sizeOf39
  v22 := Try.zeroValue39
  t25 := Try.underlying112
  a25 := Try.isAgg112
  z25 := Try.sizeOf112
  v25 := Try.zeroValue112
  t39 := Try.underlying118
  a39 := Try.isAgg118
  z39 := Try.sizeOf118
  v39 := Try.zeroValue118
  t45 := Try.underlying120
  a45 := Try.isAgg120
  z45 := Try.sizeOf120
  v45 := Try.zeroValue120
  t46 := Try.underlying121
  a46 := Try.isAgg121
  z46 := Try.sizeOf121
  v46 := Try.zeroValue121
  t50 := Try.underlying125
  a50 := Try.isAgg125
  z50 := Try.sizeOf125
  v50 := Try.zeroValue125
  t53 := Try.underlying128
  a53 := Try.isAgg128
  z53 := Try.sizeOf128
  v53 := Try.zeroValue128
  t55 := Try.underlying130
  a55 := Try.isAgg130
  z55 := Try.sizeOf130
  v55 := Try.zeroValue130
  t66 := Try.underlying131
  a66 := Try.isAgg131
  z66 := Try.sizeOf131
  v66 := Try.zeroValue131
  t70 := Try.underlying135
  a70 := Try.isAgg135
  z70 := Try.sizeOf135
  v70 := Try.zeroValue135
  t76 := Try.underlying137
  a76 := Try.isAgg137
  z76 := Try.sizeOf137
  v76 := Try.zeroValue137
  t77 := Try.underlying138
  a77 := Try.isAgg138
  z77 := Try.sizeOf138
  v77 := Try.zeroValue138 }
def cmpInt_ren : Go.Shelf.Ren := ⟨fun | 5 => 63 | 7 => 74 | n => n, fun | 22 => 3 | 3 => 3 | 4 => 4 | n => n, fun | n => n⟩
theorem cmpInt : Go.Proofs.SlLaysC2.n5 Try.prog cmpInt_ren := {
  mixed := by kernel_rfl
  f5 := ⟨Try.f63.name, by decide, Try.func63.trans (congrArg some (by kernel_rfl))⟩
  f7 := ⟨Try.f74.name, by decide, Try.func74.trans (congrArg some (by kernel_rfl))⟩
  t3 := Try.underlying3
  a3 := Try.isAgg3
  z3 := Try.sizeOf3
  v3 := Try.zeroValue3
  t4 := Try.underlying4
  a4 := Try.isAgg4
  z4 := Try.sizeOf4
  v4 := Try.zeroValue4
  t22 := Try.underlying3
  a22 := Try.isAgg3
  z22 := Try.sizeOf3
  v22 := Try.zeroValue3 }

def encMsg (x : Int × Int) : List Value := [.int .i64 x.1, .int .i64 x.2]
def cfMsg (x y : Int × Int) : Int := Lib.compareInt x.1 y.1
theorem ltMsg (x y : Int × Int) : ltOf cfMsg x y = decide (x.1 < y.1) := by
  unfold ltOf cfMsg Lib.compareInt
  by_cases h1 : x.1 < y.1
  · simp [h1]
  · by_cases h2 : y.1 < x.1 <;> simp [h1, h2]
theorem swoMsg : SWO (ltOf cfMsg) := {
  irrefl := fun x => by rw [ltMsg]; simp
  trans := fun x y z h1 h2 => by rw [ltMsg] at *; simp at *; omega
  ntrans := fun x y z h1 h2 => by rw [ltMsg] at *; simp at *; omega }

set_option maxHeartbeats 1000000 in
theorem byNo_any (x y : Int × Int) (W : World) : Calls Try.prog 58 #[.agg #[.int .i64 x.1, .int .i64 x.2], .agg #[.int .i64 y.1, .int .i64 y.2]] W fun e w' => e = .returned (.int .i64 (cfMsg x y)) ∧ ∃ q os', w' = grow (W.drewN q) os' := by
  have hcon := fun W' => AnyG.cmp_Compare_int cmpInt x.1 y.1 W'
  change ∀ W', Calls Try.prog 63 _ _ _ at hcon
  unfold cfMsg
  generalize Lib.compareInt x.1 y.1 = r at hcon ⊢
  go_enter Try.func58, Try.ntmps58
  go_wp2_with (go_at_call 63; refine (hcon _).mono ?_; rintro e w' ⟨rfl, rfl⟩)
  go_ret
  exact ⟨rfl, 0, _, by rw [alloc_eq_grow, alloc_eq_grow, grow_grow]; rfl⟩
theorem byNo_lays (blk off size : Nat) (w : World) : CmpLays Try.prog 58 #[] encMsg 2 cfMsg blk off size w := fun _ _ _ _ x y => byNo_any x y _

theorem fst_inj : ∀ (l : List (Int × Int)), (l.map Prod.fst).Nodup → ∀ a ∈ l, ∀ b ∈ l, a.1 = b.1 → a = b
  | [], _, _, h, _, _, _ => by cases h
  | x :: l, hn, a, ha, b, hb, e => by
    rw [List.map_cons, List.nodup_cons] at hn
    rcases List.mem_cons.1 ha with h1 | h1
    · rcases List.mem_cons.1 hb with h2 | h2
      · rw [h1, h2]
      · exact absurd (List.mem_map.2 ⟨b, h2, by rw [← e, h1]⟩) hn.1
    · rcases List.mem_cons.1 hb with h2 | h2
      · exact absurd (List.mem_map.2 ⟨a, h1, by rw [e, h2]⟩) hn.1
      · exact fst_inj l hn.2 a h1 b h2 e
theorem sorted_is (rd : List (Int × Int)) (d' : Array (Int × Int)) (hn : (rd.map Prod.fst).Nodup) (hp : PermIn 0 rd.toArray.size rd.toArray d') (hs : SortedIn (ltOf cfMsg) 0 rd.toArray.size d') : d'.toList = rd.mergeSort byNo := by
  obtain ⟨hsz, _, hperm⟩ := hp
  have e1 : d'.extract 0 rd.toArray.size = d' := by rw [← hsz]; exact Array.extract_size
  rw [e1, Array.extract_size] at hperm
  have hp2 : d'.toList.Perm rd := by simpa using hperm
  refine List.Perm.eq_of_pairwise (le := fun x y => byNo x y = true) ?_ ?_ ?_ (hp2.trans (List.mergeSort_perm _ _).symm)
  · intro a b ha hb h1 h2
    refine fst_inj rd hn a (hp2.mem_iff.1 ha) b ((List.mergeSort_perm _ _).mem_iff.1 hb) ?_
    simp [byNo] at h1 h2
    omega
  · refine List.pairwise_iff_getElem.2 fun i j hi hj hij => ?_
    have hi' : i < d'.size := by simpa using hi
    have hj' : j < d'.size := by simpa using hj
    have := hs i j (Nat.zero_le _) hij (by rw [← hsz]; exact hj')
    rw [ltMsg, getElem!_pos d' i hi', getElem!_pos d' j hj'] at this
    simp [byNo] at this ⊢
    exact this
  · exact List.pairwise_mergeSort (fun a b c h1 h2 => by simp [byNo] at *; omega) (fun a b => by simp [byNo]; omega) rd

theorem flat_msgs (l : List (Int × Int)) (j : Nat) (u : Value) (h : (msgCells l)[j]? = some u) : j < l.length * 2 ∧ (flatK encMsg 2 l.toArray)[j]! = u := by
  have hlen : (msgCells l).length = l.length * 2 := by
    have := rowCells_len 2 (l.map fun m => [m.1, m.2]) (fun r hr => by obtain ⟨x, _, rfl⟩ := List.mem_map.1 hr; rfl)
    simpa [msgCells] using this
  have hj : j < l.length * 2 := by
    rcases Nat.lt_or_ge j (l.length * 2) with h' | h'
    · exact h'
    · rw [List.getElem?_eq_none (by omega)] at h; cases h
  refine ⟨hj, ?_⟩
  rw [get_flatK _ _ _ _ (by simpa using hj)]
  have hi : j / 2 < l.length := by omega
  have hj2 : j = j / 2 * 2 + j % 2 := by omega
  rw [hj2] at h
  have hr : (l.map fun m => [m.1, m.2])[j / 2]? = some [l[j / 2].1, l[j / 2].2] := by simp [hi]
  rw [msgCells, rowCells_at 2 _ (fun r hr => by obtain ⟨x, _, rfl⟩ := List.mem_map.1 hr; rfl) (j / 2) (j % 2) _ hr (by omega)] at h
  rw [getElem!_pos l.toArray (j / 2) (by simpa using hi)]
  have : j % 2 = 0 ∨ j % 2 = 1 := by omega
  rcases this with e | e
  · rw [e] at h ⊢
    simpa [encMsg] using h
  · rw [e] at h ⊢
    simpa [encMsg] using h

def SortPost (w : World) (base : Nat) (v : Value) (rd : List (Int × Int)) (e : Ending) (w' : World) : Prop :=
  e = .returned (.tuple #[]) ∧ ∃ A c row, v = .slice A rd.length c ∧ rd.length ≤ c ∧ w.grownBy w' row ∧ (∀ k, row = some k → v.ownBlock = some k) ∧ Reads w' w'.heap.size 2 A rd.length (msgCells (rd.mergeSort byNo)) ∧ Fresh base A

theorem sort_grown {α : Type} [Inhabited α] (enc : α → List Value) (k : Nat) (w : World) (g n : Nat) (d : Array α) (os : Array Obj) : w.grownBy (sortWorldK enc k w g 0 n d os) (some g) := by
  refine ⟨rfl, rfl, rfl, by simp [sortWorldK, putRowK, Sort.ahead], fun j hj hne => ?_⟩
  unfold sortWorldK
  rw [heap_grow_old _ _ (by simpa [putRowK, Sort.ahead] using hj)]
  have : g ≠ j := fun e => hne (by rw [e])
  simp [putRowK, putRow, mapBlock, Sort.ahead, Array.getElem?_modify, this]

theorem sort_msgs (rd : List (Int × Int)) (v : Value) (n base : Nat) (w : World) (o : w.ownsRow base 91 2 v n (msgCells rd)) (hn : rd.length = n) (hd : (rd.map Prod.fst).Nodup) (hlen : n ≤ 500) :
    Calls Try.prog 57 #[v, .func (.func 58) #[] #[]] w (SortPost w base v rd) := by
  obtain ⟨A, c, rfl, hc, _⟩ := own_shape o
  have hF := own_fresh o
  subst hn
  by_cases h0 : rd.length = 0
  · have hrd : rd = [] := List.length_eq_zero_iff.1 h0
    subst hrd
    have hcon := AnyF.slices_SortFunc_none sortMsg A c (.func (.func 58) #[] #[]) w
    change Calls Try.prog 57 _ _ _ at hcon
    refine hcon.mono fun e w' ⟨he, hw⟩ => ?_
    subst hw
    exact ⟨he, A, c, none, rfl, hc, ⟨rfl, rfl, rfl, Nat.le_refl _, fun _ _ _ => rfl⟩, (fun _ h => by cases h), by rw [show ([] : List (Int × Int)).mergeSort byNo = [] by simp]; exact Reads.of_own o, hF⟩
  · rcases o.2 with ⟨_, h⟩ | ⟨g, cap, cur, hv, hbase, hheap, _, hcap, hsz, htake⟩
    · exact absurd h h0
    cases hv
    have hblk : g < w.heap.size := (Array.getElem?_eq_some_iff.1 hheap).1
    have hB : Blk w g 91 cur := hheap
    have hH : HoldsK encMsg 2 w g 0 rd.toArray := fun j hj => by
      have hj' : j < rd.length * 2 := by simpa using hj
      have hm : (msgCells rd)[j]? = some ((msgCells rd)[j]'(by rw [o.1]; exact hj')) := List.getElem?_eq_getElem _
      have hfl := (flat_msgs rd j _ hm).2
      refine ⟨?_, hB.frozen _⟩
      rw [Nat.zero_add, o.cellAt j hj', hfl]
      simp [hm]
    have eg : ∀ args w, (callFunc 58 args).run Try.prog w = .ok (.enter 58 args) w := enters_of Try.func58 (by kernel_rfl) rfl
    have hcon := AnyQ.slices_SortFunc sortMsg 2 Try.isAgg91 Try.sizeOf91 encMsg (fun _ => rfl) (fun x v hv => by simp [encMsg] at hv; rcases hv with rfl | rfl <;> rfl) cfMsg swoMsg 58 #[] g 0 c rd.toArray w eg (byNo_lays g 0 _ w) hH hblk (by simp; omega)
    change Calls Try.prog 57 _ _ _ at hcon
    have hcon' : Calls Try.prog 57 #[.slice (some ⟨g, 0, none⟩) rd.length c, .func (.func 58) #[] #[]] w _ := hcon
    refine hcon'.mono fun e w' ⟨he, d', k, os, hp, hs, hw⟩ => ?_
    subst hw
    have hd' := sorted_is rd d' hd hp hs
    have hd2 : d' = (rd.mergeSort byNo).toArray := by rw [← hd']
    subst hd2
    have hl : (rd.mergeSort byNo).length = rd.length := by simp
    have hgr := sort_grown encMsg 2 w g k (rd.mergeSort byNo).toArray os
    have hK : HoldsK encMsg 2 (sortWorldK encMsg 2 w g 0 k (rd.mergeSort byNo).toArray os) g 0 (rd.mergeSort byNo).toArray := holdsK_sortWorldK_c encMsg 2 w g 0 rd.toArray _ k os hH hblk (by simp)
    refine ⟨he, some ⟨g, 0, none⟩, c, some g, rfl, hc, hgr, (fun j hj => by cases hj; rfl), ⟨?_, fun hpos => ⟨⟨g, 0, none⟩, rfl, ?_, fun j u hu => ?_⟩⟩, hF⟩
    · have := rowCells_len 2 ((rd.mergeSort byNo).map fun m => [m.1, m.2]) (fun r hr => by obtain ⟨x, _, rfl⟩ := List.mem_map.1 hr; rfl)
      simpa [msgCells] using this
    · exact Nat.lt_of_lt_of_le hblk hgr.size
    · obtain ⟨h1, h2⟩ := flat_msgs _ j u hu
      have := (hK j (by simpa using h1)).1
      rw [h2] at this
      have hadd : (⟨g, 0, none⟩ : Addr).add j = ⟨g, 0 + j, none⟩ := by unfold Addr.add; split <;> simp_all
      rw [hadd]
      exact this

end Go.Proofs.Ytjgbkicnagcmdaa
