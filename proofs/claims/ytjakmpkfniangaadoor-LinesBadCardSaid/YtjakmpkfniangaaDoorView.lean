/- What an argument reads as: a slice of integers or bools, a slice of structs of integers, a struct of four integers. No program in sight. -/
import Derived.Test.YtjakmpkfniangaaDoorMem
import Derived.ProofKit
import Derived.SizedLaws
import Derived.ShutString
import Derived.Lib.SmallJoins
import Derived.Deep.Slices
import Derived.Deep.Fields
import Derived.Deep.Grids
import Derived.ChangeSame
namespace Go.Proofs.YtjakmpkfniangaaDoor
open Go.ChangeShapes Go.WideShapes Go.ChangeAt Go.RowKit Go.Deep Go.Joins

theorem lt_of_cell {w : World} {a : Addr} {v : Value} (h : w.cell? a = some v) : a.block < w.heap.size := by
  rcases Nat.lt_or_ge a.block w.heap.size with h' | h'
  · exact h'
  · unfold World.cell? at h
    rw [Array.getElem?_eq_none h'] at h
    simp at h

/-- the number in a cell -/
def numAt (w : World) (a : Addr) : Int := match w.cell? a with | some (.int _ z) => z | _ => 0

section
variable {H : Type} {enc : TypeId × Value → H} {P : Program} {W : World}

theorem view_nums {base : Nat} {t e : TypeId} {k : IntKind} {B : Nat} {v : Value} {d : DataW H} {p : List MemPlace} {ts : List TypeId} {ds : List (DataW H)} {j : Nat} (ht : P.underlying t = some (.slice e)) (he : P.underlying e = some (.int k))
    (hC : P.cellsOf e = 1) (hB : P.bytesOf e = B) (hv : Value.okWide P W .any base t v) (h : DataW.Trod enc P W 0 (fun _ => true) true t v d p) (hsz : (DataW.weightsEach P ts ds).all (· ≤ reachBytes) = true) (hj : ts[j]? = some t) (hd : ds[j]? = some d) :
    ∃ A n c, ∃ zs : List Int, v = .slice A n c ∧ zs.length = n ∧ n ≤ c ∧ c * B ≤ 140737488351232 ∧ Reads W W.heap.size 1 A n (zs.map (.int k)) ∧ ∀ z ∈ zs, (Lit.int k z).wf = true := by
  obtain ⟨a0, len, cap, rfl⟩ := okWide_slice ht hv
  obtain ⟨fuel, hf⟩ := h
  rcases open_ints ht he hC hf with ⟨hcs, _⟩ | ⟨x, l, c, zs, hcs, _, hl, hm, hz, hx, hcell, hwz⟩
  · simp [Value.cells] at hcs
    obtain ⟨rfl, rfl, rfl⟩ := hcs
    exact ⟨none, 0, 0, [], rfl, rfl, Nat.le_refl _, by omega, Reads.none_, by simp⟩
  · simp [Value.cells] at hcs
    obtain ⟨rfl, rfl, rfl⟩ := hcs
    simp only [Prod.mk.injEq] at hx
    obtain ⟨rfl, _⟩ := hx
    simp only [if_true] at hz
    have hb := sized_slice hsz hj hd ht
    simp only [lits, List.length_map, List.length_take, List.length_drop, hB, reachBytes] at hb
    have hc : min len zs.length + (zs.length - len) = cap := by omega
    rw [hc] at hb
    refine ⟨some x, len, cap, zs.take len, rfl, by simp; omega, hl, hb, ⟨by simp; omega, fun hn => ⟨x, rfl, ?_, fun i u hu => ?_⟩⟩, fun z hz' => hwz z (List.mem_of_mem_take hz')⟩
    · have := lt_of_cell (hcell 0 (by omega))
      rwa [block_of_add] at this
    · rw [List.getElem?_map] at hu
      rw [List.getElem?_take] at hu
      split at hu
      · rename_i hi
        have hi' : i < zs.length := by omega
        rw [List.getElem?_eq_getElem hi'] at hu
        simp only [Option.map_some, Option.some.injEq] at hu
        rw [← hu, hcell i hi']
        simp [List.getD, List.getElem?_eq_getElem hi']
      · simp at hu

theorem view_bools {base : Nat} {t e : TypeId} {v : Value} {d : DataW H} {p : List MemPlace} {ts : List TypeId} {ds : List (DataW H)} {j : Nat} {B : Nat} (ht : P.underlying t = some (.slice e)) (he : P.underlying e = some .bool)
    (hC : P.cellsOf e = 1) (hB : P.bytesOf e = B) (hv : Value.okWide P W .any base t v) (h : DataW.Trod enc P W 0 (fun _ => true) true t v d p) (hsz : (DataW.weightsEach P ts ds).all (· ≤ reachBytes) = true) (hj : ts[j]? = some t) (hd : ds[j]? = some d) :
    ∃ A n c, ∃ zs : List Bool, v = .slice A n c ∧ zs.length = n ∧ n ≤ c ∧ c * B ≤ 140737488351232 ∧ Reads W W.heap.size 1 A n (zs.map .bool) := by
  obtain ⟨a0, len, cap, rfl⟩ := okWide_slice ht hv
  obtain ⟨fuel, hf⟩ := h
  rcases open_bools ht he hC hf with ⟨hcs, _⟩ | ⟨x, l, c, bs, hcs, _, hl, hm, hx, hcell⟩
  · simp [Value.cells] at hcs
    obtain ⟨rfl, rfl, rfl⟩ := hcs
    exact ⟨none, 0, 0, [], rfl, rfl, Nat.le_refl _, by omega, Reads.none_⟩
  · simp [Value.cells] at hcs
    obtain ⟨rfl, rfl, rfl⟩ := hcs
    simp only [Prod.mk.injEq] at hx
    obtain ⟨rfl, _⟩ := hx
    simp only [boolRow] at hd
    have hb := sized_slice hsz hj hd ht
    simp only [List.length_map, List.length_range, hB, reachBytes] at hb
    have hc : len + (cap - len) = cap := by omega
    rw [hc] at hb
    refine ⟨some x, len, cap, (List.range len).map bs, rfl, by simp, hl, hb, by simp, fun hn => ⟨x, rfl, ?_, fun i u hu => ?_⟩⟩
    · have := lt_of_cell (hcell 0 (by omega))
      rwa [block_of_add] at this
    · rcases Nat.lt_or_ge i len with hi | hi
      · simp [hi] at hu
        rw [← hu]
        exact hcell i (by omega)
      · simp [hi] at hu

theorem open_slice_fields {base : Nat} {spare : Nat → Bool} {held : Bool} {t e : TypeId} {fs : Array Field} {fuel : Nat} {cs : List Value} {x : DataW H × List MemPlace} (ht : P.underlying t = some (.slice e)) (he : P.underlying e = some (.struct fs))
    (hone : oneCellFields P fs = true) (hC : P.cellsOf e = fs.size) (h : DataW.trod enc P W base spare held fuel t cs = some x) :
    (cs = [.slice none 0 0] ∧ x = (.nil, [])) ∨
    ∃ (a : Addr) (len cap m : Nat) (D : Nat → DataW H) (Pl : Nat → List MemPlace), cs = [.slice (some a) len cap] ∧ base ≤ a.block ∧ len ≤ cap ∧ cap ≤ maxLen ∧ m = (if spare a.block then cap else len) ∧
      x = (.slice ((List.range len).map D) ((List.range (m - len)).map fun j => D (len + j)), MemPlace.row a (m * fs.size) ++ (List.range m).flatMap Pl) ∧
      ∀ i, i < m → ∃ (ys : List (DataW H × List MemPlace)) (n : Nat), D i = .agg (ys.map (·.1)) ∧ Pl i = ys.flatMap (·.2) ∧ ys.length = fs.size ∧
        ∀ (j : Nat) (f : Field), fs[j]? = some f → ∃ (v : Value) (y : DataW H × List MemPlace), W.cell? (a.add (i * fs.size + j)) = some v ∧ ys[j]? = some y ∧ DataW.trod enc P W base spare held n f.type [v] = some y := by
  rcases open_slice ht h with h0 | ⟨a, len, cap, m, n, D, Pl, hcs, hb, hl, hm, hmm, hx, hi⟩
  · exact .inl h0
  · refine .inr ⟨a, len, cap, m, D, Pl, hcs, hb, hl, hm, hmm, by rw [hC] at hx; exact hx, fun i him => ?_⟩
    obtain ⟨cs', hc, ht'⟩ := hi i him
    rw [hC] at hc
    obtain ⟨ys, n', hn', hy, hlen, hyl, hf⟩ := DataW.trod_struct he ht'
    obtain ⟨_, hcl, hat⟩ := World.cells?_some hc
    simp only [Prod.mk.injEq] at hy
    refine ⟨ys, n', hy.1, hy.2, hyl, fun j f hj => ?_⟩
    obtain ⟨ho, hk⟩ := hone_of hone j f hj
    have hjl : j < fs.size := (Array.getElem?_eq_some_iff.1 hj).1
    have hcell := hat j hjl
    have hv : cs'[j]? = some (cs'[j]'(by omega)) := List.getElem?_eq_getElem (by omega)
    have h1 := hf j f hj
    rw [ho, hk] at h1
    have hone' : (cs'.drop j).take 1 = [cs'[j]'(by omega)] := by
      rw [List.drop_eq_getElem_cons (by omega)]
      rfl
    rw [hone'] at h1
    have hys : ys[j]? = some (ys[j]'(by omega)) := List.getElem?_eq_getElem (by omega)
    refine ⟨_, _, ?_, hys, h1.trans hys⟩
    rw [← Go.Deep.add_add, hcell, hv]

/-- the cells of a slice of structs whose fields are all 'int' -/
def rowCells (rows : List (List Int)) : List Value := rows.flatMap fun r => r.map (Value.int .i64)

theorem rowCells_len (s : Nat) : ∀ (rows : List (List Int)), (∀ r ∈ rows, r.length = s) → (rowCells rows).length = rows.length * s
  | [], _ => by simp [rowCells]
  | r :: rs, h => by
    have ih := rowCells_len s rs (fun x hx => h x (List.mem_cons_of_mem _ hx))
    have hr := h r (List.mem_cons_self ..)
    simp only [rowCells, List.flatMap_cons, List.length_append, List.length_map] at ih ⊢
    rw [ih, hr, List.length_cons, Nat.succ_mul]
    omega

theorem rowCells_at (s : Nat) : ∀ (rows : List (List Int)), (∀ r ∈ rows, r.length = s) → ∀ i j r, rows[i]? = some r → j < s → (rowCells rows)[i * s + j]? = (r[j]?).map (Value.int .i64)
  | [], _, i, _, _, h, _ => by simp at h
  | r0 :: rs, hl, 0, j, r, h, hj => by
    simp at h; subst h
    have hr := hl r0 (List.mem_cons_self ..)
    simp only [rowCells, List.flatMap_cons, Nat.zero_mul, Nat.zero_add]
    rw [List.getElem?_append_left (by simp; omega), List.getElem?_map]
  | r0 :: rs, hl, i + 1, j, r, h, hj => by
    have hr := hl r0 (List.mem_cons_self ..)
    have ih := rowCells_at s rs (fun x hx => hl x (List.mem_cons_of_mem _ hx)) i j r (by simpa using h) hj
    simp only [rowCells, List.flatMap_cons] at ih ⊢
    rw [List.getElem?_append_right (by simp [hr, Nat.succ_mul]; omega), ← ih]
    congr 1
    simp [hr, Nat.succ_mul]; omega

theorem view_rows {base : Nat} {t e ti : TypeId} {fs : Array Field} {v : Value} {d : DataW H} {p : List MemPlace} {ts : List TypeId} {ds : List (DataW H)} {j : Nat} {B : Nat} (ht : P.underlying t = some (.slice e)) (he : P.underlying e = some (.struct fs))
    (hone : oneCellFields P fs = true) (hC : P.cellsOf e = fs.size) (hB : P.bytesOf e = B) (hti : ∀ (j : Nat) (f : Field), fs[j]? = some f → f.type = ti) (hint : P.underlying ti = some (.int .i64)) (hfs : 0 < fs.size)
    (hv : Value.okWide P W .any base t v) (h : DataW.Trod enc P W 0 (fun _ => true) true t v d p) (hsz : (DataW.weightsEach P ts ds).all (· ≤ reachBytes) = true) (hj : ts[j]? = some t) (hd : ds[j]? = some d) :
    ∃ A n c, ∃ rows : List (List Int), v = .slice A n c ∧ rows.length = n ∧ n ≤ c ∧ c * B ≤ 140737488351232 ∧ Reads W W.heap.size fs.size A n (rowCells rows) ∧ (∀ r ∈ rows, r.length = fs.size ∧ ∀ z ∈ r, (Lit.int .i64 z).wf = true) := by
  obtain ⟨a0, len, cap, rfl⟩ := okWide_slice ht hv
  obtain ⟨fuel, hf⟩ := h
  rcases open_slice_fields ht he hone hC hf with ⟨hcs, _⟩ | ⟨x, l, c, m, D, Pl, hcs, _, hl, hm, hmm, hx, hi⟩
  · simp [Value.cells] at hcs
    obtain ⟨rfl, rfl, rfl⟩ := hcs
    exact ⟨none, 0, 0, [], rfl, rfl, Nat.le_refl _, by omega, by simp [rowCells]; exact Reads.none_, by simp⟩
  · simp [Value.cells] at hcs
    obtain ⟨rfl, rfl, rfl⟩ := hcs
    simp only [Prod.mk.injEq] at hx
    obtain ⟨rfl, _⟩ := hx
    simp only [if_true] at hmm
    subst hmm
    have hb := sized_slice hsz hj hd ht
    simp only [List.length_map, List.length_range, hB, reachBytes] at hb
    have hcc : len + (m - len) = m := by omega
    rw [hcc] at hb
    have hrow : ∀ i, i < len → ∃ r : List Int, r.length = fs.size ∧ (∀ z ∈ r, (Lit.int .i64 z).wf = true) ∧ ∀ j, j < fs.size → W.cell? (x.add (i * fs.size + j)) = some (.int .i64 (r.getD j 0)) := by
      intro i hil
      obtain ⟨ys, n', _, _, hyl, hf'⟩ := hi i (by omega)
      have hg : ∀ j, j < fs.size → ∃ z : Int, W.cell? (x.add (i * fs.size + j)) = some (.int .i64 z) ∧ (Lit.int .i64 z).wf = true := by
        intro j hjs
        obtain ⟨v, y, hc, _, ht'⟩ := hf' j fs[j] (Array.getElem?_eq_getElem hjs)
        rw [hti j fs[j] (Array.getElem?_eq_getElem hjs)] at ht'
        obtain ⟨z, hv', _, hw⟩ := DataW.trod_int hint ht'
        simp at hv'
        subst hv'
        exact ⟨z, hc, hw⟩
      refine ⟨(List.range fs.size).map fun j => numAt W (x.add (i * fs.size + j)), by simp, ?_, ?_⟩
      · intro z hz
        simp only [List.mem_map, List.mem_range] at hz
        obtain ⟨j, hj', rfl⟩ := hz
        obtain ⟨z, hc, hw⟩ := hg j hj'
        simpa [numAt, hc] using hw
      · intro j hj'
        obtain ⟨z, hc, hw⟩ := hg j hj'
        simp [List.getD, hj', numAt, hc]
    refine ⟨some x, len, m, (List.range len).map fun i => (List.range fs.size).map fun j => numAt W (x.add (i * fs.size + j)), rfl, by simp, hl, hb, ⟨?_, fun hn => ⟨x, rfl, ?_, fun i u hu => ?_⟩⟩, ?_⟩
    · rw [rowCells_len fs.size _ (by simp)]; simp
    · obtain ⟨r, _, _, hc⟩ := hrow 0 hn
      have := lt_of_cell (hc 0 hfs)
      rwa [block_of_add] at this
    · have hlen := rowCells_len fs.size ((List.range len).map fun i => (List.range fs.size).map fun j => numAt W (x.add (i * fs.size + j))) (by simp)
      have hil : i < len * fs.size := by
        rcases Nat.lt_or_ge i (len * fs.size) with h' | h'
        · exact h'
        · rw [List.getElem?_eq_none (by rw [hlen]; simpa using h')] at hu; cases hu
      have hq : i / fs.size < len := (Nat.div_lt_iff_lt_mul hfs).2 hil
      have hr : i % fs.size < fs.size := Nat.mod_lt _ hfs
      have hdm : i / fs.size * fs.size + i % fs.size = i := by rw [Nat.mul_comm]; exact Nat.div_add_mod i fs.size
      have hat := rowCells_at fs.size ((List.range len).map fun i => (List.range fs.size).map fun j => numAt W (x.add (i * fs.size + j))) (by simp) (i / fs.size) (i % fs.size) _ (by rw [List.getElem?_map, List.getElem?_range hq]; rfl) hr
      rw [hdm, hu] at hat
      simp [hr] at hat
      obtain ⟨r, _, _, hc⟩ := hrow (i / fs.size) hq
      have := hc (i % fs.size) hr
      rw [hdm] at this
      rw [hat, hdm, this]
      simp [numAt, this]
    · intro r hr
      simp only [List.mem_map, List.mem_range] at hr
      obtain ⟨i, hil, rfl⟩ := hr
      refine ⟨by simp, fun z hz => ?_⟩
      simp only [List.mem_map, List.mem_range] at hz
      obtain ⟨j, hj', rfl⟩ := hz
      obtain ⟨r, hrl, hw, hc⟩ := hrow i hil
      have := hc j hj'
      rw [numAt, this]
      exact hw _ (by rw [List.getD, List.getElem?_eq_getElem (by omega)]; simp)

end

/-- a number of 64 bits -/
def Is64 (a : Int) : Prop := -9223372036854775808 ≤ a ∧ a ≤ 9223372036854775807
/-- a slice of numbers that came in -/
def IsNums (k : IntKind) (B : Nat) (w : World) (A : Option Addr) (n c : Nat) (zs : List Int) : Prop :=
  zs.length = n ∧ n ≤ c ∧ c * B ≤ 140737488351232 ∧ Reads w w.heap.size 1 A n (zs.map (.int k)) ∧ ∀ z ∈ zs, (Lit.int k z).wf = true
/-- a slice of bools that came in -/
def IsBools (B : Nat) (w : World) (A : Option Addr) (n c : Nat) (zs : List Bool) : Prop :=
  zs.length = n ∧ n ≤ c ∧ c * B ≤ 140737488351232 ∧ Reads w w.heap.size 1 A n (zs.map .bool)
/-- a slice of structs of s integers that came in -/
def IsRows (s B : Nat) (w : World) (A : Option Addr) (n c : Nat) (rows : List (List Int)) : Prop :=
  rows.length = n ∧ n ≤ c ∧ c * B ≤ 140737488351232 ∧ Reads w w.heap.size s A n (rowCells rows) ∧ ∀ r ∈ rows, r.length = s ∧ ∀ z ∈ r, (Lit.int .i64 z).wf = true

theorem is64_of_wf {a : Int} (h : (Lit.int .i64 a).wf = true) : Is64 a := by
  simp [Lit.wf, IntKind.min, IntKind.max, IntKind.signed, IntKind.bits] at h
  unfold Is64
  omega
theorem u8_of_wf {a : Int} (h : (Lit.int .u8 a).wf = true) : 0 ≤ a ∧ a ≤ 255 := by
  simp [Lit.wf, IntKind.min, IntKind.max, IntKind.signed, IntKind.bits] at h
  omega

end Go.Proofs.YtjakmpkfniangaaDoor
