/- Words for memory: a slice that reads as a list ('Reads', after the guide's own lines), a row that the call made; conversions. No program in sight. And more of what the proof stands on. -/
import Derived.WalkKit
import Derived.WalkSpells
import Derived.WalkLawsBesides
import Derived.Below
import Derived.Laws.OwnMore
import Derived.Laws.BytesArg
import Derived.Deep.AppendLies
import Derived.Deep.Draws
import Derived.Maps.AppendAt
import Derived.RegionTactic
import Derived.OwnWalk
import Derived.Lib.Hide
import Derived.Laws.Rows
import Derived.StillTailTactics
import Derived.Test.YtjmncbfmjeeneaaChecked
import Derived.PlainAid
import Derived.Laws.BitsAllLaws
import Derived.Laws.BitsLemmas
import Derived.ProofKit
import Derived.SizedLaws
import Derived.ShutString
import Derived.Lib.SmallJoins
import Derived.Deep.Slices
import Derived.Deep.Fields
import Derived.Deep.Grids
import Derived.ChangeSame
import Derived.Laws.StructEq
import Derived.BigRegion
import Derived.Deep.QuietTactic
import Derived.BigQuiet
import Derived.Deep.RegionHeld3

namespace Go.Proofs.Ytjmncbfmjeeneaa
open Go.RowKit

theorem ret_true {b : Bool} (h : b = true) : Ending.returned (.bool b) = .returned (.bool true) := by rw [h]
theorem ret_int {k : IntKind} {a b : Int} (h : a = b) : Ending.returned (.int k a) = .returned (.int k b) := by rw [h]

theorem block_of_add (a : Addr) (n : Nat) : (a.add n).block = a.block := by unfold Addr.add; split <;> rfl
theorem add_of_add (a : Addr) (i j : Nat) : (a.add i).add j = a.add (i + j) := by
  unfold Addr.add
  by_cases hi : i = 0 <;> by_cases hj : j = 0 <;> simp [hi, hj, Nat.add_assoc]

/-- The slice value '.slice A n c' holds the cells xs, and lies below block B. -/
def Reads (w : World) (B size : Nat) (A : Option Addr) (n : Nat) (xs : List Value) : Prop :=
  xs.length = n * size ∧ (0 < n → ∃ ad, A = some ad ∧ ad.block < B ∧ ∀ j u, xs[j]? = some u → w.cell? (ad.add j) = some u)

section
variable {w w' : World} {B B' size n : Nat} {A : Option Addr} {xs : List Value}
theorem Reads.none_ : Reads w B size A 0 [] := ⟨by simp, fun h => absurd h (by omega)⟩
theorem Reads.at_ {k : Nat} (h : Reads w B 1 A n xs) (hk : k < n) : ∃ ad u, A = some ad ∧ ad.block < B ∧ xs[k]? = some u ∧ w.cell? (ad.add k) = some u := by
  obtain ⟨ad, e, hb, hc⟩ := h.2 (by omega)
  have hl : k < xs.length := by have := h.1; omega
  exact ⟨ad, xs[k], e, hb, List.getElem?_eq_getElem hl, hc k _ (List.getElem?_eq_getElem hl)⟩
theorem Reads.keep (h : Reads w B size A n xs) (hk : ∀ p : Addr, p.block < B → w'.cell? p = w.cell? p) : Reads w' B size A n xs :=
  ⟨h.1, fun hn => by
    obtain ⟨ad, e, hb, hc⟩ := h.2 hn
    exact ⟨ad, e, hb, fun j u hu => (hk _ (by rw [block_of_add]; exact hb)).trans (hc j u hu)⟩⟩
theorem Reads.more (h : Reads w B size A n xs) (hB : B ≤ B') : Reads w B' size A n xs :=
  ⟨h.1, fun hn => by
    obtain ⟨ad, e, hb, hc⟩ := h.2 hn
    exact ⟨ad, e, by omega, hc⟩⟩
theorem Reads.below (h : Reads w B size A n xs) (hb : Below B w w') : Reads w' B size A n xs := h.keep fun _ hp => hb.cell hp
theorem Reads.drew (h : Reads w B size A n xs) : Reads w.drew B size A n xs := h
theorem Reads.drewN (h : Reads w B size A n xs) (k : Nat) : Reads (w.drewN k) B size A n xs := h
theorem Reads.alloc (h : Reads w B size A n xs) (hB : B ≤ w.heap.size) (o : Obj) : Reads (w.alloc o) B size A n xs := h.keep fun p hp => World.cell?_alloc_lt w o p (by omega)
theorem Reads.setCell (h : Reads w B size A n xs) {p : Addr} (hB : B ≤ p.block) (u : Value) : Reads (w.setCell p u) B size A n xs :=
  h.keep fun q hq => World.cell?_setCell_other w p q u (fun e => by subst e; omega)
theorem Reads.grown (h : Reads w B size A n xs) {row : Option Nat} (hg : w.grownBy w' row) (hB : B ≤ w.heap.size) (hr : ∀ g, row = some g → B ≤ g) : Reads w' B size A n xs :=
  h.keep fun p hp => World.cell?_of_block (hg.block p.block (by omega) (fun e => by have := hr _ e.symm; omega))
theorem Reads.cut (h : Reads w B size A n xs) {k cap : Nat} (hk : k ≤ n) (hc : n ≤ cap) :
    Reads w B size (if cap = k then A else A.map (·.add (k * size))) (n - k) (xs.drop (k * size)) := by
  refine ⟨by rw [List.length_drop, h.1, Nat.sub_mul], fun hn => ?_⟩
  obtain ⟨ad, rfl, hb, hcell⟩ := h.2 (by omega)
  rw [if_neg (by omega)]
  refine ⟨ad.add (k * size), rfl, by rw [block_of_add]; exact hb, fun j u hu => ?_⟩
  rw [add_of_add]
  exact hcell _ u (by rw [← hu, List.getElem?_drop])
/-- the first k of them -/
theorem Reads.take (h : Reads w B size A n xs) {k : Nat} (hk : k ≤ n) : Reads w B size A k (xs.take (k * size)) := by
  refine ⟨by rw [List.length_take, h.1]; exact Nat.min_eq_left (Nat.mul_le_mul_right _ hk), fun hn => ?_⟩
  obtain ⟨ad, e, hb, hcell⟩ := h.2 (by omega)
  refine ⟨ad, e, hb, fun j u hu => hcell j u ?_⟩
  rw [List.getElem?_take] at hu
  split at hu
  · exact hu
  · cases hu
theorem Reads.of_own {base : Nat} {e : TypeId} {c : Nat} (h : w.ownsRow base e size (.slice A n c) n xs) : Reads w w.heap.size size A n xs := by
  refine ⟨h.1, fun hn => ?_⟩
  obtain ⟨g, cap, hv, _, hlt⟩ := h.form hn
  have hA : A = some ⟨g, 0, none⟩ := by injection hv
  subst hA
  exact ⟨_, rfl, hlt, h.cells (g := g) rfl⟩
theorem Reads.plain (h : Reads w B size A n xs) (hn : 0 < n) (hs : 0 < size) : ∃ b off, A = some ⟨b, off, none⟩ ∧ b < B ∧ ∀ j u, xs[j]? = some u → w.cell? ⟨b, off + j, none⟩ = some u := by
  obtain ⟨ad, rfl, hb, hc⟩ := h.2 hn
  have h0 : xs[0]? = some (xs[0]'(by have := h.1; have := Nat.mul_pos hn hs; omega)) := List.getElem?_eq_getElem _
  have hspot := World.cell?_spot (hc 0 _ h0)
  obtain ⟨b, off, spot⟩ := ad
  have : spot = none := by simpa [Addr.add] using hspot
  subst this
  exact ⟨b, off, rfl, hb, fun j u hu => by have := hc j u hu; simpa [Addr.add] using (by unfold Addr.add at this; split at this <;> simp_all : w.cell? ⟨b, off + j, none⟩ = some u)⟩
end

/-- a block that was just laid is a row of the call's own -/
theorem new_row (w : World) (e : TypeId) (vs : List Value) (cs : Array Value) (hcs : cs = vs.toArray) (hm : vs.length ≤ maxLen) :
    (w.alloc (.cells cs e)).ownsRow w.heap.size e 1 (.slice (some ⟨w.heap.size, 0, none⟩) vs.length vs.length) vs.length vs := by
  subst hcs
  exact ⟨by simp, .inr ⟨w.heap.size, vs.length, vs.toArray, rfl, Nat.le_refl _, heap_alloc_new w _, Nat.le_refl _, hm, by simp, by simp⟩⟩

section
variable {P : Program} (w : World)

theorem run_append_of_nil (base : Nat) (t ty e : TypeId) (i : TypeInfo) (size : Nat) (ht : P.underlying t = some (.slice e)) (hi : P.info? e = some i)
    (v : Value) (n : Nat) (xs : List Value) (hown : w.ownsRow base e size v n xs) (c : Nat) : (Builtin.append_ #[t, t] ty #[v, .slice none 0 c]).run P w = .ok v w := by
  rcases hown.2 with ⟨rfl, rfl⟩ | ⟨g, cap, cur, rfl, _, _, hnc, _⟩
  · simp [Builtin.append_, run_underlying ht, sizeOf, typeInfo, hi, Builtin.lenOf, Builtin.firstCells]
  · simp [Builtin.append_, run_underlying ht, sizeOf, typeInfo, hi, Builtin.lenOf, Builtin.firstCells, hnc, storeCells]

theorem run_append_any (base : Nat) (t ty e : TypeId) (i : TypeInfo) (z : Value) (size bytes : Nat) (ht : P.underlying t = some (.slice e)) (hi : P.info? e = some i) (hz : i.zero = some z)
    (hsize : i.size = size) (hby : i.bytes = bytes) (hzs : z.cells.size = size) (hsz : 0 < size)
    (v : Value) (n : Nat) (xs : List Value) (hown : w.ownsRow base e size v n xs)
    (B : Nat) (A : Option Addr) (m c : Nat) (news : List Value) (hr : Reads w B size A m news) (h1 : ∀ u ∈ news, u.oneCell' = true)
    (h63 : n + m ≤ maxLen) (hbytes : (n + m) * bytes ≤ 140737488355328) (hbase : base ≤ w.heap.size) :
    ∃ v' w', (Builtin.append_ #[t, t] ty #[v, .slice A m c]).run P w = .ok v' w' ∧ w'.ownsRow base e size v' (n + m) (xs ++ news) ∧ w.grownBy w' v.ownBlock ∧
      (v'.ownBlock = v.ownBlock ∨ v'.ownBlock = some w.heap.size) := by
  rcases A with _ | ad
  · have hm : m = 0 := by
      rcases Nat.eq_zero_or_pos m with h0 | h0
      · exact h0
      · obtain ⟨ad, h, _⟩ := hr.2 h0
        cases h
    subst hm
    have hn : news = [] := List.eq_nil_of_length_eq_zero (by simpa using hr.1)
    subst hn
    exact ⟨v, w, run_append_of_nil w base t ty e i size ht hi v n xs hown c, by simpa using hown, World.grownBy.refl w _, .inl rfl⟩
  · have hcells : ∀ j u, news[j]? = some u → w.cell? (ad.add j) = some u := by
      intro j u hu
      rcases Nat.eq_zero_or_pos m with h0 | h0
      · subst h0
        have hn : news = [] := List.eq_nil_of_length_eq_zero (by simpa using hr.1)
        subst hn
        simp at hu
      · obtain ⟨ad', h, _, hc⟩ := hr.2 h0
        injection h with h
        subst h
        exact hc j u hu
    obtain ⟨v', w', hrun, h2, h3, _, h5⟩ := run_append_own_at (P := P) w base t ty e i z size bytes ht hi hz hsize hby hzs hsz v n xs hown ad m c news hr.1 hcells h1 h63 hbytes hbase
    exact ⟨v', w', hrun, h2, h3, h5⟩

theorem wp_append_any {o : Oper} {a : Act} {K : Act → World → Prop} {Q : Exit → Act → World → Prop} (s x : Operand) (t : TypeId)
    (ho : o.op = .call { callee := .builtin .append, args := #[s, x], argTypes := #[t, t] })
    (base : Nat) (e : TypeId) (i : TypeInfo) (z : Value) (size bytes : Nat) (ht : P.underlying t = some (.slice e)) (hi : P.info? e = some i) (hz : i.zero = some z)
    (hsize : i.size = size) (hby : i.bytes = bytes) (hzs : z.cells.size = size) (hsz : 0 < size)
    (v : Value) (n : Nat) (xs : List Value) (hs : a.eval s = v) (hown : w.ownsRow base e size v n xs)
    (B : Nat) (A : Option Addr) (m c : Nat) (news : List Value) (hx : a.eval x = .slice A m c) (hr : Reads w B size A m news) (h1 : ∀ u ∈ news, u.oneCell' = true)
    (h63 : n + m ≤ maxLen) (hbytes : (n + m) * bytes ≤ 140737488355328) (hbase : base ≤ w.heap.size)
    (h : ∀ v' w', w'.ownsRow base e size v' (n + m) (xs ++ news) → w.grownBy w' v.ownBlock → (v'.ownBlock = v.ownBlock ∨ v'.ownBlock = some w.heap.size) → K (a.put o.dst v') w') : o.wp P a w K Q := by
  obtain ⟨v', w', hrun, h2, h3, h4⟩ := run_append_any (P := P) w base t o.type e i z size bytes ht hi hz hsize hby hzs hsz v n xs hown B A m c news hr h1 h63 hbytes hbase
  unfold Oper.wp execOp
  simp only [ho, resolve, invoke, builtin, Sem.run_bind, Sem.run_pure, Result.andThen_ok, List.map_toArray, List.map_cons, List.map_nil, hs, hx, hrun]
  exact h v' w' h2 h3 h4

theorem wpList_append_any {ops : Array Oper} {rest : List Oper} {o : Oper} {a : Act} {Q : Exit → Act → World → Prop} (hgd : o.guard = none) (s x : Operand) (t : TypeId)
    (ho : o.op = .call { callee := .builtin .append, args := #[s, x], argTypes := #[t, t] })
    (base : Nat) (e : TypeId) (i : TypeInfo) (z : Value) (size bytes : Nat) (ht : P.underlying t = some (.slice e)) (hi : P.info? e = some i) (hz : i.zero = some z)
    (hsize : i.size = size) (hby : i.bytes = bytes) (hzs : z.cells.size = size) (hsz : 0 < size)
    (v : Value) (n : Nat) (xs : List Value) (hs : a.eval s = v) (hown : w.ownsRow base e size v n xs)
    (B : Nat) (A : Option Addr) (m c : Nat) (news : List Value) (hx : a.eval x = .slice A m c) (hr : Reads w B size A m news) (h1 : ∀ u ∈ news, u.oneCell' = true)
    (h63 : n + m ≤ maxLen) (hbytes : (n + m) * bytes ≤ 140737488355328) (hbase : base ≤ w.heap.size)
    (h : ∀ v' w', w'.ownsRow base e size v' (n + m) (xs ++ news) → w.grownBy w' v.ownBlock → (v'.ownBlock = v.ownBlock ∨ v'.ownBlock = some w.heap.size) → wpList P ops Q rest (a.put o.dst v') w') : wpList P ops Q (o :: rest) a w :=
  wpList_plain hgd fun _ hK => wp_append_any w s x t ho base e i z size bytes ht hi hz hsize hby hzs hsz v n xs hs hown B A m c news hx hr h1 h63 hbytes hbase fun v' w' h2 h3 h4 => hK _ _ (h v' w' h2 h3 h4)

theorem step_append_any {ops : Array Oper} {o : Oper} {a : Act} {K : Act → World → Prop} {Q : Exit → Act → World → Prop} {E : Prop} (hgd : o.guard = none) (s x : Operand) (t : TypeId)
    (ho : o.op = .call { callee := .builtin .append, args := #[s, x], argTypes := #[t, t] })
    (base : Nat) (e : TypeId) (i : TypeInfo) (z : Value) (size bytes : Nat) (ht : P.underlying t = some (.slice e)) (hi : P.info? e = some i) (hz : i.zero = some z)
    (hsize : i.size = size) (hby : i.bytes = bytes) (hzs : z.cells.size = size) (hsz : 0 < size)
    (v : Value) (n : Nat) (xs : List Value) (hs : a.eval s = v) (hown : w.ownsRow base e size v n xs)
    (B : Nat) (A : Option Addr) (m c : Nat) (news : List Value) (hx : a.eval x = .slice A m c) (hr : Reads w B size A m news) (h1 : ∀ u ∈ news, u.oneCell' = true)
    (h63 : n + m ≤ maxLen) (hbytes : (n + m) * bytes ≤ 140737488355328) (hbase : base ≤ w.heap.size)
    (h : ∀ v' w', w'.ownsRow base e size v' (n + m) (xs ++ news) → w.grownBy w' v.ownBlock → (v'.ownBlock = v.ownBlock ∨ v'.ownBlock = some w.heap.size) → K (a.put o.dst v') w') :
    if Region.wanted o (yielded ops a.tmps) = true then Oper.wp P o a w K Q else E := by
  have hw : Region.wanted o (yielded ops a.tmps) = true := by simp [Region.wanted, hgd]
  rw [if_pos hw]
  exact wp_append_any w s x t ho base e i z size bytes ht hi hz hsize hby hzs hsz v n xs hs hown B A m c news hx hr h1 h63 hbytes hbase h
end

section
variable {w w' : World} {base size n : Nat} {e : TypeId} {v : Value} {xs : List Value}
/-- an owned slice is a slice -/
theorem own_shape (h : w.ownsRow base e size v n xs) : ∃ A c, v = .slice A n c ∧ n ≤ c ∧ c ≤ maxLen := by
  rcases h.2 with ⟨rfl, rfl⟩ | ⟨g, cap, cur, rfl, _, _, hc, hm, _⟩
  · exact ⟨_, _, rfl, Nat.le_refl _, by simp [maxLen]⟩
  · exact ⟨_, _, rfl, hc, hm⟩
/-- .. with elements: at the head of a row -/
theorem own_head (h : w.ownsRow base e size v n xs) (hn : 0 < n) : ∃ g c, v = .slice (some ⟨g, 0, none⟩) n c ∧ n ≤ c ∧ c ≤ maxLen ∧ base ≤ g ∧ g < w.heap.size := by
  rcases h.2 with ⟨rfl, rfl⟩ | ⟨g, cap, cur, rfl, hb, hg, hc, hm, _⟩
  · omega
  · refine ⟨_, _, rfl, hc, hm, hb, ?_⟩
    rcases Nat.lt_or_ge g w.heap.size with h' | h'
    · exact h'
    · rw [Array.getElem?_eq_none h'] at hg; cases hg
/-- what the call owns stays its own over a call of another function -/
theorem own_below {B : Nat} (h : w.ownsRow base e size v n xs) (hb : Below B w w') (hB : w.heap.size ≤ B) : w'.ownsRow base e size v n xs := by
  refine ⟨h.1, ?_⟩
  rcases h.2 with hn | ⟨g, cap, cur, rfl, hg, hh, r⟩
  · exact .inl hn
  · have hlt : g < w.heap.size := by
      rcases Nat.lt_or_ge g w.heap.size with h' | h'
      · exact h'
      · rw [Array.getElem?_eq_none h'] at hh; cases hh
    exact .inr ⟨g, cap, cur, rfl, hg, by rw [hb.block g (by omega)]; exact hh, r⟩
theorem own_base {base' : Nat} (h : w.ownsRow base e size v n xs) (hb : base' ≤ base) : w.ownsRow base' e size v n xs := by
  refine ⟨h.1, ?_⟩
  rcases h.2 with hn | ⟨g, cap, cur, rfl, hg, r⟩
  · exact .inl hn
  · exact .inr ⟨g, cap, cur, rfl, by omega, r⟩
end

/-- The call returns a slice of n elements in new memory that holds the cells vs; nothing that was there has turned. -/
def Gives (w : World) (e : TypeId) (size n : Nat) (vs : List Value) (ed : Ending) (w' : World) : Prop :=
  ∃ v, ed = .returned v ∧ w'.ownsRow w.heap.size e size v n vs ∧ Below w.heap.size w w'

/-- '[]byte' to 'string' -/
theorem conv_reads {P : Program} {w : World} {B n : Nat} {A : Option Addr} {xs : List Int} (h : Reads w B 1 A n (xs.map (Value.int .u8))) (src e dst : TypeId)
    (hs : P.underlying src = some (.slice e)) (he : P.underlying e = some (.int .u8)) (hd : P.underlying dst = some .string) (c : Nat) :
    (convert src dst (.slice A n c)).run P w = .ok (.string (strOfNums xs)) w := by
  have hl : xs.length = n := by simpa using h.1
  rcases Nat.eq_zero_or_pos n with h0 | h0
  · subst h0
    obtain rfl : xs = [] := List.eq_nil_of_length_eq_zero hl
    rcases A with _ | ad
    · rw [run_convert_bytes_nil (P := P) w src e hs he 0 c dst hd]; rfl
    · rw [run_convert_bytes_string w src dst e _ 0 c hs he hd, run_bytesToString w ad 0 c [] (by simpa using run_loadCells_list (P := P) w ad [] (by simp))]
      rfl
  · obtain ⟨b, off, rfl, _, hc⟩ := h.plain h0 (by omega)
    exact run_convert_bytes_arg w src e hs he b off n c xs hl (fun i hi => hc i _ (by
      rw [List.getElem?_map, List.getElem?_eq_getElem (show i < xs.length by omega)]; simp [List.getD, List.getElem?_eq_getElem (show i < xs.length by omega)])) dst hd

theorem bcell {W w1 : World} {B : Nat} (hb : Below B W w1) : (∀ b o, b < B → w1.cell? ⟨b, o, none⟩ = W.cell? ⟨b, o, none⟩) ∧ (∀ b o, b < B → w1.frozen? ⟨b, o, none⟩ = W.frozen? ⟨b, o, none⟩) :=
  ⟨fun b o h => hb.cell (p := ⟨b, o, none⟩) h, fun b o h => hb.frozen (p := ⟨b, o, none⟩) h⟩

def Blk (w : World) (g : Nat) (t : TypeId) (cs : Array Value) : Prop := w.heap[g]? = some (.cells cs t (0, 0))

section
variable {w w' : World} {g : Nat} {t : TypeId} {cs : Array Value}
theorem Blk.lt (h : Blk w g t cs) : g < w.heap.size := by
  rcases Nat.lt_or_ge g w.heap.size with hlt | hge
  · exact hlt
  · unfold Blk at h; rw [Array.getElem?_eq_none hge] at h; cases h
theorem Blk.cell (h : Blk w g t cs) (i : Nat) : w.cell? ⟨g, i, none⟩ = cs[i]? := cell_of_row w g i cs t (0, 0) h
theorem Blk.frozen (h : Blk w g t cs) (i : Nat) : w.frozen? ⟨g, i, none⟩ = false := by
  unfold Blk at h
  simp [World.frozen?, h]
theorem Blk.new (w : World) (t : TypeId) (cs : Array Value) : Blk (w.alloc (.cells cs t)) w.heap.size t cs := heap_alloc_new w _
theorem Blk.drew (h : Blk w g t cs) : Blk w.drew g t cs := h
theorem Blk.drewN (h : Blk w g t cs) (n : Nat) : Blk (w.drewN n) g t cs := h
theorem Blk.alloc (h : Blk w g t cs) (o : Obj) : Blk (w.alloc o) g t cs := (Below.heap_alloc w o g h.lt).trans h
theorem Blk.set_ (h : Blk w g t cs) (i : Nat) (u : Value) : Blk (w.setCell ⟨g, i, none⟩ u) g t (cs.setIfInBounds i u) := by
  unfold Blk at h ⊢
  simp [World.setCell, Array.getElem?_modify, h]
theorem Blk.far (h : Blk w g t cs) {p : Addr} (hp : g ≠ p.block) (u : Value) : Blk (w.setCell p u) g t cs := (Below.heap_setCell w p u g hp).trans h
theorem Blk.below {B : Nat} (h : Blk w g t cs) (hb : Below B w w') (hg : g < B) : Blk w' g t cs := (hb.block g hg).trans h
theorem Blk.grown {row : Option Nat} (h : Blk w g t cs) (hb : w.grownBy w' row) (hg : some g ≠ row) : Blk w' g t cs := (hb.block g h.lt hg).trans h
theorem Blk.ne_ {g' : Nat} {t' : TypeId} {cs' : Array Value} (h : Blk w g t cs) (h' : Blk w g' t' cs') (hne : t ≠ t') : g ≠ g' := by
  rintro rfl
  unfold Blk at h h'
  rw [h] at h'
  injection h' with h'
  injection h' with _ ht
  exact hne ht
theorem own_blk_ne {base : Nat} {e : TypeId} {size n : Nat} {v : Value} {xs : List Value} (h : w.ownsRow base e size v n xs) (hg : Blk w g t cs) (hne : e ≠ t) : v.ownBlock ≠ some g := by
  rcases h.2 with ⟨rfl, _⟩ | ⟨g', cap, cur, rfl, _, hh, _⟩
  · simp [Value.ownBlock]
  · intro he
    have : g' = g := by simpa [Value.ownBlock] using he
    subst this
    exact Blk.ne_ (t := e) hh hg hne rfl
end

/-- A region that draws its order: all but its tail only read, or call what only reads; the world spelled as the walk spells it. -/
theorem region_tail {P : Program} {id : Nat} {Q : Exit → Act → World → Prop} {a : Act} {w : World} {l : List Oper} (n : Nat) (hm : P.follows .mixedOrders = true) (hB : Region.lexTailB .any l.toArray n = true)
    (h : wpStill P l.toArray w.drew (fun a' => wpList P l.toArray Q (l.drop n) a' w.drew) (l.take n) a) : (Code.region id l.toArray true).wp P Q a w :=
  wp_region_still_tail n hm hB h

end Go.Proofs.Ytjmncbfmjeeneaa

namespace Go.Proofs.Ytjmncbfmjeeneaa
open Go.RowKit

/-- what 'picked' answers -/
def pick (n m : Int) : Int := (if n < 0 then -(n + 1) else n) % m

theorem pick_lo (n m : Int) (hm : 0 < m) : 0 ≤ pick n m := by unfold pick; exact Int.emod_nonneg _ (by omega)
theorem pick_hi (n m : Int) (hm : 0 < m) : pick n m < m := by unfold pick; exact Int.emod_lt_of_pos _ hm

set_option maxHeartbeats 400000 in
theorem picked_any (n m : Int) (w : World) (h1 : -9223372036854775808 ≤ n) (h2 : n ≤ 9223372036854775807) (h3 : 1 ≤ m) (h4 : m ≤ 9223372036854775807) :
    Calls Try.prog 10 #[.int .i64 n, .int .i64 m] w fun e w' => e = .returned (.int .i64 (pick n m)) ∧ w = w' := by
  by_cases h : n < 0
  · go_enter Try.func10, Try.ntmps10
    go_wp2
    go_ret
    exact ⟨by rw [pick, if_pos h, ← Int.tmod_eq_emod_of_nonneg (by omega)]; simp, rfl⟩
  · go_enter Try.func10, Try.ntmps10
    go_wp2
    go_ret
    exact ⟨by rw [pick, if_neg (by omega)]; rfl, rfl⟩

theorem picked_still (n m r : Int) (w : World) (hr : pick n m = r) (h1 : -9223372036854775808 ≤ n) (h2 : n ≤ 9223372036854775807) (h3 : 1 ≤ m) (h4 : m ≤ 9223372036854775807) :
    Calls Try.prog 10 #[.int .i64 n, .int .i64 m] w fun e w' => e = .returned (.int .i64 r) ∧ w' = w := (picked_any n m w h1 h2 h3 h4).mono fun _ _ h => ⟨by rw [← hr]; exact h.1, h.2.symm⟩

end Go.Proofs.Ytjmncbfmjeeneaa

namespace Go.Proofs.Ytjmncbfmjeeneaa
open Go.RowKit

/-- the four bytes of a number -/
def four (n : Int) : List Int := [n / 16777216, n / 65536 % 256, n / 256 % 256, n % 256]

theorem u8_lt (a b : Int) (ha : 0 ≤ a) (ha' : a < 256) (hb : 0 ≤ b) (hb' : b < 256) : (UInt8.ofNat a.toNat < UInt8.ofNat b.toNat) ↔ a < b := by
  rw [UInt8.lt_iff_toNat_lt]
  simp only [UInt8.toNat_ofNat']
  omega

theorem u8_eq (a b : Int) (ha : 0 ≤ a) (ha' : a < 256) (hb : 0 ≤ b) (hb' : b < 256) : (UInt8.ofNat a.toNat = UInt8.ofNat b.toNat) ↔ a = b := by
  rw [← UInt8.toNat_inj]
  simp only [UInt8.toNat_ofNat']
  omega

theorem four_less (x y : Int) (hx : 0 ≤ x) (hx' : x < 2147483648) (hy : 0 ≤ y) (hy' : y < 2147483648) :
    Op.bytesLess (strOfNums (four x)).toList (strOfNums (four y)).toList = decide (x < y) := by
  rw [ByteArray.toList_eq, ByteArray.toList_eq, strOfNums_data, strOfNums_data]
  simp only [four, List.map_cons, List.map_nil, Op.bytesLess]
  have e1 := u8_lt (x / 16777216) (y / 16777216) (by omega) (by omega) (by omega) (by omega)
  have e2 := u8_lt (x / 65536 % 256) (y / 65536 % 256) (by omega) (by omega) (by omega) (by omega)
  have e3 := u8_lt (x / 256 % 256) (y / 256 % 256) (by omega) (by omega) (by omega) (by omega)
  have e4 := u8_lt (x % 256) (y % 256) (by omega) (by omega) (by omega) (by omega)
  have f1 := u8_eq (x / 16777216) (y / 16777216) (by omega) (by omega) (by omega) (by omega)
  have f2 := u8_eq (x / 65536 % 256) (y / 65536 % 256) (by omega) (by omega) (by omega) (by omega)
  have f3 := u8_eq (x / 256 % 256) (y / 256 % 256) (by omega) (by omega) (by omega) (by omega)
  have f4 := u8_eq (x % 256) (y % 256) (by omega) (by omega) (by omega) (by omega)
  generalize UInt8.ofNat (x / 16777216).toNat = a1 at *
  generalize UInt8.ofNat (x / 65536 % 256).toNat = a2 at *
  generalize UInt8.ofNat (x / 256 % 256).toNat = a3 at *
  generalize UInt8.ofNat (x % 256).toNat = a4 at *
  generalize UInt8.ofNat (y / 16777216).toNat = b1 at *
  generalize UInt8.ofNat (y / 65536 % 256).toNat = b2 at *
  generalize UInt8.ofNat (y / 256 % 256).toNat = b3 at *
  generalize UInt8.ofNat (y % 256).toNat = b4 at *
  rw [Bool.eq_iff_iff]
  simp only [Bool.or_eq_true, Bool.and_eq_true, decide_eq_true_eq, beq_iff_eq, Bool.and_false, Bool.or_false, e1, e2, e3, e4, f1, f2, f3]
  omega

/-- the two numbers of a sum -/
def sumStep (ab : Int × Int) (c : Int) : Int × Int := ((ab.1 + c) % 65521, (ab.2 + (ab.1 + c) % 65521) % 65521)
def sumAB (zs : List Int) : Int × Int := zs.foldl sumStep (1, 0)
/-- what 'tape.Sum' answers -/
def sumOf (zs : List Int) : Int := (sumAB zs).2 * 65536 + (sumAB zs).1

theorem sumAB_bd (zs : List Int) : 0 ≤ (sumAB zs).1 ∧ (sumAB zs).1 < 65521 ∧ 0 ≤ (sumAB zs).2 ∧ (sumAB zs).2 < 65521 := by
  have gen : ∀ (zs : List Int) (ab : Int × Int), (0 ≤ ab.1 ∧ ab.1 < 65521 ∧ 0 ≤ ab.2 ∧ ab.2 < 65521) → (0 ≤ (zs.foldl sumStep ab).1 ∧ (zs.foldl sumStep ab).1 < 65521 ∧ 0 ≤ (zs.foldl sumStep ab).2 ∧ (zs.foldl sumStep ab).2 < 65521) := by
    intro zs
    induction zs with
    | nil => intro ab h; exact h
    | cons z zs ih =>
      intro ab h
      rw [List.foldl_cons]
      exact ih _ (by simp only [sumStep]; omega)
  exact gen zs (1, 0) (by simp)
theorem sumOf_bd (zs : List Int) : 0 ≤ sumOf zs ∧ sumOf zs < 4293984256 := by
  have := sumAB_bd zs
  unfold sumOf
  omega
theorem sumAB_snoc (zs : List Int) (c : Int) : sumAB (zs ++ [c]) = sumStep (sumAB zs) c := by simp [sumAB]
theorem take_snoc (zs : List Int) (k : Nat) (h : k < zs.length) : zs.take (k + 1) = zs.take k ++ [zs.getD k 0] := by
  rw [List.take_succ_eq_append_getElem h]; simp [List.getD, List.getElem?_eq_getElem h]

theorem ofInt_i64 (a : Nat) (ha : a < 9223372036854775808) : (BitVec.ofInt 64 (a : Int)).toNat = a := by
  rw [BitVec.ofInt_natCast, BitVec.toNat_ofNat]; exact Nat.mod_eq_of_lt (by omega)
theorem i64_or_nat (a b : Nat) (ha : a < 9223372036854775808) (hb : b < 9223372036854775808) : bits .or .i64 (a : Int) (b : Int) = ((a ||| b : Nat) : Int) := by
  have hx : a ||| b < 2 ^ 63 := Nat.or_lt_two_pow (by omega) (by omega)
  show IntKind.i64.wrap ((BitVec.ofInt 64 (a : Int) ||| BitVec.ofInt 64 (b : Int)).toNat : Int) = _
  rw [BitVec.toNat_or, ofInt_i64 a ha, ofInt_i64 b hb, IntKind.wrap_i64]
  omega
/-- 'b<<16 | a' -/
theorem or_shift (b a : Int) (hb : 0 ≤ b) (hb' : b < 140737488355328) (ha : 0 ≤ a) (ha' : a < 65536) : bits .or .i64 (b * 65536) a = b * 65536 + a := by
  obtain ⟨m, rfl⟩ := Int.eq_ofNat_of_zero_le hb
  obtain ⟨n, rfl⟩ := Int.eq_ofNat_of_zero_le ha
  have h := i64_or_nat (m * 65536) n (by omega) (by omega)
  rw [show ((m : Int) * 65536) = ((m * 65536 : Nat) : Int) by omega, h]
  have e : m * 65536 ||| n = m * 65536 + n := by
    rw [show m * 65536 = m <<< 16 by simp [Nat.shiftLeft_eq]]
    exact (Nat.shiftLeft_add_eq_or_of_lt (by omega) m).symm
  rw [e]
  omega

/-- 'n<<8 | c' -/
theorem or_shift8 (b a : Int) (hb : 0 ≤ b) (hb' : b < 35184372088832) (ha : 0 ≤ a) (ha' : a < 256) : bits .or .i64 (b * 256) a = b * 256 + a := by
  obtain ⟨m, rfl⟩ := Int.eq_ofNat_of_zero_le hb
  obtain ⟨n, rfl⟩ := Int.eq_ofNat_of_zero_le ha
  have h := i64_or_nat (m * 256) n (by omega) (by omega)
  rw [show ((m : Int) * 256) = ((m * 256 : Nat) : Int) by omega, h]
  have e : m * 256 ||| n = m * 256 + n := by
    rw [show m * 256 = m <<< 8 by simp [Nat.shiftLeft_eq]]
    exact (Nat.shiftLeft_add_eq_or_of_lt (by omega) m).symm
  rw [e]
  omega

/-- the number that bytes are -/
def valOf (zs : List Int) : Int := zs.foldl (fun a c => a * 256 + c) 0
theorem valOf_snoc (zs : List Int) (c : Int) : valOf (zs ++ [c]) = valOf zs * 256 + c := by simp [valOf]
theorem valOf_bd : ∀ (k : Nat) (zs : List Int), zs.length ≤ k → (∀ z ∈ zs, 0 ≤ z ∧ z ≤ 255) → 0 ≤ valOf zs ∧ valOf zs < 256 ^ k := by
  have gen : ∀ (zs : List Int) (a : Int) (m : Nat), (∀ z ∈ zs, 0 ≤ z ∧ z ≤ 255) → 0 ≤ a → a < 256 ^ m → 0 ≤ zs.foldl (fun a c => a * 256 + c) a ∧ zs.foldl (fun a c => a * 256 + c) a < 256 ^ (m + zs.length) := by
    intro zs
    induction zs with
    | nil => intro a m _ h0 h1; simpa using ⟨h0, h1⟩
    | cons z zs ih =>
      intro a m hz h0 h1
      have hz0 := hz z (List.mem_cons_self ..)
      have := ih (a * 256 + z) (m + 1) (fun x hx => hz x (List.mem_cons_of_mem _ hx)) (by omega) (by rw [Int.pow_succ]; omega)
      rw [List.foldl_cons, List.length_cons, show m + (zs.length + 1) = m + 1 + zs.length by omega]
      exact this
  intro k zs hk hz
  obtain ⟨h1, h2⟩ := gen zs 0 0 hz (by omega) (by simp)
  refine ⟨h1, Int.lt_of_lt_of_le h2 ?_⟩
  rw [Nat.zero_add]
  have h : (256 : Nat) ^ zs.length ≤ 256 ^ k := Nat.pow_le_pow_right (by omega) hk
  have h' := Int.ofNat_le.2 h
  rw [Int.natCast_pow, Int.natCast_pow] at h'
  exact h'

theorem valOf_four (n : Int) : valOf (four n) = n := by
  simp only [valOf, four, List.foldl_cons, List.foldl_nil]
  omega

end Go.Proofs.Ytjmncbfmjeeneaa

namespace Go.Proofs.Ytjmncbfmjeeneaa
open Go.ChangeShapes Go.WideShapes Go.ChangeAt Go.RowKit Go.Deep Go.Joins

theorem lt_of_cell {w : World} {a : Addr} {v : Value} (h : w.cell? a = some v) : a.block < w.heap.size := by
  rcases Nat.lt_or_ge a.block w.heap.size with h' | h'
  · exact h'
  · unfold World.cell? at h
    rw [Array.getElem?_eq_none h'] at h
    simp at h

/-- the number in a cell -/
def numAt (w : World) (a : Addr) : Int := match w.cell? a with | some (.int _ z) => z | _ => 0

section
variable {H : Type} {enc : TypeId × Value → H} {P : Program} {W : World}

theorem view_nums {base : Nat} {t e : TypeId} {k : IntKind} {B : Nat} {v : Value} {d : DataW H} {p : List MemPlace} {ts : List TypeId} {ds : List (DataW H)} {j : Nat} (ht : P.underlying t = some (.slice e)) (he : P.underlying e = some (.int k))
    (hC : P.cellsOf e = 1) (hB : P.bytesOf e = B) (hv : Value.okWide P W .any base t v) (h : DataW.Trod enc P W 0 (fun _ => true) true t v d p) (hsz : (DataW.weightsEach P ts ds).all (· ≤ reachBytes) = true) (hj : ts[j]? = some t) (hd : ds[j]? = some d) :
    ∃ A n c, ∃ zs : List Int, v = .slice A n c ∧ zs.length = n ∧ n ≤ c ∧ c * B ≤ 140737488351232 ∧ Reads W W.heap.size 1 A n (zs.map (.int k)) ∧ ∀ z ∈ zs, (Lit.int k z).wf = true := by
  obtain ⟨a0, len, cap, rfl⟩ := okWide_slice ht hv
  obtain ⟨fuel, hf⟩ := h
  rcases open_ints ht he hC hf with ⟨hcs, _⟩ | ⟨x, l, c, zs, hcs, _, hl, hm, hz, hx, hcell, hwz⟩
  · simp [Value.cells] at hcs
    obtain ⟨rfl, rfl, rfl⟩ := hcs
    exact ⟨none, 0, 0, [], rfl, rfl, Nat.le_refl _, by omega, Reads.none_, by simp⟩
  · simp [Value.cells] at hcs
    obtain ⟨rfl, rfl, rfl⟩ := hcs
    simp only [Prod.mk.injEq] at hx
    obtain ⟨rfl, _⟩ := hx
    simp only [if_true] at hz
    have hb := sized_slice hsz hj hd ht
    simp only [lits, List.length_map, List.length_take, List.length_drop, hB, reachBytes] at hb
    have hc : min len zs.length + (zs.length - len) = cap := by omega
    rw [hc] at hb
    refine ⟨some x, len, cap, zs.take len, rfl, by simp; omega, hl, hb, ⟨by simp; omega, fun hn => ⟨x, rfl, ?_, fun i u hu => ?_⟩⟩, fun z hz' => hwz z (List.mem_of_mem_take hz')⟩
    · have := lt_of_cell (hcell 0 (by omega))
      rwa [block_of_add] at this
    · rw [List.getElem?_map] at hu
      rw [List.getElem?_take] at hu
      split at hu
      · rename_i hi
        have hi' : i < zs.length := by omega
        rw [List.getElem?_eq_getElem hi'] at hu
        simp only [Option.map_some, Option.some.injEq] at hu
        rw [← hu, hcell i hi']
        simp [List.getD, List.getElem?_eq_getElem hi']
      · simp at hu

theorem view_bools {base : Nat} {t e : TypeId} {v : Value} {d : DataW H} {p : List MemPlace} {ts : List TypeId} {ds : List (DataW H)} {j : Nat} {B : Nat} (ht : P.underlying t = some (.slice e)) (he : P.underlying e = some .bool)
    (hC : P.cellsOf e = 1) (hB : P.bytesOf e = B) (hv : Value.okWide P W .any base t v) (h : DataW.Trod enc P W 0 (fun _ => true) true t v d p) (hsz : (DataW.weightsEach P ts ds).all (· ≤ reachBytes) = true) (hj : ts[j]? = some t) (hd : ds[j]? = some d) :
    ∃ A n c, ∃ zs : List Bool, v = .slice A n c ∧ zs.length = n ∧ n ≤ c ∧ c * B ≤ 140737488351232 ∧ Reads W W.heap.size 1 A n (zs.map .bool) := by
  obtain ⟨a0, len, cap, rfl⟩ := okWide_slice ht hv
  obtain ⟨fuel, hf⟩ := h
  rcases open_bools ht he hC hf with ⟨hcs, _⟩ | ⟨x, l, c, bs, hcs, _, hl, hm, hx, hcell⟩
  · simp [Value.cells] at hcs
    obtain ⟨rfl, rfl, rfl⟩ := hcs
    exact ⟨none, 0, 0, [], rfl, rfl, Nat.le_refl _, by omega, Reads.none_⟩
  · simp [Value.cells] at hcs
    obtain ⟨rfl, rfl, rfl⟩ := hcs
    simp only [Prod.mk.injEq] at hx
    obtain ⟨rfl, _⟩ := hx
    simp only [boolRow] at hd
    have hb := sized_slice hsz hj hd ht
    simp only [List.length_map, List.length_range, hB, reachBytes] at hb
    have hc : len + (cap - len) = cap := by omega
    rw [hc] at hb
    refine ⟨some x, len, cap, (List.range len).map bs, rfl, by simp, hl, hb, by simp, fun hn => ⟨x, rfl, ?_, fun i u hu => ?_⟩⟩
    · have := lt_of_cell (hcell 0 (by omega))
      rwa [block_of_add] at this
    · rcases Nat.lt_or_ge i len with hi | hi
      · simp [hi] at hu
        rw [← hu]
        exact hcell i (by omega)
      · simp [hi] at hu

theorem open_slice_fields {base : Nat} {spare : Nat → Bool} {held : Bool} {t e : TypeId} {fs : Array Field} {fuel : Nat} {cs : List Value} {x : DataW H × List MemPlace} (ht : P.underlying t = some (.slice e)) (he : P.underlying e = some (.struct fs))
    (hone : oneCellFields P fs = true) (hC : P.cellsOf e = fs.size) (h : DataW.trod enc P W base spare held fuel t cs = some x) :
    (cs = [.slice none 0 0] ∧ x = (.nil, [])) ∨
    ∃ (a : Addr) (len cap m : Nat) (D : Nat → DataW H) (Pl : Nat → List MemPlace), cs = [.slice (some a) len cap] ∧ base ≤ a.block ∧ len ≤ cap ∧ cap ≤ maxLen ∧ m = (if spare a.block then cap else len) ∧
      x = (.slice ((List.range len).map D) ((List.range (m - len)).map fun j => D (len + j)), MemPlace.row a (m * fs.size) ++ (List.range m).flatMap Pl) ∧
      ∀ i, i < m → ∃ (ys : List (DataW H × List MemPlace)) (n : Nat), D i = .agg (ys.map (·.1)) ∧ Pl i = ys.flatMap (·.2) ∧ ys.length = fs.size ∧
        ∀ (j : Nat) (f : Field), fs[j]? = some f → ∃ (v : Value) (y : DataW H × List MemPlace), W.cell? (a.add (i * fs.size + j)) = some v ∧ ys[j]? = some y ∧ DataW.trod enc P W base spare held n f.type [v] = some y := by
  rcases open_slice ht h with h0 | ⟨a, len, cap, m, n, D, Pl, hcs, hb, hl, hm, hmm, hx, hi⟩
  · exact .inl h0
  · refine .inr ⟨a, len, cap, m, D, Pl, hcs, hb, hl, hm, hmm, by rw [hC] at hx; exact hx, fun i him => ?_⟩
    obtain ⟨cs', hc, ht'⟩ := hi i him
    rw [hC] at hc
    obtain ⟨ys, n', hn', hy, hlen, hyl, hf⟩ := DataW.trod_struct he ht'
    obtain ⟨_, hcl, hat⟩ := World.cells?_some hc
    simp only [Prod.mk.injEq] at hy
    refine ⟨ys, n', hy.1, hy.2, hyl, fun j f hj => ?_⟩
    obtain ⟨ho, hk⟩ := hone_of hone j f hj
    have hjl : j < fs.size := (Array.getElem?_eq_some_iff.1 hj).1
    have hcell := hat j hjl
    have hv : cs'[j]? = some (cs'[j]'(by omega)) := List.getElem?_eq_getElem (by omega)
    have h1 := hf j f hj
    rw [ho, hk] at h1
    have hone' : (cs'.drop j).take 1 = [cs'[j]'(by omega)] := by
      rw [List.drop_eq_getElem_cons (by omega)]
      rfl
    rw [hone'] at h1
    have hys : ys[j]? = some (ys[j]'(by omega)) := List.getElem?_eq_getElem (by omega)
    refine ⟨_, _, ?_, hys, h1.trans hys⟩
    rw [← Go.Deep.add_add, hcell, hv]

/-- the cells of a slice of structs whose fields are all 'int' -/
def rowCells (rows : List (List Int)) : List Value := rows.flatMap fun r => r.map (Value.int .i64)

theorem rowCells_len (s : Nat) : ∀ (rows : List (List Int)), (∀ r ∈ rows, r.length = s) → (rowCells rows).length = rows.length * s
  | [], _ => by simp [rowCells]
  | r :: rs, h => by
    have ih := rowCells_len s rs (fun x hx => h x (List.mem_cons_of_mem _ hx))
    have hr := h r (List.mem_cons_self ..)
    simp only [rowCells, List.flatMap_cons, List.length_append, List.length_map] at ih ⊢
    rw [ih, hr, List.length_cons, Nat.succ_mul]
    omega

theorem rowCells_at (s : Nat) : ∀ (rows : List (List Int)), (∀ r ∈ rows, r.length = s) → ∀ i j r, rows[i]? = some r → j < s → (rowCells rows)[i * s + j]? = (r[j]?).map (Value.int .i64)
  | [], _, i, _, _, h, _ => by simp at h
  | r0 :: rs, hl, 0, j, r, h, hj => by
    simp at h; subst h
    have hr := hl r0 (List.mem_cons_self ..)
    simp only [rowCells, List.flatMap_cons, Nat.zero_mul, Nat.zero_add]
    rw [List.getElem?_append_left (by simp; omega), List.getElem?_map]
  | r0 :: rs, hl, i + 1, j, r, h, hj => by
    have hr := hl r0 (List.mem_cons_self ..)
    have ih := rowCells_at s rs (fun x hx => hl x (List.mem_cons_of_mem _ hx)) i j r (by simpa using h) hj
    simp only [rowCells, List.flatMap_cons] at ih ⊢
    rw [List.getElem?_append_right (by simp [hr, Nat.succ_mul]; omega), ← ih]
    congr 1
    simp [hr, Nat.succ_mul]; omega

theorem view_rows {base : Nat} {t e ti : TypeId} {fs : Array Field} {v : Value} {d : DataW H} {p : List MemPlace} {ts : List TypeId} {ds : List (DataW H)} {j : Nat} {B : Nat} (ht : P.underlying t = some (.slice e)) (he : P.underlying e = some (.struct fs))
    (hone : oneCellFields P fs = true) (hC : P.cellsOf e = fs.size) (hB : P.bytesOf e = B) (hti : ∀ (j : Nat) (f : Field), fs[j]? = some f → f.type = ti) (hint : P.underlying ti = some (.int .i64)) (hfs : 0 < fs.size)
    (hv : Value.okWide P W .any base t v) (h : DataW.Trod enc P W 0 (fun _ => true) true t v d p) (hsz : (DataW.weightsEach P ts ds).all (· ≤ reachBytes) = true) (hj : ts[j]? = some t) (hd : ds[j]? = some d) :
    ∃ A n c, ∃ rows : List (List Int), v = .slice A n c ∧ rows.length = n ∧ n ≤ c ∧ c * B ≤ 140737488351232 ∧ Reads W W.heap.size fs.size A n (rowCells rows) ∧ (∀ r ∈ rows, r.length = fs.size ∧ ∀ z ∈ r, (Lit.int .i64 z).wf = true) := by
  obtain ⟨a0, len, cap, rfl⟩ := okWide_slice ht hv
  obtain ⟨fuel, hf⟩ := h
  rcases open_slice_fields ht he hone hC hf with ⟨hcs, _⟩ | ⟨x, l, c, m, D, Pl, hcs, _, hl, hm, hmm, hx, hi⟩
  · simp [Value.cells] at hcs
    obtain ⟨rfl, rfl, rfl⟩ := hcs
    exact ⟨none, 0, 0, [], rfl, rfl, Nat.le_refl _, by omega, by simp [rowCells]; exact Reads.none_, by simp⟩
  · simp [Value.cells] at hcs
    obtain ⟨rfl, rfl, rfl⟩ := hcs
    simp only [Prod.mk.injEq] at hx
    obtain ⟨rfl, _⟩ := hx
    simp only [if_true] at hmm
    subst hmm
    have hb := sized_slice hsz hj hd ht
    simp only [List.length_map, List.length_range, hB, reachBytes] at hb
    have hcc : len + (m - len) = m := by omega
    rw [hcc] at hb
    have hrow : ∀ i, i < len → ∃ r : List Int, r.length = fs.size ∧ (∀ z ∈ r, (Lit.int .i64 z).wf = true) ∧ ∀ j, j < fs.size → W.cell? (x.add (i * fs.size + j)) = some (.int .i64 (r.getD j 0)) := by
      intro i hil
      obtain ⟨ys, n', _, _, hyl, hf'⟩ := hi i (by omega)
      have hg : ∀ j, j < fs.size → ∃ z : Int, W.cell? (x.add (i * fs.size + j)) = some (.int .i64 z) ∧ (Lit.int .i64 z).wf = true := by
        intro j hjs
        obtain ⟨v, y, hc, _, ht'⟩ := hf' j fs[j] (Array.getElem?_eq_getElem hjs)
        rw [hti j fs[j] (Array.getElem?_eq_getElem hjs)] at ht'
        obtain ⟨z, hv', _, hw⟩ := DataW.trod_int hint ht'
        simp at hv'
        subst hv'
        exact ⟨z, hc, hw⟩
      refine ⟨(List.range fs.size).map fun j => numAt W (x.add (i * fs.size + j)), by simp, ?_, ?_⟩
      · intro z hz
        simp only [List.mem_map, List.mem_range] at hz
        obtain ⟨j, hj', rfl⟩ := hz
        obtain ⟨z, hc, hw⟩ := hg j hj'
        simpa [numAt, hc] using hw
      · intro j hj'
        obtain ⟨z, hc, hw⟩ := hg j hj'
        simp [List.getD, hj', numAt, hc]
    refine ⟨some x, len, m, (List.range len).map fun i => (List.range fs.size).map fun j => numAt W (x.add (i * fs.size + j)), rfl, by simp, hl, hb, ⟨?_, fun hn => ⟨x, rfl, ?_, fun i u hu => ?_⟩⟩, ?_⟩
    · rw [rowCells_len fs.size _ (by simp)]; simp
    · obtain ⟨r, _, _, hc⟩ := hrow 0 hn
      have := lt_of_cell (hc 0 hfs)
      rwa [block_of_add] at this
    · have hlen := rowCells_len fs.size ((List.range len).map fun i => (List.range fs.size).map fun j => numAt W (x.add (i * fs.size + j))) (by simp)
      have hil : i < len * fs.size := by
        rcases Nat.lt_or_ge i (len * fs.size) with h' | h'
        · exact h'
        · rw [List.getElem?_eq_none (by rw [hlen]; simpa using h')] at hu; cases hu
      have hq : i / fs.size < len := (Nat.div_lt_iff_lt_mul hfs).2 hil
      have hr : i % fs.size < fs.size := Nat.mod_lt _ hfs
      have hdm : i / fs.size * fs.size + i % fs.size = i := by rw [Nat.mul_comm]; exact Nat.div_add_mod i fs.size
      have hat := rowCells_at fs.size ((List.range len).map fun i => (List.range fs.size).map fun j => numAt W (x.add (i * fs.size + j))) (by simp) (i / fs.size) (i % fs.size) _ (by rw [List.getElem?_map, List.getElem?_range hq]; rfl) hr
      rw [hdm, hu] at hat
      simp [hr] at hat
      obtain ⟨r, _, _, hc⟩ := hrow (i / fs.size) hq
      have := hc (i % fs.size) hr
      rw [hdm] at this
      rw [hat, hdm, this]
      simp [numAt, this]
    · intro r hr
      simp only [List.mem_map, List.mem_range] at hr
      obtain ⟨i, hil, rfl⟩ := hr
      refine ⟨by simp, fun z hz => ?_⟩
      simp only [List.mem_map, List.mem_range] at hz
      obtain ⟨j, hj', rfl⟩ := hz
      obtain ⟨r, hrl, hw, hc⟩ := hrow i hil
      have := hc j hj'
      rw [numAt, this]
      exact hw _ (by rw [List.getD, List.getElem?_eq_getElem (by omega)]; simp)

end

/-- a number of 64 bits -/
def Is64 (a : Int) : Prop := -9223372036854775808 ≤ a ∧ a ≤ 9223372036854775807
/-- a slice of numbers that came in -/
def IsNums (k : IntKind) (B : Nat) (w : World) (A : Option Addr) (n c : Nat) (zs : List Int) : Prop :=
  zs.length = n ∧ n ≤ c ∧ c * B ≤ 140737488351232 ∧ Reads w w.heap.size 1 A n (zs.map (.int k)) ∧ ∀ z ∈ zs, (Lit.int k z).wf = true
/-- a slice of bools that came in -/
def IsBools (B : Nat) (w : World) (A : Option Addr) (n c : Nat) (zs : List Bool) : Prop :=
  zs.length = n ∧ n ≤ c ∧ c * B ≤ 140737488351232 ∧ Reads w w.heap.size 1 A n (zs.map .bool)
/-- a slice of structs of s integers that came in -/
def IsRows (s B : Nat) (w : World) (A : Option Addr) (n c : Nat) (rows : List (List Int)) : Prop :=
  rows.length = n ∧ n ≤ c ∧ c * B ≤ 140737488351232 ∧ Reads w w.heap.size s A n (rowCells rows) ∧ ∀ r ∈ rows, r.length = s ∧ ∀ z ∈ r, (Lit.int .i64 z).wf = true

theorem is64_of_wf {a : Int} (h : (Lit.int .i64 a).wf = true) : Is64 a := by
  simp [Lit.wf, IntKind.min, IntKind.max, IntKind.signed, IntKind.bits] at h
  unfold Is64
  omega
theorem u8_of_wf {a : Int} (h : (Lit.int .u8 a).wf = true) : 0 ≤ a ∧ a ≤ 255 := by
  simp [Lit.wf, IntKind.min, IntKind.max, IntKind.signed, IntKind.bits] at h
  omega

end Go.Proofs.Ytjmncbfmjeeneaa

namespace Go.Proofs.Ytjmncbfmjeeneaa
open Go.RowKit

/-- an event -/
structure Ev where
  kind : Int
  prod : Int
  id : Int
  body : Int
  hep : Int
  hno : Int

def Ev.val (e : Ev) : Value := .agg #[.int .i64 e.kind, .int .i64 e.prod, .int .i64 e.id, .int .i64 e.body, .int .i64 e.hep, .int .i64 e.hno]

/-- what 'event' makes of raw numbers -/
def evOf (k a b c : Int) : Ev :=
  if pick k 8 < 3 then ⟨1, pick a 2, pick b 24, pick c 1000, 0, 0⟩
  else if pick k 8 < 5 then ⟨2, 0, 0, 0, 0, 0⟩
  else if pick k 8 < 7 then ⟨3, 0, 0, 0, pick a 3, pick b 6⟩
  else ⟨4, 0, 0, 0, 0, 0⟩

/-- within bounds? -/
def inB (n lo hi : Int) : Bool := decide (lo ≤ n) && decide (n ≤ hi)
def Ev.ok1 (e : Ev) : Bool := inB e.prod 0 3 && inB e.id 0 1073741824 && inB e.body 0 1000000
def Ev.ok3 (e : Ev) : Bool := inB e.hep 0 1048576 && inB e.hno 0 1073741824
/-- what 'pack.Check' answers -/
def Ev.check (e : Ev) : Int :=
  if e.kind = 1 then (if e.ok1 then (if e.hep = 0 ∧ e.hno = 0 then 0 else 3) else 2)
  else if e.kind = 3 then (if e.ok3 then (if e.prod = 0 ∧ e.id = 0 ∧ e.body = 0 then 0 else 3) else 2)
  else if e.kind = 2 ∨ e.kind = 4 then (if e.prod = 0 ∧ e.id = 0 ∧ e.body = 0 ∧ e.hep = 0 ∧ e.hno = 0 then 0 else 3)
  else 3

/-- are two events unlike? -/
def evNe (a b c d e f a' b' c' d' e' f' : Int) : Bool := !(a == a' && b == b' && c == c' && d == d' && e == e' && f == f')

theorem ev_neq (a b c d e f a' b' c' d' e' f' : Int) (w : World) :
    (binOp .neq 44 (.agg #[.int .i64 a, .int .i64 b, .int .i64 c, .int .i64 d, .int .i64 e, .int .i64 f]) (.agg #[.int .i64 a', .int .i64 b', .int .i64 c', .int .i64 d', .int .i64 e', .int .i64 f'])).run Try.prog w =
      .ok (.bool (evNe a b c d e f a' b' c' d' e' f')) w := by
  have h1 : Try.prog.underlying 44 = some (.struct (Try.prog.fieldsOf 44)) := by kernel_rfl
  have h2 : Try.prog.stoodInHeld 44 = false := by kernel_rfl
  rw [run_neq_struct, run_equalIn_struct _ _ _ _ _ h1 h2]
  unfold evNe
  simp [go_sem]
  repeat' split
  all_goals simp_all

theorem ev_eql (a b c d e f a' b' c' d' e' f' : Int) (w : World) :
    (binOp .eql 44 (.agg #[.int .i64 a, .int .i64 b, .int .i64 c, .int .i64 d, .int .i64 e, .int .i64 f]) (.agg #[.int .i64 a', .int .i64 b', .int .i64 c', .int .i64 d', .int .i64 e', .int .i64 f'])).run Try.prog w =
      .ok (.bool (!evNe a b c d e f a' b' c' d' e' f')) w := by
  have h1 : Try.prog.underlying 44 = some (.struct (Try.prog.fieldsOf 44)) := by kernel_rfl
  have h2 : Try.prog.stoodInHeld 44 = false := by kernel_rfl
  rw [run_eql_struct, run_equalIn_struct _ _ _ _ _ h1 h2]
  unfold evNe
  simp [go_sem]
  repeat' split
  all_goals simp_all

theorem handle_eql (a b a' b' : Int) (w : World) :
    (binOp .eql 42 (.agg #[.int .i64 a, .int .i64 b]) (.agg #[.int .i64 a', .int .i64 b'])).run Try.prog w = .ok (.bool (a == a' && b == b')) w := by
  have h1 : Try.prog.underlying 42 = some (.struct (Try.prog.fieldsOf 42)) := by kernel_rfl
  have h2 : Try.prog.stoodInHeld 42 = false := by kernel_rfl
  rw [run_eql_struct, run_equalIn_struct _ _ _ _ _ h1 h2]
  simp [go_sem]
  repeat' split
  all_goals simp_all

/-- the call returns v, and nothing that was there has turned -/
def Puts (w : World) (v : Value) (e : Ending) (w' : World) : Prop := e = .returned v ∧ Below w.heap.size w w'

set_option maxHeartbeats 400000 in
theorem within_any (n lo hi : Int) (w : World) :
    Calls Try.prog 51 #[.int .i64 n, .int .i64 lo, .int .i64 hi] w fun e w' => e = .returned (.bool (inB n lo hi)) ∧ w = w' := by
  have HB := Lib.hid (show inB n lo hi = (decide (lo ≤ n) && decide (n ≤ hi)) from rfl)
  generalize inB n lo hi = r at *
  by_cases h1 : lo ≤ n
  · by_cases h2 : n ≤ hi
    · go_enter Try.func51, Try.ntmps51
      go_wp2
      go_ret
      exact ⟨by rw [HB.out, decide_eq_true h1, decide_eq_true h2]; rfl, rfl⟩
    · go_enter Try.func51, Try.ntmps51
      go_wp2
      go_ret
      exact ⟨by rw [HB.out, decide_eq_true h1, decide_eq_false (by omega : ¬ n ≤ hi)]; rfl, rfl⟩
  · go_enter Try.func51, Try.ntmps51
    go_wp2
    go_ret
    exact ⟨by rw [HB.out, decide_eq_false (by omega : ¬ lo ≤ n)]; rfl, rfl⟩

theorem chk1_bad (prod id body hep hno : Int) (h : (inB prod 0 3 && inB id 0 1073741824 && inB body 0 1000000) = false) : 2 = Ev.check ⟨1, prod, id, body, hep, hno⟩ := by
  simp [Ev.check, Ev.ok1, h]
theorem chk1_ok (prod id body hep hno : Int) (h : (inB prod 0 3 && inB id 0 1073741824 && inB body 0 1000000) = true) :
    (if evNe 1 prod id body 0 0 1 prod id body hep hno = true then 3 else 0) = Ev.check ⟨1, prod, id, body, hep, hno⟩ := by
  by_cases h1 : hep = 0 <;> by_cases h2 : hno = 0 <;> simp_all [Ev.check, Ev.ok1, evNe]
  all_goals omega
theorem chk3_bad (prod id body hep hno : Int) (h : (inB hep 0 1048576 && inB hno 0 1073741824) = false) : 2 = Ev.check ⟨3, prod, id, body, hep, hno⟩ := by
  simp [Ev.check, Ev.ok3, h]
theorem chk3_ok (prod id body hep hno : Int) (h : (inB hep 0 1048576 && inB hno 0 1073741824) = true) :
    (if evNe 3 0 0 0 hep hno 3 prod id body hep hno = true then 3 else 0) = Ev.check ⟨3, prod, id, body, hep, hno⟩ := by
  by_cases h1 : prod = 0 <;> by_cases h2 : id = 0 <;> by_cases h3 : body = 0 <;> simp_all [Ev.check, Ev.ok3, evNe]
  all_goals omega
theorem chk24 (k prod id body hep hno : Int) (hk : k = 2 ∨ k = 4) :
    (if evNe k 0 0 0 0 0 k prod id body hep hno = true then 3 else 0) = Ev.check ⟨k, prod, id, body, hep, hno⟩ := by
  rcases hk with rfl | rfl <;>
  by_cases h1 : prod = 0 <;> by_cases h2 : id = 0 <;> by_cases h3 : body = 0 <;> by_cases h4 : hep = 0 <;> by_cases h5 : hno = 0 <;> simp_all [Ev.check, evNe]
  all_goals omega
theorem chk_else (k prod id body hep hno : Int) (h1 : k ≠ 1) (h2 : k ≠ 2) (h3 : k ≠ 3) (h4 : k ≠ 4) : 3 = Ev.check ⟨k, prod, id, body, hep, hno⟩ := by
  simp [Ev.check, h1, h2, h3, h4]

set_option maxHeartbeats 2000000 in
theorem check_kind1 (prod id body hep hno : Int) (w : World) :
    Calls Try.prog 26 #[.agg #[.int .i64 1, .int .i64 prod, .int .i64 id, .int .i64 body, .int .i64 hep, .int .i64 hno]] w (Puts w (.int .i64 (Ev.check ⟨1, prod, id, body, hep, hno⟩))) := by
  have hg : Try.prog.eqGuardType Try.prog.depth 44 = false := by kernel_rfl
  have hne := ev_neq
  have HBad := Lib.hid (chk1_bad prod id body hep hno)
  have HOk := Lib.hid (chk1_ok prod id body hep hno)
  generalize Ev.check ⟨1, prod, id, body, hep, hno⟩ = r at *
  cases h1 : inB prod 0 3 with
  | false =>
    go_enter Try.func26, Try.ntmps26
    go_wp2_with fail
    refine (within_any _ _ _ _).mono ?_
    rintro e w1 ⟨rfl, rfl⟩
    rw [h1]
    go_wp2_with fail
    go_region
    go_wp2
    go_ret
    exact ⟨ret_int (HBad.out (by rw [h1]; rfl)), by repeat (first | exact Below.refl _ _ | refine Below.drew ?_ | refine Below.alloc ?_ (by simp) _)⟩
  | true =>
    cases h2 : inB id 0 1073741824 with
    | false =>
      go_enter Try.func26, Try.ntmps26
      go_wp2_with fail
      refine (within_any _ _ _ _).mono ?_
      rintro e w1 ⟨rfl, rfl⟩
      rw [h1]
      go_wp2_with fail
      refine (within_any _ _ _ _).mono ?_
      rintro e w1 ⟨rfl, rfl⟩
      rw [h2]
      go_wp2_with fail
      go_region
      go_wp2
      go_ret
      exact ⟨ret_int (HBad.out (by rw [h1, h2]; rfl)), by repeat (first | exact Below.refl _ _ | refine Below.drew ?_ | refine Below.alloc ?_ (by simp) _)⟩
    | true =>
      go_enter Try.func26, Try.ntmps26
      go_wp2_with fail
      refine (within_any _ _ _ _).mono ?_
      rintro e w1 ⟨rfl, rfl⟩
      rw [h1]
      go_wp2_with fail
      refine (within_any _ _ _ _).mono ?_
      rintro e w1 ⟨rfl, rfl⟩
      rw [h2]
      go_wp2_with fail
      refine (within_any _ _ _ _).mono ?_
      rintro e w1 ⟨rfl, rfl⟩
      cases h3 : inB body 0 1000000 with
      | false =>
        go_wp2_with fail
        go_region
        go_wp2
        go_ret
        exact ⟨ret_int (HBad.out (by rw [h1, h2, h3]; rfl)), by repeat (first | exact Below.refl _ _ | refine Below.drew ?_ | refine Below.alloc ?_ (by simp) _)⟩
      | true =>
        have HO := Lib.hid (HOk.out (by rw [h1, h2, h3]; rfl))
        cases h4 : evNe 1 prod id body 0 0 1 prod id body hep hno with
        | false =>
          go_wp2_with fail
          go_region
          go_wp2
          go_ret
          exact ⟨ret_int (by rw [← HO.out, h4]; rfl), by repeat (first | exact Below.refl _ _ | refine Below.drew ?_ | refine Below.alloc ?_ (by simp) _)⟩
        | true =>
          go_wp2_with fail
          go_region
          go_wp2
          go_ret
          exact ⟨ret_int (by rw [← HO.out, h4]; rfl), by repeat (first | exact Below.refl _ _ | refine Below.drew ?_ | refine Below.alloc ?_ (by simp) _)⟩

set_option maxHeartbeats 2000000 in
theorem check_kind3 (prod id body hep hno : Int) (w : World) :
    Calls Try.prog 26 #[.agg #[.int .i64 3, .int .i64 prod, .int .i64 id, .int .i64 body, .int .i64 hep, .int .i64 hno]] w (Puts w (.int .i64 (Ev.check ⟨3, prod, id, body, hep, hno⟩))) := by
  have hg : Try.prog.eqGuardType Try.prog.depth 44 = false := by kernel_rfl
  have hne := ev_neq
  have HBad := Lib.hid (chk3_bad prod id body hep hno)
  have HOk := Lib.hid (chk3_ok prod id body hep hno)
  generalize Ev.check ⟨3, prod, id, body, hep, hno⟩ = r at *
  cases h1 : inB hep 0 1048576 with
  | false =>
    go_enter Try.func26, Try.ntmps26
    go_wp2_with fail
    refine (within_any _ _ _ _).mono ?_
    rintro e w1 ⟨rfl, rfl⟩
    rw [h1]
    go_wp2
    go_ret
    exact ⟨ret_int (HBad.out (by rw [h1]; rfl)), by repeat (first | exact Below.refl _ _ | refine Below.drew ?_ | refine Below.alloc ?_ (by simp) _)⟩
  | true =>
    go_enter Try.func26, Try.ntmps26
    go_wp2_with fail
    refine (within_any _ _ _ _).mono ?_
    rintro e w1 ⟨rfl, rfl⟩
    rw [h1]
    go_wp2_with fail
    refine (within_any _ _ _ _).mono ?_
    rintro e w1 ⟨rfl, rfl⟩
    cases h3 : inB hno 0 1073741824 with
    | false =>
      go_wp2
      go_ret
      exact ⟨ret_int (HBad.out (by rw [h1, h3]; rfl)), by repeat (first | exact Below.refl _ _ | refine Below.drew ?_ | refine Below.alloc ?_ (by simp) _)⟩
    | true =>
      have HO := Lib.hid (HOk.out (by rw [h1, h3]; rfl))
      cases h4 : evNe 3 0 0 0 hep hno 3 prod id body hep hno with
      | false =>
        go_wp2
        go_ret
        exact ⟨ret_int (by rw [← HO.out, h4]; rfl), by repeat (first | exact Below.refl _ _ | refine Below.drew ?_ | refine Below.alloc ?_ (by simp) _)⟩
      | true =>
        go_wp2
        go_ret
        exact ⟨ret_int (by rw [← HO.out, h4]; rfl), by repeat (first | exact Below.refl _ _ | refine Below.drew ?_ | refine Below.alloc ?_ (by simp) _)⟩

set_option maxHeartbeats 1000000 in
theorem check_any (k prod id body hep hno : Int) (w : World) :
    Calls Try.prog 26 #[.agg #[.int .i64 k, .int .i64 prod, .int .i64 id, .int .i64 body, .int .i64 hep, .int .i64 hno]] w (Puts w (.int .i64 (Ev.check ⟨k, prod, id, body, hep, hno⟩))) := by
  by_cases k1 : k = 1
  · subst k1; exact check_kind1 prod id body hep hno w
  by_cases k3 : k = 3
  · subst k3; exact check_kind3 prod id body hep hno w
  have hg : Try.prog.eqGuardType Try.prog.depth 44 = false := by kernel_rfl
  have hne := ev_neq
  by_cases k24 : k = 2 ∨ k = 4
  · have HO := Lib.hid (chk24 k prod id body hep hno k24)
    generalize Ev.check ⟨k, prod, id, body, hep, hno⟩ = r at *
    cases h4 : evNe k 0 0 0 0 0 k prod id body hep hno with
    | false =>
      have HF := Lib.hid (show 0 = r by rw [← HO.out, h4]; rfl)
      clear HO
      rcases k24 with rfl | rfl
      all_goals
        go_enter Try.func26, Try.ntmps26
        go_wp2
        go_ret
        exact ⟨ret_int HF.out, by repeat (first | exact Below.refl _ _ | refine Below.drew ?_ | refine Below.alloc ?_ (by simp) _)⟩
    | true =>
      have HF := Lib.hid (show 3 = r by rw [← HO.out, h4]; rfl)
      clear HO
      rcases k24 with rfl | rfl
      all_goals
        go_enter Try.func26, Try.ntmps26
        go_wp2
        go_ret
        exact ⟨ret_int HF.out, by repeat (first | exact Below.refl _ _ | refine Below.drew ?_ | refine Below.alloc ?_ (by simp) _)⟩
  · have k2 : k ≠ 2 := fun h => k24 (.inl h)
    have k4 : k ≠ 4 := fun h => k24 (.inr h)
    have HF := Lib.hid (chk_else k prod id body hep hno k1 k2 k3 k4)
    generalize Ev.check ⟨k, prod, id, body, hep, hno⟩ = r at *
    have q1 : (k == 1) = false := beq_eq_false_iff_ne.2 k1
    have q2 : (k == 2) = false := beq_eq_false_iff_ne.2 k2
    have q3 : (k == 3) = false := beq_eq_false_iff_ne.2 k3
    have q4 : (k == 4) = false := beq_eq_false_iff_ne.2 k4
    clear k1 k2 k3 k4 k24
    go_enter Try.func26, Try.ntmps26
    go_wp2
    go_ret
    exact ⟨ret_int HF.out, by repeat (first | exact Below.refl _ _ | refine Below.drew ?_ | refine Below.alloc ?_ (by simp) _)⟩

end Go.Proofs.Ytjmncbfmjeeneaa

namespace Go.Proofs.Ytjmncbfmjeeneaa
open Go.RowKit

/-- the cells of a window -/
def winCells (top : Int) (f : Nat → Bool) : Array Value := #[.int .i64 top, .bool (f 0), .bool (f 1), .bool (f 2), .bool (f 3), .bool (f 4), .bool (f 5), .bool (f 6), .bool (f 7)]

theorem winCells_set (top : Int) (f : Nat → Bool) (k : Nat) (hk : k < 8) : (winCells top f).setIfInBounds (1 + k) (.bool true) = winCells top (fun j => f j || j == k) := by
  rcases (show k = 0 ∨ k = 1 ∨ k = 2 ∨ k = 3 ∨ k = 4 ∨ k = 5 ∨ k = 6 ∨ k = 7 by omega) with rfl | rfl | rfl | rfl | rfl | rfl | rfl | rfl <;> simp [winCells]

theorem winCells_at (top : Int) (f : Nat → Bool) (k : Nat) (hk : k < 8) : (winCells top f)[1 + k]? = some (.bool (f k)) := by
  rcases (show k = 0 ∨ k = 1 ∨ k = 2 ∨ k = 3 ∨ k = 4 ∨ k = 5 ∨ k = 6 ∨ k = 7 by omega) with rfl | rfl | rfl | rfl | rfl | rfl | rfl | rfl <;> simp [winCells]

theorem winCells_congr (top : Int) (f g : Nat → Bool) (h : ∀ k, k < 8 → f k = g k) : winCells top f = winCells top g := by
  simp [winCells, h 0 (by omega), h 1 (by omega), h 2 (by omega), h 3 (by omega), h 4 (by omega), h 5 (by omega), h 6 (by omega), h 7 (by omega)]

/-- the cells of a window's block, one by one -/
theorem winBlk {w : World} {g : Nat} {t : TypeId} {top : Int} {f : Nat → Bool} (h : Blk w g t (winCells top f)) :
    w.cell? ⟨g, 0, none⟩ = some (.int .i64 top) ∧ w.cell? ⟨g, 1, none⟩ = some (.bool (f 0)) ∧ w.cell? ⟨g, 2, none⟩ = some (.bool (f 1)) ∧ w.cell? ⟨g, 3, none⟩ = some (.bool (f 2)) ∧ w.cell? ⟨g, 4, none⟩ = some (.bool (f 3)) ∧
      w.cell? ⟨g, 5, none⟩ = some (.bool (f 4)) ∧ w.cell? ⟨g, 6, none⟩ = some (.bool (f 5)) ∧ w.cell? ⟨g, 7, none⟩ = some (.bool (f 6)) ∧ w.cell? ⟨g, 8, none⟩ = some (.bool (f 7)) :=
  ⟨h.cell 0, h.cell 1, h.cell 2, h.cell 3, h.cell 4, h.cell 5, h.cell 6, h.cell 7, h.cell 8⟩


set_option maxHeartbeats 400000 in
theorem lowest_any (top : Int) (b0 b1 b2 b3 b4 b5 b6 b7 : Bool) (w : World) (h0 : 0 ≤ top) (h1 : top ≤ 1073741825) :
    Calls Try.prog 34 #[.agg #[.int .i64 top, .bool b0, .bool b1, .bool b2, .bool b3, .bool b4, .bool b5, .bool b6, .bool b7]] w (Puts w (.int .i64 (top - 8))) := by
  go_enter Try.func34, Try.ntmps34
  go_wp2
  go_ret
  exact ⟨rfl, (Below.refl _ _).alloc (Nat.le_refl _) _⟩

/-- a window that may be, seen as the set of the ids that were taken -/
structure WOk (top : Int) (S : Int → Bool) : Prop where
  lo : 0 ≤ top
  hi : top ≤ 1073741825
  in_ : ∀ x, S x = true → 0 ≤ x ∧ x < top
  last : 0 < top → S (top - 1) = true

/-- what a window shows of the ids -/
def shows (top : Int) (S : Int → Bool) (k : Nat) : Bool := S (top - 8 + k)

set_option maxHeartbeats 1000000 in
theorem wcheck_ok (top : Int) (S : Int → Bool) (w : World) (h : WOk top S) :
    Calls Try.prog 33 #[.agg (winCells top (shows top S))] w (Puts w (.int .i64 0)) := by
  obtain ⟨hlo, hhi, hin, hlast⟩ := h
  have hf : ∀ k, k < 8 → shows top S k = true → 0 ≤ top - 8 + k := fun k _ h => (hin _ h).1
  have h7 : 0 < top → shows top S 7 = true := fun h => by have := hlast h; unfold shows; rw [← this]; congr 1; omega
  generalize shows top S = f at *
  clear hin hlast
  have HF := Lib.hid hf
  have H7 := Lib.hid h7
  clear hf h7
  go_enter Try.func33, Try.ntmps33
  unfold winCells
  go_wp2
  go_loopw [15] (fun i wr => ∃ k : Nat, k ≤ 8 ∧ i = .int .i64 k ∧ Blk wr w.heap.size 34 (winCells top f) ∧ Below w.heap.size w wr) (fun i _ => 8 - (intOf i).toNat)
  case atStart => exact ⟨0, by omega, rfl, Blk.new _ _ _, (Below.refl _ _).alloc (Nat.le_refl _) _⟩
  case round =>
    obtain ⟨k, hk, rfl, hblk, hbel⟩ := hrel
    obtain ⟨c0, c1, c2, c3, c4, c5, c6, c7, c8⟩ := winBlk hblk
    rcases (show k = 0 ∨ k = 1 ∨ k = 2 ∨ k = 3 ∨ k = 4 ∨ k = 5 ∨ k = 6 ∨ k = 7 ∨ k = 8 by omega) with rfl | rfl | rfl | rfl | rfl | rfl | rfl | rfl | rfl
    · have i0 : ∀ W : World, (Instr.index 32 (.agg #[.bool (f 0), .bool (f 1), .bool (f 2), .bool (f 3), .bool (f 4), .bool (f 5), .bool (f 6), .bool (f 7)]) (.int .i64 0)).run Try.prog W = .ok (.bool (f 0)) W := fun _ => by kernel_rfl
      have hp := HF.out 0 (by omega)
      cases hs : f 0 with
      | false =>
        rw [hs] at i0
        clear hp
        go_wp2
        go_roundw
        case rel => exact ⟨1, by omega, rfl, hblk, hbel⟩
        case measure => simp [intOf]
      | true =>
        have hq := hp hs
        have hI : ¬ (top - 8 + (0 : Int) < 0) := by omega
        rw [hs] at i0
        clear hp hq
        go_wp2_with fail
        refine (lowest_any _ _ _ _ _ _ _ _ _ _ hlo hhi).mono ?_
        rintro e w1 ⟨rfl, hb⟩
        have hblk1 := hblk.below hb hblk.lt
        have hbel1 := hbel.trans (hb.mono hbel.size)
        clear hblk hbel hb c0 c1 c2 c3 c4 c5 c6 c7 c8
        go_wp2
        go_roundw
        case rel => exact ⟨1, by omega, rfl, hblk1, hbel1⟩
        case measure => simp [intOf]
    · have i0 : ∀ W : World, (Instr.index 32 (.agg #[.bool (f 0), .bool (f 1), .bool (f 2), .bool (f 3), .bool (f 4), .bool (f 5), .bool (f 6), .bool (f 7)]) (.int .i64 1)).run Try.prog W = .ok (.bool (f 1)) W := fun _ => by kernel_rfl
      have hp := HF.out 1 (by omega)
      cases hs : f 1 with
      | false =>
        rw [hs] at i0
        clear hp
        go_wp2
        go_roundw
        case rel => exact ⟨2, by omega, rfl, hblk, hbel⟩
        case measure => simp [intOf]
      | true =>
        have hq := hp hs
        have hI : ¬ (top - 8 + (1 : Int) < 0) := by omega
        rw [hs] at i0
        clear hp hq
        go_wp2_with fail
        refine (lowest_any _ _ _ _ _ _ _ _ _ _ hlo hhi).mono ?_
        rintro e w1 ⟨rfl, hb⟩
        have hblk1 := hblk.below hb hblk.lt
        have hbel1 := hbel.trans (hb.mono hbel.size)
        clear hblk hbel hb c0 c1 c2 c3 c4 c5 c6 c7 c8
        go_wp2
        go_roundw
        case rel => exact ⟨2, by omega, rfl, hblk1, hbel1⟩
        case measure => simp [intOf]
    · have i0 : ∀ W : World, (Instr.index 32 (.agg #[.bool (f 0), .bool (f 1), .bool (f 2), .bool (f 3), .bool (f 4), .bool (f 5), .bool (f 6), .bool (f 7)]) (.int .i64 2)).run Try.prog W = .ok (.bool (f 2)) W := fun _ => by kernel_rfl
      have hp := HF.out 2 (by omega)
      cases hs : f 2 with
      | false =>
        rw [hs] at i0
        clear hp
        go_wp2
        go_roundw
        case rel => exact ⟨3, by omega, rfl, hblk, hbel⟩
        case measure => simp [intOf]
      | true =>
        have hq := hp hs
        have hI : ¬ (top - 8 + (2 : Int) < 0) := by omega
        rw [hs] at i0
        clear hp hq
        go_wp2_with fail
        refine (lowest_any _ _ _ _ _ _ _ _ _ _ hlo hhi).mono ?_
        rintro e w1 ⟨rfl, hb⟩
        have hblk1 := hblk.below hb hblk.lt
        have hbel1 := hbel.trans (hb.mono hbel.size)
        clear hblk hbel hb c0 c1 c2 c3 c4 c5 c6 c7 c8
        go_wp2
        go_roundw
        case rel => exact ⟨3, by omega, rfl, hblk1, hbel1⟩
        case measure => simp [intOf]
    · have i0 : ∀ W : World, (Instr.index 32 (.agg #[.bool (f 0), .bool (f 1), .bool (f 2), .bool (f 3), .bool (f 4), .bool (f 5), .bool (f 6), .bool (f 7)]) (.int .i64 3)).run Try.prog W = .ok (.bool (f 3)) W := fun _ => by kernel_rfl
      have hp := HF.out 3 (by omega)
      cases hs : f 3 with
      | false =>
        rw [hs] at i0
        clear hp
        go_wp2
        go_roundw
        case rel => exact ⟨4, by omega, rfl, hblk, hbel⟩
        case measure => simp [intOf]
      | true =>
        have hq := hp hs
        have hI : ¬ (top - 8 + (3 : Int) < 0) := by omega
        rw [hs] at i0
        clear hp hq
        go_wp2_with fail
        refine (lowest_any _ _ _ _ _ _ _ _ _ _ hlo hhi).mono ?_
        rintro e w1 ⟨rfl, hb⟩
        have hblk1 := hblk.below hb hblk.lt
        have hbel1 := hbel.trans (hb.mono hbel.size)
        clear hblk hbel hb c0 c1 c2 c3 c4 c5 c6 c7 c8
        go_wp2
        go_roundw
        case rel => exact ⟨4, by omega, rfl, hblk1, hbel1⟩
        case measure => simp [intOf]
    · have i0 : ∀ W : World, (Instr.index 32 (.agg #[.bool (f 0), .bool (f 1), .bool (f 2), .bool (f 3), .bool (f 4), .bool (f 5), .bool (f 6), .bool (f 7)]) (.int .i64 4)).run Try.prog W = .ok (.bool (f 4)) W := fun _ => by kernel_rfl
      have hp := HF.out 4 (by omega)
      cases hs : f 4 with
      | false =>
        rw [hs] at i0
        clear hp
        go_wp2
        go_roundw
        case rel => exact ⟨5, by omega, rfl, hblk, hbel⟩
        case measure => simp [intOf]
      | true =>
        have hq := hp hs
        have hI : ¬ (top - 8 + (4 : Int) < 0) := by omega
        rw [hs] at i0
        clear hp hq
        go_wp2_with fail
        refine (lowest_any _ _ _ _ _ _ _ _ _ _ hlo hhi).mono ?_
        rintro e w1 ⟨rfl, hb⟩
        have hblk1 := hblk.below hb hblk.lt
        have hbel1 := hbel.trans (hb.mono hbel.size)
        clear hblk hbel hb c0 c1 c2 c3 c4 c5 c6 c7 c8
        go_wp2
        go_roundw
        case rel => exact ⟨5, by omega, rfl, hblk1, hbel1⟩
        case measure => simp [intOf]
    · have i0 : ∀ W : World, (Instr.index 32 (.agg #[.bool (f 0), .bool (f 1), .bool (f 2), .bool (f 3), .bool (f 4), .bool (f 5), .bool (f 6), .bool (f 7)]) (.int .i64 5)).run Try.prog W = .ok (.bool (f 5)) W := fun _ => by kernel_rfl
      have hp := HF.out 5 (by omega)
      cases hs : f 5 with
      | false =>
        rw [hs] at i0
        clear hp
        go_wp2
        go_roundw
        case rel => exact ⟨6, by omega, rfl, hblk, hbel⟩
        case measure => simp [intOf]
      | true =>
        have hq := hp hs
        have hI : ¬ (top - 8 + (5 : Int) < 0) := by omega
        rw [hs] at i0
        clear hp hq
        go_wp2_with fail
        refine (lowest_any _ _ _ _ _ _ _ _ _ _ hlo hhi).mono ?_
        rintro e w1 ⟨rfl, hb⟩
        have hblk1 := hblk.below hb hblk.lt
        have hbel1 := hbel.trans (hb.mono hbel.size)
        clear hblk hbel hb c0 c1 c2 c3 c4 c5 c6 c7 c8
        go_wp2
        go_roundw
        case rel => exact ⟨6, by omega, rfl, hblk1, hbel1⟩
        case measure => simp [intOf]
    · have i0 : ∀ W : World, (Instr.index 32 (.agg #[.bool (f 0), .bool (f 1), .bool (f 2), .bool (f 3), .bool (f 4), .bool (f 5), .bool (f 6), .bool (f 7)]) (.int .i64 6)).run Try.prog W = .ok (.bool (f 6)) W := fun _ => by kernel_rfl
      have hp := HF.out 6 (by omega)
      cases hs : f 6 with
      | false =>
        rw [hs] at i0
        clear hp
        go_wp2
        go_roundw
        case rel => exact ⟨7, by omega, rfl, hblk, hbel⟩
        case measure => simp [intOf]
      | true =>
        have hq := hp hs
        have hI : ¬ (top - 8 + (6 : Int) < 0) := by omega
        rw [hs] at i0
        clear hp hq
        go_wp2_with fail
        refine (lowest_any _ _ _ _ _ _ _ _ _ _ hlo hhi).mono ?_
        rintro e w1 ⟨rfl, hb⟩
        have hblk1 := hblk.below hb hblk.lt
        have hbel1 := hbel.trans (hb.mono hbel.size)
        clear hblk hbel hb c0 c1 c2 c3 c4 c5 c6 c7 c8
        go_wp2
        go_roundw
        case rel => exact ⟨7, by omega, rfl, hblk1, hbel1⟩
        case measure => simp [intOf]
    · have i0 : ∀ W : World, (Instr.index 32 (.agg #[.bool (f 0), .bool (f 1), .bool (f 2), .bool (f 3), .bool (f 4), .bool (f 5), .bool (f 6), .bool (f 7)]) (.int .i64 7)).run Try.prog W = .ok (.bool (f 7)) W := fun _ => by kernel_rfl
      have hp := HF.out 7 (by omega)
      cases hs : f 7 with
      | false =>
        rw [hs] at i0
        clear hp
        go_wp2
        go_roundw
        case rel => exact ⟨8, by omega, rfl, hblk, hbel⟩
        case measure => simp [intOf]
      | true =>
        have hq := hp hs
        have hI : ¬ (top - 8 + (7 : Int) < 0) := by omega
        rw [hs] at i0
        clear hp hq
        go_wp2_with fail
        refine (lowest_any _ _ _ _ _ _ _ _ _ _ hlo hhi).mono ?_
        rintro e w1 ⟨rfl, hb⟩
        have hblk1 := hblk.below hb hblk.lt
        have hbel1 := hbel.trans (hb.mono hbel.size)
        clear hblk hbel hb c0 c1 c2 c3 c4 c5 c6 c7 c8
        go_wp2
        go_roundw
        case rel => exact ⟨8, by omega, rfl, hblk1, hbel1⟩
        case measure => simp [intOf]
    · by_cases ht : 0 < top
      · have hs := H7.out ht
        rw [hs] at c8
        go_wp2
        go_ret
        exact ⟨rfl, hbel⟩
      · go_wp2
        go_ret
        exact ⟨rfl, hbel⟩

/-- the call returns two values, and nothing that was there has turned -/
def Puts2 (w : World) (u v : Value) (e : Ending) (w' : World) : Prop := e = .returned (.tuple #[u, v]) ∧ Below w.heap.size w w'

set_option maxHeartbeats 1000000 in
theorem wseen_low (top : Int) (S : Int → Bool) (id : Int) (w : World) (h : WOk top S) (h1 : 0 ≤ id) (h2 : id ≤ 1073741824) (hl : id < top - 8) :
    Calls Try.prog 13 #[.agg (winCells top (shows top S)), .int .i64 id] w (Puts2 w (.bool false) (.int .i64 9)) := by
  have C := fun w => Lib.hid (wcheck_ok top S w h)
  have hlo := h.lo
  have hhi := h.hi
  generalize shows top S = f at *
  clear h
  have hlt : id < top := by omega
  go_enter Try.func13, Try.ntmps13
  unfold winCells
  go_wp2_with fail
  refine (C _).out.mono ?_
  rintro e w1 ⟨rfl, hb⟩
  have hblk := (Blk.new w 34 (winCells top f)).below hb (by simp)
  have hbel : Below w.heap.size w w1 := ((Below.refl _ _).alloc (Nat.le_refl _) _).trans (hb.mono (by simp))
  obtain ⟨c0, c1, c2, c3, c4, c5, c6, c7, c8⟩ := winBlk hblk
  clear hb
  go_wp2_with fail
  refine (lowest_any _ _ _ _ _ _ _ _ _ _ hlo hhi).mono ?_
  rintro e w2 ⟨rfl, hb⟩
  have hbel2 := hbel.trans (hb.mono hbel.size)
  clear hb
  go_wp2
  go_ret2
  exact ⟨rfl, hbel2⟩

set_option maxHeartbeats 2000000 in
theorem wseen_in (top : Int) (S : Int → Bool) (id : Int) (w : World) (h : WOk top S) (h1 : 0 ≤ id) (h2 : id ≤ 1073741824) (hl : top - 8 ≤ id) :
    Calls Try.prog 13 #[.agg (winCells top (shows top S)), .int .i64 id] w (Puts2 w (.bool (S id)) (.int .i64 0)) := by
  have C := fun w => Lib.hid (wcheck_ok top S w h)
  have hlo := h.lo
  have hhi := h.hi
  have hS : top ≤ id → S id = false := fun ht => by cases hs : S id with | false => rfl | true => have := (h.in_ id hs).2; omega
  have hf : ∀ k : Nat, id = top - 8 + k → S id = shows top S k := fun k hk => by unfold shows; rw [hk]
  generalize shows top S = f at *
  generalize S id = b at *
  have HS := Lib.hid hS
  have HF := Lib.hid hf
  clear h hS hf
  go_enter Try.func13, Try.ntmps13
  unfold winCells
  go_wp2_with fail
  refine (C _).out.mono ?_
  rintro e w1 ⟨rfl, hb⟩
  have hblk := (Blk.new w 34 (winCells top f)).below hb (by simp)
  have hbel : Below w.heap.size w w1 := ((Below.refl _ _).alloc (Nat.le_refl _) _).trans (hb.mono (by simp))
  obtain ⟨c0, c1, c2, c3, c4, c5, c6, c7, c8⟩ := winBlk hblk
  clear hb
  by_cases ht : top ≤ id
  · have hb := HS.out ht
    subst hb
    clear C
    go_wp2
    go_ret2
    exact ⟨rfl, hbel⟩
  · have ht' : id < top := by omega
    go_wp2_with fail
    refine (lowest_any _ _ _ _ _ _ _ _ _ _ hlo hhi).mono ?_
    rintro e w2 ⟨rfl, hb⟩
    have hblk2 := hblk.below hb hblk.lt
    have hbel2 := hbel.trans (hb.mono hbel.size)
    clear hb hbel c0 c1 c2 c3 c4 c5 c6 c7 c8
    obtain ⟨c0, c1, c2, c3, c4, c5, c6, c7, c8⟩ := winBlk hblk2
    clear hblk
    have hI : ¬ id < top - 8 := by omega
    go_wp2_with fail
    refine (lowest_any _ _ _ _ _ _ _ _ _ _ hlo hhi).mono ?_
    rintro e w3 ⟨rfl, hb⟩
    have hblk3 := hblk2.below hb hblk2.lt
    have hbel3 := hbel2.trans (hb.mono hbel2.size)
    obtain ⟨k, hk⟩ := Int.eq_ofNat_of_zero_le (show 0 ≤ id - (top - 8) by omega)
    have hk8 : k < 8 := by omega
    have hcell : w3.cell? ⟨w.heap.size, 1 + (id - (top - 8)).toNat, none⟩ = some (.bool (f k)) := by
      rw [show (id - (top - 8)).toNat = k by omega]
      exact (hblk3.cell (1 + k)).trans (winCells_at top f k hk8)
    have hv := HF.out k (by omega)
    clear hb hbel2 c0 c1 c2 c3 c4 c5 c6 c7 c8 hblk2 hblk3
    subst hv
    have HK := Lib.hid hk
    clear hk
    go_wp2
    go_ret2
    exact ⟨rfl, hbel3⟩

set_option maxHeartbeats 400000 in
theorem lowest_exact (top : Int) (b0 b1 b2 b3 b4 b5 b6 b7 : Bool) (w : World) (h0 : 0 ≤ top) (h1 : top ≤ 1073741825) :
    Calls Try.prog 34 #[.agg #[.int .i64 top, .bool b0, .bool b1, .bool b2, .bool b3, .bool b4, .bool b5, .bool b6, .bool b7]] w
      fun e w' => e = .returned (.int .i64 (top - 8)) ∧ w.alloc (.cells #[.int .i64 top, .bool b0, .bool b1, .bool b2, .bool b3, .bool b4, .bool b5, .bool b6, .bool b7] 34) = w' := by
  go_enter Try.func34, Try.ntmps34
  go_wp2
  go_ret
  exact ⟨rfl, rfl⟩

/-- the call returns three values, and nothing that was there has turned -/
def Puts3 (w : World) (u v x : Value) (e : Ending) (w' : World) : Prop := e = .returned (.tuple #[u, v, x]) ∧ Below w.heap.size w w'

theorem below_drewN {B : Nat} {a w : World} (h : Below B a w) (n : Nat) : Below B a (w.drewN n) := ⟨h.os, h.tape, h.output, h.size, h.block⟩

set_option maxHeartbeats 1000000 in
theorem wtake_low (top : Int) (S : Int → Bool) (id : Int) (w : World) (h : WOk top S) (h1 : 0 ≤ id) (h2 : id ≤ 1073741824) (hl : id < top - 8) :
    Calls Try.prog 52 #[.agg (winCells top (shows top S)), .int .i64 id] w (Puts3 w (.agg (winCells 0 fun _ => false)) (.bool false) (.int .i64 9)) := by
  have C := fun w => Lib.hid (wseen_low top S id w h h1 h2 hl)
  generalize shows top S = f at *
  go_enter Try.func52, Try.ntmps52
  unfold winCells
  go_wp2_with fail
  refine (C _).out.mono ?_
  rintro e w1 ⟨rfl, hb⟩
  have hblk := ((Blk.new w 34 (winCells top f)).alloc (.cells #[.int .i64 0, .bool false, .bool false, .bool false, .bool false, .bool false, .bool false, .bool false, .bool false] 34)).below hb (by simp; omega)
  have hblk2 := (Blk.new (w.alloc (.cells (winCells top f) 34)) 34 (winCells 0 fun _ => false)).below hb (by simp)
  rw [World.size_alloc] at hblk2
  have hbel : Below w.heap.size w w1 := (((Below.refl _ _).alloc (Nat.le_refl _) _).alloc (by simp) _).trans (hb.mono (by simp; omega))
  have hz := hblk2.lt
  obtain ⟨c0, c1, c2, c3, c4, c5, c6, c7, c8⟩ := winBlk hblk2
  have hfr := hblk2.frozen
  clear hb hblk hblk2 h C
  go_wp2
  exact bodyPost_ret (v := .tuple #[.agg (winCells 0 fun _ => false), .bool false, .int .i64 9]) (by simp [results, Try.results52, go_sem, winCells, *]) rfl ⟨rfl, by repeat (first | with_reducible exact hbel | refine Below.setCell ?_ (by simp) _)⟩

set_option maxHeartbeats 1000000 in
theorem wtake_seen (top : Int) (S : Int → Bool) (id : Int) (w : World) (h : WOk top S) (h1 : 0 ≤ id) (h2 : id ≤ 1073741824) (hl : top - 8 ≤ id) (hs : S id = true) :
    Calls Try.prog 52 #[.agg (winCells top (shows top S)), .int .i64 id] w (Puts3 w (.agg (winCells top (shows top S))) (.bool false) (.int .i64 0)) := by
  have C := fun w => Lib.hid (hs ▸ wseen_in top S id w h h1 h2 hl)
  generalize shows top S = f at *
  clear hs
  go_enter Try.func52, Try.ntmps52
  unfold winCells
  go_wp2_with fail
  refine (C _).out.mono ?_
  rintro e w1 ⟨rfl, hb⟩
  have hblk := ((Blk.new w 34 (winCells top f)).alloc (.cells #[.int .i64 0, .bool false, .bool false, .bool false, .bool false, .bool false, .bool false, .bool false, .bool false] 34)).below hb (by simp; omega)
  have hblk2 := (Blk.new (w.alloc (.cells (winCells top f) 34)) 34 (winCells 0 fun _ => false)).below hb (by simp)
  rw [World.size_alloc] at hblk2
  have hbel : Below w.heap.size w w1 := (((Below.refl _ _).alloc (Nat.le_refl _) _).alloc (by simp) _).trans (hb.mono (by simp; omega))
  have hz := hblk2.lt
  obtain ⟨c0, c1, c2, c3, c4, c5, c6, c7, c8⟩ := winBlk hblk2
  obtain ⟨d0, d1, d2, d3, d4, d5, d6, d7, d8⟩ := winBlk hblk
  have hfr := hblk2.frozen
  clear hb hblk hblk2 h C
  go_wp2
  exact bodyPost_ret (v := .tuple #[.agg (winCells top f), .bool false, .int .i64 0]) (by simp [results, Try.results52, go_sem, winCells, *]) rfl ⟨rfl, by repeat (first | with_reducible exact hbel | refine Below.setCell ?_ (by simp) _)⟩

/-- the cells of the new window, behind k rounds -/
def half (top top' : Int) (S : Int → Bool) (k : Nat) (j : Nat) : Bool := decide (top' - 8 + j < top - 8 + k) && S (top' - 8 + j)

theorem half_zero (top top' : Int) (S : Int → Bool) (h : top ≤ top') : winCells top' (half top top' S 0) = winCells top' (fun _ => false) :=
  winCells_congr _ _ _ fun k _ => by simp [half]; omega

theorem half_skip (top top' : Int) (S : Int → Bool) (k : Nat) (h : S (top - 8 + k) = false ∨ top - 8 + (k : Int) < top' - 8) : winCells top' (half top top' S (k + 1)) = winCells top' (half top top' S k) :=
  winCells_congr _ _ _ fun j _ => by
    unfold half
    by_cases hj : top' - 8 + (j : Int) = top - 8 + k
    · rcases h with h | h
      · rw [hj, h, Bool.and_false, Bool.and_false]
      · omega
    · congr 1
      rw [Bool.eq_iff_iff]
      simp only [decide_eq_true_eq]
      omega

theorem half_take (top top' : Int) (S : Int → Bool) (k m : Nat) (h : S (top - 8 + k) = true) (hm : top - 8 + (k : Int) = top' - 8 + m) (hm8 : m < 8) :
    (winCells top' (half top top' S k)).setIfInBounds (1 + m) (.bool true) = winCells top' (half top top' S (k + 1)) := by
  rw [winCells_set _ _ _ hm8]
  refine winCells_congr _ _ _ fun j _ => ?_
  unfold half
  by_cases hj : j = m
  · subst hj
    rw [← hm, h]
    simp
    omega
  · have e : (j == m) = false := beq_eq_false_iff_ne.2 hj
    rw [e, Bool.or_false]
    congr 1
    rw [Bool.eq_iff_iff]
    simp only [decide_eq_true_eq]
    omega

/-- the window behind a new id -/
theorem half_end (top top' : Int) (S : Int → Bool) (id : Int) (m : Nat) (hin : ∀ x, S x = true → 0 ≤ x ∧ x < top) (hm : id = top' - 8 + m) (hm8 : m < 8) :
    (winCells top' (half top top' S 8)).setIfInBounds (1 + m) (.bool true) = winCells top' (shows top' fun x => S x || x == id) := by
  rw [winCells_set _ _ _ hm8]
  refine winCells_congr _ _ _ fun j _ => ?_
  unfold half shows
  have e : ((top' - 8 + (j : Int)) == id) = (j == m) := by
    rw [Bool.eq_iff_iff]; simp only [beq_iff_eq]; omega
  show _ = (S (top' - 8 + (j : Int)) || (top' - 8 + (j : Int) == id))
  rw [e]
  congr 1
  cases hs : S (top' - 8 + j) with
  | false => rw [Bool.and_false]
  | true =>
    have := (hin _ hs).2
    simp
    omega

theorem WOk.take {top : Int} {S : Int → Bool} {id : Int} (h : WOk top S) (h1 : 0 ≤ id) (h2 : id ≤ 1073741824) : WOk (max top (id + 1)) (fun x => S x || x == id) := by
  refine ⟨by have := h.lo; omega, by have := h.hi; omega, fun x hx => ?_, fun hp => ?_⟩
  · rcases Bool.or_eq_true_iff.1 hx with hx | hx
    · have := h.in_ x hx; omega
    · have := beq_iff_eq.1 hx; omega
  · rcases Int.lt_or_le id top with hlt | hge
    · have := h.last (by omega)
      rw [show max top (id + 1) - 1 = top - 1 by omega, this]; rfl
    · rw [show max top (id + 1) - 1 = id by omega]; simp

end Go.Proofs.Ytjmncbfmjeeneaa
