/- strings.Builder over St. -/
import Derived.Test.YtjakmpkfniangaaDoorLib
import Derived.Lib.AppendStr
import Derived.Laws.Append
import Derived.Lib.FrozenHead
namespace Go.Proofs.YtjakmpkfniangaaDoor
open Go.RowKit

set_option linter.unusedVariables false
open Go.Lib
theorem bld_zero : (Tryd.prog.info? 52).bind (·.zero) = some (.agg #[.pointer none, .slice none 0 0]) := by kernel_rfl
theorem ap_t : Tryd.prog.underlying 50 = some (.slice 5) := by kernel_rfl
theorem ap_u : Tryd.prog.underlying 9 = some .string := by kernel_rfl
theorem ap_i : (Tryd.prog.info? 5).map (fun i => (i.zero, i.size, i.bytes)) = some (some (.int .u8 0), 1, 1) := by kernel_rfl
theorem sc_pbld : (match Tryd.prog.underlying 49 with | some (.struct _) | some (.array _ _) | none => true | _ => false) = false := by kernel_rfl
instance scTy_pbld : ScTy 49 := ⟨by kernel_rfl, by kernel_rfl⟩
theorem sc_bytes : (match Tryd.prog.underlying 50 with | some (.struct _) | some (.array _ _) | none => true | _ => false) = false := by kernel_rfl
instance scTy_bytes : ScTy 50 := ⟨by kernel_rfl, by kernel_rfl⟩
section
variable {P : Program} {ops : Array Oper} {rest : List Oper} {o : Oper} {a : Act} {w0 w : World} {I : List It} {J : It → List It} {Q : Exit → Act → World → Prop}
/-- where the bytes lie behind an append -/
theorem append_str_block (t u ty e : TypeId) (i : TypeInfo) (base n : Nat) (v v' : Value) (xs : List Value) (s : ByteArray) (w w' : World) (ht : P.underlying t = some (.slice e)) (hu : P.underlying u = some .string) (hi : P.info? e = some i) (hz : i.zero = some (.int .u8 0)) (hsize : i.size = 1) (hby : i.bytes = 1)
    (hown : w.ownsRow base e 1 v n xs) (hbytes : n + s.size ≤ 140737488355328) (hr : (Builtin.append_ #[t, u] ty #[v, .string s]).run P w = .ok v' w') (hn : v' = .slice none 0 0 ↔ v = .slice none 0 0 ∧ s.size = 0) :
    v'.ownBlock = v.ownBlock ∨ v'.ownBlock = some w.heap.size := by
  have hxl : xs.length = n := by simpa using hown.1
  rcases hown.2 with ⟨rfl, rfl⟩ | ⟨g, cap, cur, rfl, hbg, hg, hnc, hcm, hcs, htake⟩
  · by_cases hm : s.size = 0
    · exact .inl (by rw [hn.2 ⟨rfl, hm⟩])
    · have h := run_append_nil_string (P := P) (w := w) t u ty e i (.int .u8 0) ht hu hi hz s (by omega) (by omega) (by rw [hby]; omega)
      rw [hr] at h
      exact .inr (by rw [(Result.ok.inj h).1]; rfl)
  · by_cases hroom : n + s.size ≤ cap
    · have h := run_append_room_string (P := P) (w := w) t u ty e i ht hu hi hsize g n cap cur hg s hroom (by have hcc : cur.size = cap := (by simpa using hcs); omega)
      rw [hr] at h
      exact .inl (by rw [(Result.ok.inj h).1]; rfl)
    · have holds : ∀ j u, xs[j]? = some u → w.cell? ((⟨g, 0, none⟩ : Addr).add j) = some u := World.ownsRow.cells hown (g := g) rfl
      have h := run_append_grow_string (P := P) (w := w) t u ty e i (.int .u8 0) ht hu hi hz ⟨g, 0, none⟩ n cap xs (by rw [hsize]; simpa using hxl) holds s (by omega) (by omega) (by rw [hby]; exact growslice_fits (by omega) (by omega))
      rw [hr] at h
      exact .inr (by rw [(Result.ok.inj h).1]; rfl)
/-- a string's bytes are put behind a row's -/
theorem wpList_appendStr_st {v : Value} {e : TypeId} {n : Nat} {xs : List Value} (H : St w0 w I) (hgd : o.guard = none) (sl x : Operand) (t u : TypeId)
    (ho : o.op = .call { callee := .builtin .append, args := #[sl, x], argTypes := #[t, u] }) (ht : P.underlying t = some (.slice e)) (hu : P.underlying u = some .string) (hi : (P.info? e).map (fun i => (i.zero, i.size, i.bytes)) = some (some (.int .u8 0), 1, 1))
    (hs : a.eval sl = v) [h : RepO I e v 1 n xs J] (s : ByteArray) (hx : a.eval x = .string s) (hbytes : n + s.size ≤ 140737488355328)
    (hk : ∀ A c w', St w0 w' (J (.ow e 1 (.slice A (n + s.size) c) (n + s.size) (xs ++ strCells s))) → wpList P ops Q rest (a.put o.dst (.slice A (n + s.size) c)) w') : wpList P ops Q (o :: rest) a w := by
  cases hq : P.info? e with
  | none => simp [hq] at hi
  | some i =>
    simp only [hq, Option.map_some, Option.some.injEq, Prod.mk.injEq] at hi
    refine wpList_plain hgd fun K hK => ?_
    have hown := H.own e v
    obtain ⟨v', w', hr, h2, h3, h4⟩ := run_append_own_string (P := P) (w := w) w0.heap.size t u o.type e i ht hu hq hi.1 hi.2.1 hi.2.2 v n xs hown s (by simp only [maxLen]; omega) hbytes H.bel.size
    have h5 := append_str_block t u o.type e i w0.heap.size n v v' xs s w w' ht hu hq hi.1 hi.2.1 hi.2.2 hown hbytes hr h4
    obtain ⟨A, c, rfl, _, _⟩ := own_shape h2
    unfold Oper.wp execOp
    simp only [ho, resolve, invoke, builtin, Sem.run_bind, Sem.run_pure, Result.andThen_ok, List.map_toArray, List.map_cons, List.map_nil, hs, hx, hr]
    exact hK _ _ (hk A c w' (H.appended h2 h3 h5))
end
/-- a builder: where it lies, its row, what it holds -/
abbrev bldIs (g : Nat) (p v : Value) (bs : List Value) (I : List It) : List It := .bl g 52 #[p, v] :: .ow 5 1 v bs.length bs :: I
set_option maxRecDepth 100000 in
set_option maxHeartbeats 8000000 in
theorem ccheck_st {w0 w : World} {I : List It} (g : Nat) (p v : Value) (bs : List Value) (hp : p = .pointer none ∨ p = .pointer (some ⟨g, 0, none⟩)) (H : St w0 w (bldIs g p v bs I)) :
    Calls Tryd.prog 27 #[.pointer (some ⟨g, 0, none⟩)] w (fun ed w' => ed = .returned (.tuple #[]) ∧ St w0 w' (bldIs g (.pointer (some ⟨g, 0, none⟩)) v bs I)) := by
  unfold bldIs at *
  have hpb : Tryd.prog.underlying 49 = some (.pointer 52) := by kernel_rfl
  have hun : Tryd.prog.underlying 81 = some .unsafePointer := by kernel_rfl
  obtain ⟨j, hj, hjs⟩ := Option.map_eq_some_iff.1 (show (Tryd.prog.info? 52).map (·.size) = some 2 by kernel_rfl)
  have hbk := H.blk g
  have hsh : w.shape? g = some (52, 2) := by simp [World.shape?, show w.heap[g]? = _ from hbk]
  have hlies : liesAt Tryd.prog Tryd.prog.depth 52 (2 / Tryd.prog.cellsOf 52) 0 52 1 = true := by kernel_rfl
  rcases hp with rfl | rfl
  · go_enter Tryd.func27, Tryd.ntmps27
    go_wp2_with (first | ((with_reducible refine here_load ?_); first | refine ldR H rfl _ _ rfl rfl (by kernel_rfl) ?_ | refine ldS H rfl _ _ rfl rfl (by rfl) ?_ | refine ldSG H (by rfl) _ _ rfl rfl (by rfl) ?_ | refine ldRG H (by rfl) _ _ rfl rfl (by kernel_rfl) ?_) | ((with_reducible refine here_store ?_); first | (refine stR H rfl _ _ _ rfl rfl rfl (by rfl) (by rfl) (by kernel_rfl) ?_; clear H; intro wx H) | (refine stS H rfl _ _ _ rfl rfl _ rfl (by rfl) (by rfl) (by rfl) ?_; clear H; intro wx H)) | ((with_reducible refine here_alloc ?_); first | (refine wpList_alloc_st H rfl 52 rfl _ bld_zero ?_; clear H; intro gbd1 wx H)) | ((with_reducible refine here_box ?_); refine wpList_box_st H rfl _ _ rfl _ rfl ?_; clear H; intro gb1 wx H))
    rw [run_to_unsafe w ⟨g, 0, none⟩ hpb hun hj (by rw [hjs]; decide) hsh (Nat.zero_lt_succ 1)]
    simp only [Result.andThen]
    rw [Oper.upon_value]
    go_wp2_with (first | ((with_reducible refine here_load ?_); first | refine ldR H rfl _ _ rfl rfl (by kernel_rfl) ?_ | refine ldS H rfl _ _ rfl rfl (by rfl) ?_ | refine ldSG H (by rfl) _ _ rfl rfl (by rfl) ?_ | refine ldRG H (by rfl) _ _ rfl rfl (by kernel_rfl) ?_) | ((with_reducible refine here_store ?_); first | (refine stR H rfl _ _ _ rfl rfl rfl (by rfl) (by rfl) (by kernel_rfl) ?_; clear H; intro wx H) | (refine stS H rfl _ _ _ rfl rfl _ rfl (by rfl) (by rfl) (by rfl) ?_; clear H; intro wx H)) | ((with_reducible refine here_alloc ?_); first | (refine wpList_alloc_st H rfl 52 rfl _ bld_zero ?_; clear H; intro gbd2 wx H)) | ((with_reducible refine here_box ?_); refine wpList_box_st H rfl _ _ rfl _ rfl ?_; clear H; intro gb2 wx H))
    rw [run_callFunc_extern Tryd.func36 (by kernel_rfl) (by kernel_rfl) (by kernel_rfl) (e := Extern.AbiNoEscape.same) (by kernel_rfl)]
    rw [run_noEscape]
    simp only [Result.andThen]
    rw [Oper.upon_value]
    go_wp2_with (first | ((with_reducible refine here_load ?_); first | refine ldR H rfl _ _ rfl rfl (by kernel_rfl) ?_ | refine ldS H rfl _ _ rfl rfl (by rfl) ?_ | refine ldSG H (by rfl) _ _ rfl rfl (by rfl) ?_ | refine ldRG H (by rfl) _ _ rfl rfl (by kernel_rfl) ?_) | ((with_reducible refine here_store ?_); first | (refine stR H rfl _ _ _ rfl rfl rfl (by rfl) (by rfl) (by kernel_rfl) ?_; clear H; intro wx H) | (refine stS H rfl _ _ _ rfl rfl _ rfl (by rfl) (by rfl) (by rfl) ?_; clear H; intro wx H)) | ((with_reducible refine here_alloc ?_); first | (refine wpList_alloc_st H rfl 52 rfl _ bld_zero ?_; clear H; intro gbd2 wx H)) | ((with_reducible refine here_box ?_); refine wpList_box_st H rfl _ _ rfl _ rfl ?_; clear H; intro gb2 wx H))
    rw [run_from_unsafe w ⟨g, 0, none⟩ hun hpb hj hsh hlies]
    simp only [Result.andThen]
    rw [Oper.upon_value]
    go_wp2_with (first | ((with_reducible refine here_load ?_); first | refine ldR H rfl _ _ rfl rfl (by kernel_rfl) ?_ | refine ldS H rfl _ _ rfl rfl (by rfl) ?_ | refine ldSG H (by rfl) _ _ rfl rfl (by rfl) ?_ | refine ldRG H (by rfl) _ _ rfl rfl (by kernel_rfl) ?_) | ((with_reducible refine here_store ?_); first | (refine stR H rfl _ _ _ rfl rfl rfl (by rfl) (by rfl) (by kernel_rfl) ?_; clear H; intro wx H) | (refine stS H rfl _ _ _ rfl rfl _ rfl (by rfl) (by rfl) (by rfl) ?_; clear H; intro wx H)) | ((with_reducible refine here_alloc ?_); first | (refine wpList_alloc_st H rfl 52 rfl _ bld_zero ?_; clear H; intro gbd2 wx H)) | ((with_reducible refine here_box ?_); refine wpList_box_st H rfl _ _ rfl _ rfl ?_; clear H; intro gb2 wx H))
    go_end0
    exact ⟨rfl, H⟩
  · go_enter Tryd.func27, Tryd.ntmps27
    go_wp2_with (first | ((with_reducible refine here_load ?_); first | refine ldR H rfl _ _ rfl rfl (by kernel_rfl) ?_ | refine ldS H rfl _ _ rfl rfl (by rfl) ?_ | refine ldSG H (by rfl) _ _ rfl rfl (by rfl) ?_ | refine ldRG H (by rfl) _ _ rfl rfl (by kernel_rfl) ?_) | ((with_reducible refine here_store ?_); first | (refine stR H rfl _ _ _ rfl rfl rfl (by rfl) (by rfl) (by kernel_rfl) ?_; clear H; intro wx H) | (refine stS H rfl _ _ _ rfl rfl _ rfl (by rfl) (by rfl) (by rfl) ?_; clear H; intro wx H)) | ((with_reducible refine here_alloc ?_); first | (refine wpList_alloc_st H rfl 52 rfl _ bld_zero ?_; clear H; intro gbd1 wx H)) | ((with_reducible refine here_box ?_); refine wpList_box_st H rfl _ _ rfl _ rfl ?_; clear H; intro gb1 wx H))
    rw [run_neq_ptr_same w _ hpb hj]
    go_wp2_with (first | ((with_reducible refine here_load ?_); first | refine ldR H rfl _ _ rfl rfl (by kernel_rfl) ?_ | refine ldS H rfl _ _ rfl rfl (by rfl) ?_ | refine ldSG H (by rfl) _ _ rfl rfl (by rfl) ?_ | refine ldRG H (by rfl) _ _ rfl rfl (by kernel_rfl) ?_) | ((with_reducible refine here_store ?_); first | (refine stR H rfl _ _ _ rfl rfl rfl (by rfl) (by rfl) (by kernel_rfl) ?_; clear H; intro wx H) | (refine stS H rfl _ _ _ rfl rfl _ rfl (by rfl) (by rfl) (by rfl) ?_; clear H; intro wx H)) | ((with_reducible refine here_alloc ?_); first | (refine wpList_alloc_st H rfl 52 rfl _ bld_zero ?_; clear H; intro gbd2 wx H)) | ((with_reducible refine here_box ?_); refine wpList_box_st H rfl _ _ rfl _ rfl ?_; clear H; intro gb2 wx H))
    go_end0
    exact ⟨rfl, H.subm _⟩
set_option maxRecDepth 100000 in
set_option maxHeartbeats 8000000 in
theorem wstr_st {w0 w : World} {I : List It} (g : Nat) (p v : Value) (bs : List Value) (s : ByteArray) (hsz : bs.length + s.size ≤ 140737488355328) (hp : p = .pointer none ∨ p = .pointer (some ⟨g, 0, none⟩)) (H : St w0 w (bldIs g p v bs I)) :
    Calls Tryd.prog 15 #[.pointer (some ⟨g, 0, none⟩), .string s] w (fun ed w' => ∃ v', ed = .returned (.tuple #[.int .i64 s.size, .nilIface]) ∧ St w0 w' (bldIs g (.pointer (some ⟨g, 0, none⟩)) v' (bs ++ strCells s) I)) := by
  have CCK := Lib.hid (fun W (H : St w0 W (bldIs g p v bs I)) => ccheck_st (w0 := w0) (w := W) (I := I) g p v bs hp H)
  have HF := Lib.hid (fun W v' (h : St w0 W (.bl g 52 #[.pointer (some ⟨g, 0, none⟩), v'] :: .ow 5 1 v' (bs.length + s.size) (bs ++ strCells s) :: I)) => (show (fun ed w' => ∃ v', ed = Ending.returned (.tuple #[.int .i64 s.size, .nilIface]) ∧ St w0 w' (bldIs g (.pointer (some ⟨g, 0, none⟩)) v' (bs ++ strCells s) I)) (Ending.returned (.tuple #[.int .i64 s.size, .nilIface])) W from ⟨v', rfl, by unfold bldIs; rw [List.length_append, strCells_length]; exact h⟩))
  generalize (fun ed w' => ∃ v', ed = Ending.returned (.tuple #[.int .i64 s.size, .nilIface]) ∧ St w0 w' (bldIs g (.pointer (some ⟨g, 0, none⟩)) v' (bs ++ strCells s) I)) = POST at *
  clear hp
  go_enter Tryd.func15, Tryd.ntmps15
  go_upto_region 2 with (first | (go_at_call 27; (with_reducible refine (CCK.out _ H).mono ?_); clear H; rintro ed wy ⟨rfl, H⟩; unfold bldIs at H) | (first | ((with_reducible refine here_load ?_); first | refine ldR H rfl _ _ rfl rfl (by kernel_rfl) ?_ | refine ldS H rfl _ _ rfl rfl (by rfl) ?_ | refine ldSG H (by rfl) _ _ rfl rfl (by rfl) ?_ | refine ldRG H (by rfl) _ _ rfl rfl (by kernel_rfl) ?_) | ((with_reducible refine here_store ?_); first | (refine stR H rfl _ _ _ rfl rfl rfl (by rfl) (by rfl) (by kernel_rfl) ?_; clear H; intro wx H) | (refine stS H rfl _ _ _ rfl rfl _ rfl (by rfl) (by rfl) (by rfl) ?_; clear H; intro wx H)) | ((with_reducible refine here_alloc ?_); first | (refine wpList_alloc_st H rfl 52 rfl _ bld_zero ?_; clear H; intro gbd3 wx H)) | ((with_reducible refine here_box ?_); refine wpList_box_st H rfl _ _ rfl _ rfl ?_; clear H; intro gb3 wx H)))
  (try simp only [Act.put])
  go_wp2_with (first | ((with_reducible refine here_call ?_); refine wpList_appendStr_st (e := 5) (v := v) (n := bs.length) (xs := bs) H rfl _ _ _ _ rfl ap_t ap_u ap_i rfl s rfl hsz ?_; clear H; intro A' c' wx H) | (first | ((with_reducible refine here_load ?_); first | refine ldR H rfl _ _ rfl rfl (by kernel_rfl) ?_ | refine ldS H rfl _ _ rfl rfl (by rfl) ?_ | refine ldSG H (by rfl) _ _ rfl rfl (by rfl) ?_ | refine ldRG H (by rfl) _ _ rfl rfl (by kernel_rfl) ?_) | ((with_reducible refine here_store ?_); first | (refine stR H rfl _ _ _ rfl rfl rfl (by rfl) (by rfl) (by kernel_rfl) ?_; clear H; intro wx H) | (refine stS H rfl _ _ _ rfl rfl _ rfl (by rfl) (by rfl) (by rfl) ?_; clear H; intro wx H)) | ((with_reducible refine here_alloc ?_); first | (refine wpList_alloc_st H rfl 52 rfl _ bld_zero ?_; clear H; intro gbd4 wx H)) | ((with_reducible refine here_box ?_); refine wpList_box_st H rfl _ _ rfl _ rfl ?_; clear H; intro gb4 wx H)))
  exact HF.out _ (.slice A' (bs.length + s.size) c') H
theorem strCells_bytes (s : ByteArray) : strCells s = byteCells s.data.toList := rfl
theorem bstring_st {w0 w : World} (g : Nat) (p v : Value) (l : List UInt8) (hp : p = .pointer none ∨ p = .pointer (some ⟨g, 0, none⟩)) (H : St w0 w (bldIs g p v (byteCells l) [])) :
    Calls Tryd.prog 16 #[.pointer (some ⟨g, 0, none⟩)] w (fun ed w' => ed = .returned (.string ⟨l.toArray⟩) ∧ Below w0.heap.size w0 w') := by
  have h1 := H.all _ (List.mem_cons_self ..)
  have h2 := H.all _ (List.mem_cons_of_mem _ (List.mem_cons_self ..))
  have h3 := (List.pairwise_cons.1 H.apart).1 _ (List.mem_cons_self ..)
  have hat : BuilderAtF 52 5 w0.heap.size g p (byteCells l) w := ⟨h1.1, v, h1.2, World.ownsRowF_of h2, fun e => h3 (.inl rfl) g rfl e⟩
  refine (Lay.Builder_String_any_f w0.heap.size g l w (by rcases hp with rfl | rfl; exact .inl hat; exact .inr hat) H.bel.size).mono fun ed w' h => ?_
  exact ⟨h.1, H.bel.trans h.2.2⟩

end Go.Proofs.YtjakmpkfniangaaDoor
