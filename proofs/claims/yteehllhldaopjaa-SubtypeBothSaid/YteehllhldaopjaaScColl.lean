/- slices.Values, slices.Collect, slices.AppendSeq over strings: what came is what is held. Conditions: none. -/
import Derived.Shelf.Sort.Plain
import Derived.Shelf.Slices.In.SortNone
import Derived.Test.YteehllhldaopjaaProg
import Derived.Sort.LotD3
import Derived.Test.YteehllhldaopjaaScSeq
import Derived.Test.YteehllhldaopjaaScLex
import Derived.Test.YteehllhldaopjaaScApp
namespace Go.Gx
open Go.Proofs
theorem kcoll_el9 : elT Try.prog 9 1 = true := by kernel_rfl
theorem kcoll_oc22 : oneCellT Try.prog 22 = true := by kernel_rfl
theorem kcoll_oc9 : oneCellT Try.prog 9 = true := by kernel_rfl
theorem kcoll_sz22 : (Try.prog.info? 22).map (·.size) = some 1 := by kernel_rfl
theorem kcoll_sz9 : (Try.prog.info? 9).map (·.size) = some 1 := by kernel_rfl
theorem gr_of_below {n₀ : Nat} {a b : World} (h : RowKit.Below n₀ a b) : Gr (fun k => n₀ ≤ k) a b := ⟨h.os, h.tape, h.output, h.size, fun k _ hn => h.block k (by omega)⟩
theorem vals_ok (A : Nat → Prop) (l Bs n₀ : Nat) (v : Value) (ss : List Str) (hA : ∀ k, n₀ ≤ k → A k) (J Jx : List Str → World → Prop)
    (hY : ∀ pre x W, J pre W → pre.length < ss.length → YieldAt Fence.wide 0 Try.prog l #[S x] W fun e W' =>
      (e = .returned (.bool true) ∧ J (pre ++ [x]) W' ∧ KpB n₀ W W') ∨ (e = .returned (.bool false) ∧ Jx (pre ++ [x]) W'))
    (w : World) (hBs : w.cell? ⟨Bs, 0, none⟩ = some v) (hs : StrsAt A w v ss) (h0 : J [] w) :
    Ret Try.prog 141 #[.func (.yield l) #[] #[], .pointer (some ⟨Bs, 0, none⟩)] w fun _ W' => (∃ xs, xs = ss ∧ J xs W') ∨ (∃ pre : List Str, True ∧ Jx pre W') := by
  obtain ⟨p, cap, rfl, h1, h2, h3, hL, hh⟩ := id hs
  clear hh
  refine ret_of_W Try.func141 rfl (Nat.le_of_ble_eq_true rfl) (res0 rfl) ?_
  refine W.seq ?_
  refine W.region ?_
  refine L.val (x_ld (v := .slice _ _ _) kcoll_oc22 rfl hBs) rfl ?_
  refine L.val (x_len_slice Try.underlying22 rfl) rfl ?_
  refine L.val (x_mv (v := .int _ _) rfl) rfl ?_
  refine L.nil ?_
  refine thn_n ?_
  refine W.block ?_
  refine W.loop (fun m' E w' => ∃ (k : Nat), m' = ss.length - k ∧ E 0 = .func (.yield l) #[] #[] ∧ E 5 = .slice p ss.length cap ∧ E 6 = .int .i64 (ss.length : Nat) ∧ E 7 = .int .i64 (k : Nat) ∧ (k ≤ ss.length) ∧ (J (ss.take k) w') ∧ (StrsAt A w' (.slice p ss.length cap) ss)) (ss.length) ?_ ?_
  ·exact ⟨0, by omega, by first | rfl | exact vi (by omega), by first | rfl | exact vi (by omega), by first | rfl | exact vi (by omega), by first | rfl | exact vi (by omega), (by first | assumption | omega | rfl), (by simpa using h0), (by first | assumption | omega | rfl)⟩
  ·rintro _ E wL8 ⟨k, em, e0, e5, e6, e7, hk, hJ, hs⟩
   rw [upd_self e0, upd_self e5, upd_self e6, upd_self e7]
   refine W.seq ?_
   refine W.region ?_
   refine L.val (x_lss rfl rfl) rfl ?_
   refine L.nil ?_
   refine thn_n ?_
   refine W.seq ?_
   refine W.cond (b := _) rfl (fun g8 => ?_) (fun g8 => ?_)
   ·have h8 := of_decide_eq_true g8
    have hlt : k < ss.length := by omega
    have hc := hs.elem hlt
    obtain ⟨b, o, rfl, hc⟩ := hc
    refine W.skip ?_
    refine thn_n ?_
    refine W.seq ?_
    refine W.block ?_
    refine W.seq ?_
    refine W.region ?_
    refine L.val (x_ia1  Try.underlying22 kcoll_sz9 rfl rfl rfl (by omega)) rfl ?_
    refine L.val (x_ld (v := S _) kcoll_oc9 rfl hc) rfl ?_
    refine L.val (x_as (v := S _) rfl) rfl ?_
    refine L.nil ?_
    refine thn_n ?_
    refine W.seq ?_
    refine W.wide (m := 1) (WI.region ?_)
    refine LI.val (fun _ => trivial) (fun _ h => by cases h) (x_mv (v := .func _ _ _) rfl) rfl ?_
    refine LI.val (fun _ => trivial) (fun _ h => by cases h) (x_mv (v := S _) rfl) rfl ?_
    refine LI.yield (R := fun e W' => ∃ z, e = .returned (.bool z) ∧ (z = true → J (ss.take k ++ [ss.getD k []]) W' ∧ KpB n₀ wL8 W') ∧ (z = false → Jx (ss.take k ++ [ss.getD k []]) W')) (fun _ => trivial) rfl rfl rfl rfl ((hY (ss.take k) (ss.getD k []) wL8 hJ (by rw [List.length_take]; omega)).mono ?_) (fun e w' ⟨z, h, _⟩ => ⟨_, h⟩) ?_
    · rintro e W' (⟨rfl, a1, a2⟩ | ⟨rfl, a1⟩)
      · exact ⟨true, rfl, fun _ => ⟨a1, a2⟩, fun h => by cases h⟩
      · exact ⟨false, rfl, fun h => (by cases h), fun _ => a1⟩
    rintro u w13 ⟨z, hz, r1, r2⟩
    cases hz
    refine LI.val (fun _ => trivial) (fun _ h => by cases h) (x_not rfl) rfl ?_
    refine LI.nil ?_
    refine thn_n ?_
    refine W.cond (b := _) rfl (fun g14 => ?_) (fun g14 => ?_)
    ·have h14 := (not_t g14)
     refine W.ret (blk_r (thn_r (thn_r (blk_r (fin_mk (.inr rfl) ?_)))))
     exact .inr ⟨_, trivial, r2 (by simpa using g14)⟩
    ·have h14 := (not_f g14)
     have h14 := g14
     have hs := hs.carryR (gr_of_below (r1 (by simpa using h14)).2.1) hA
     refine W.skip ?_
     refine blk_n ?_
     refine thn_n ?_
     refine W.region ?_
     refine L.val (x_add rfl rfl (wr64 (by omega))) rfl ?_
     refine L.val (x_mv (v := .int _ _) rfl) rfl ?_
     refine L.nil ?_
     refine thn_n ⟨rfl, ?_⟩
     refine ⟨_, ?_, k + 1, rfl, by first | rfl | exact vi (by omega), by first | rfl | exact vi (by omega), by first | rfl | exact vi (by omega), by first | rfl | exact vi (by omega), (by first | assumption | omega | rfl), (by rw [take_snoc (d := []) hlt]; exact (r1 (by simpa using h14)).1), (by first | assumption | omega | rfl)⟩
     omega
   ·have h8 := dlt_f g8
    refine W.exit (thn_x (thn_x (blk_hit ?_)))
    refine fin_mk (.inl rfl) ?_
    exact .inl ⟨ss, rfl, by rw [show k = ss.length by omega, List.take_length] at hJ; exact hJ⟩
theorem vals_seq (A : Nat → Prop) (Bs n₀ : Nat) (v : Value) (ss : List Str) (w : World) (hA : ∀ k, n₀ ≤ k → A k) (hBs : Bs < w.heap.size) (hc : w.cell? ⟨Bs, 0, none⟩ = some v) (hs : StrsAt A w v ss) (hAw : ∀ k, w.heap.size ≤ k → A k) :
    SeqStopsK Fence.wide 1 Try.prog 141 #[.pointer (some ⟨Bs, 0, none⟩)] (fun x : Str => #[S x]) (KpB n₀) (fun xs => xs = ss) (fun _ => True) ss.length w := by
  intro l J Jx w1 hW _ _ hY h0
  have hs1 := hs.carryR (gr_of_below hW) hAw
  have hc1 := (hW.cell (p := ⟨Bs, 0, none⟩) hBs).trans hc
  rw [show (#[Value.func (.yield l) #[] #[]] ++ #[Value.pointer (some ⟨Bs, 0, none⟩)] : Array Value) = #[.func (.yield l) #[] #[], .pointer (some ⟨Bs, 0, none⟩)] from rfl]
  refine callsIn_wide.2 (Calls.mono (vals_ok A l Bs n₀ v ss hA J Jx hY w1 hc1 hs1 h0) ?_)
  rintro e w2 ⟨u, rfl, h⟩
  exact ⟨⟨u, rfl⟩, h⟩
theorem seq_ok (gf : Nat) (lb : Array Value) (ss : List Str) (w : World) (eg : Go.Proofs.Enters Try.prog gf) (hl : ss.length ≤ 100000000000) {Φ : List Str → Prop} (hΦ : ∀ xs, Φ xs → xs.Perm ss)
    (hseq : SeqStopsK Fence.wide 1 Try.prog gf lb (fun x : Str => #[S x]) (KpB w.heap.size) Φ (fun _ => True) ss.length w) :
    Ret Try.prog 163 #[.slice none 0 0, .func (.func gf) #[] lb] w fun v w' => (∃ xs : List Str, xs.Perm ss ∧ Own w' (w.heap.size + 1) 9 1 v xs.length (xs.map S) ∧ (xs = [] → v = .slice none 0 0)) ∧ Bel w w' := by
  refine ret_of_W_marks Try.func163 rfl (Nat.le_of_ble_eq_true rfl) (res1 rfl) ?_
  have hB := Gr.refl (fun _ => False) w
  refine W.seq ?_
  refine W.region ?_
  refine L.box (cs := _) rfl rfl (fun w2 bx2 hw hz2 => ?_)
  have hB := hB.carry hw
  refine L.val (x_as (v := _) rfl) rfl ?_
  refine L.nil ?_
  refine thn_n ?_
  refine W.seq ?_
  refine W.seq ?_
  refine W.region ?_
  refine L.val (x_mv (v := _) rfl) rfl ?_
  refine L.nil ?_
  refine thn_n ?_
  refine W.block ?_
  refine W.wide (m := 2) (WI.rangeF (by decide) rfl eg hseq (Bel.below hB) (by omega)
    (fun pre w' => ∃ v, Box w' w.heap.size 22 [v] ∧ Own w' (w.heap.size + 1) 9 1 v pre.length (pre.map S) ∧ RowKit.Below w.heap.size w w' ∧ (pre = [] → v = .slice none 0 0)) ?_ ⟨_, bx2, own_nil, Bel.below hB, fun _ => rfl⟩ rfl rfl ?_ ?_)
  · rintro pre a b row ⟨v, h1, h2, h3, h4⟩ hg hr
    have hg' := gr_of_grown hg
    refine ⟨v, h1.carryR hg' (fun e => ?_), h2.carryR hg' (fun j hj e => ?_), h3.grown hg h3.size (fun k e => by have := (hr k e).1; omega), h4⟩
    · have := (hr _ e.symm).1; omega
    · obtain ⟨_, o, ho, hn⟩ := hr _ e.symm
      rw [h2.cells hj ho] at hn; cases hn
  · rintro l pre x w5 ⟨v, h1, h2, h3, -⟩ hlen
    refine WI.block (WI.region ?_)
    refine LI.val (fun _ => trivial) (fun _ h => by cases h) (x_ld (v := v) kcoll_oc22 rfl (h1.cell (i := 0) rfl)) rfl ?_
    refine LI.val (fun _ => trivial) (fun _ h => by cases h) (x_mv (v := S x) rfl) rfl ?_
    refine LI.val (fun _ => trivial) (fun _ h => by cases h) (x_bs (sz := 1) (cells := [S x]) Try.underlying22 kcoll_el9 rfl rfl rfl) rfl ?_
    have b5 := bel_alloc w5 (.cells [S x].toArray 9)
    have h1 := h1.carry b5
    have h2 := h2.carry b5
    have bx := box_alloc w5 9 [S x]
    obtain ⟨v', w6, hrun, a1, a2, a3, a4⟩ := append_run (ty := 22) (a := ⟨w5.heap.size, 0, none⟩) (m := 1) 1 (news := [S x]) Try.underlying22 kcoll_el9 h2 rfl bx.news (by simp [Value.oneCell', S]) (by omega) (by have := h3.size; simp; omega)
    refine LI.val (fun _ => trivial) (fun _ h => by cases h) (x_append rfl rfl hrun) rfl ?_
    have hbl := h1.lt
    have hne : ∀ j, some j = v.ownBlock → w.heap.size + 1 ≤ j := fun j hj => (h2.lt hj).1
    have h1 := h1.carryR a2 (fun e => by have := hne _ e; omega)
    refine LI.skip (fun _ => trivial) (fun _ h => by cases h) (x_st (v := v') kcoll_sz22 rfl rfl (by rcases a1.open with ⟨rfl, _⟩ | ⟨_, _, _, rfl, _⟩ <;> rfl) (h1.cell (i := 0) rfl) (h1.free 0)) ?_
    have g7 : Gr (fun k => w.heap.size ≤ k) w5 (w6.setCell ⟨w.heap.size, 0, none⟩ v') := ((b5.mono fun _ _ f => f.elim).trans (a2.mono fun k _ hk => by have := hne k hk; omega)).trans ((gr_setCell w6 ⟨w.heap.size, 0, none⟩ v').mono fun k _ hk => by have : k = w.heap.size := hk; omega)
    have hB7 := below_of_gr g7 h3.size
    have ko := ((KeepsOthers.alloc w5 (.cells [S x].toArray 9)).trans (keeps_of_gr a2 fun k o hk ho => h2.cells hk ho)).trans (KeepsOthers.setCell w6 ⟨w.heap.size, 0, none⟩ v')
    refine LI.nil ⟨rfl, ko, ⟨hB7, ko.walks⟩, _, h1.set 0 v', ?_, h3.trans hB7, fun h => by simp at h⟩
    · have := Own.carryR a1 (gr_setCell w6 ⟨w.heap.size, 0, none⟩ v') (fun j hj e => by have := (a1.lt hj).1; have e : j = w.heap.size := e; omega)
      simpa using this
  rintro Db xs w5 hD hx ⟨v, h1, h2, h3, h4⟩ hK
  refine blk_n ?_
  refine thn_n ?_
  refine W.seq ?_
  refine W.region ?_
  refine L.val (x_ld (v := v) kcoll_oc22 rfl (h1.cell (i := 0) rfl)) rfl ?_
  refine L.val (x_as (v := _) rfl) rfl ?_
  refine L.nil ?_
  refine thn_n ?_
  refine W.ret (finM_mk (.inr rfl) ?_)
  exact ⟨Db, rfl, hK, ⟨xs, hΦ xs hx, Own.carryR h2 (gr_putObj _ _ _) (fun j hj e => by have e : j = Db := e; subst e; have := h2.cells hj hK; cases this), h4⟩, (bel_of h3).set (gr_putObj _ _ _) (by omega)⟩
end Go.Gx
namespace Go.Proofs
open Go.Shelf
def Try.lays190_ren : Go.Shelf.Ren := ⟨fun | 190 => 140 | 125 => 124 | 258 => 164 | 128 => 151 | 129 => 152 | 302 => 177 | 303 => 178 | 304 => 179 | 305 => 180 | 306 => 181 | 307 => 182 | 308 => 183 | 309 => 184 | 310 => 185 | 333 => 187 | 329 => 167 | 330 => 168 | 334 => 188 | 335 => 189 | 336 => 190 | 344 => 191 | n => n, fun | 31 => 22 | 9 => 9 | 3 => 3 | 46 => 121 | 0 => 0 | 51 => 150 | 53 => 152 | 4 => 4 | 183 => 144 | 182 => 143 | 131 => 136 | 5 => 5 | 218 => 160 | 222 => 164 | 228 => 177 | 229 => 178 | n => n, fun | n => n⟩
theorem Try.lays190 : Go.Proofs.Lays.n190 Try.prog Try.lays190_ren := {
  mixed := by kernel_rfl
  f125 := Try.func124.trans (congrArg some (by kernel_rfl))
  f128 := Try.func151.trans (congrArg some (by kernel_rfl))
  f129 := Try.func152.trans (congrArg some (by kernel_rfl))
  f190 := Try.func140.trans (congrArg some (by kernel_rfl))
  f258 := Try.func164.trans (congrArg some (by kernel_rfl))
  f302 := Try.func177.trans (congrArg some (by kernel_rfl))
  f303 := Try.func178.trans (congrArg some (by kernel_rfl))
  f304 := Try.func179.trans (congrArg some (by kernel_rfl))
  f305 := Try.func180.trans (congrArg some (by kernel_rfl))
  f306 := Try.func181.trans (congrArg some (by kernel_rfl))
  f307 := Try.func182.trans (congrArg some (by kernel_rfl))
  f308 := Try.func183.trans (congrArg some (by kernel_rfl))
  f309 := Try.func184.trans (congrArg some (by kernel_rfl))
  f310 := Try.func185.trans (congrArg some (by kernel_rfl))
  f329 := Try.func167.trans (congrArg some (by kernel_rfl))
  f330 := Try.func168.trans (congrArg some (by kernel_rfl))
  f333 := Try.func187.trans (congrArg some (by kernel_rfl))
  f334 := Try.func188.trans (congrArg some (by kernel_rfl))
  f335 := Try.func189.trans (congrArg some (by kernel_rfl))
  f336 := Try.func190.trans (congrArg some (by kernel_rfl))
  f344 := Try.func191.trans (congrArg some (by kernel_rfl))
  t0 := Try.underlying0
  a0 := Try.isAgg0
  z0 := Try.sizeOf0
  v0 := Try.zeroValue0
  t3 := Try.underlying3
  a3 := Try.isAgg3
  z3 := Try.sizeOf3
  v3 := Try.zeroValue3
  t4 := Try.underlying4
  a4 := Try.isAgg4
  z4 := Try.sizeOf4
  v4 := Try.zeroValue4
  t5 := Try.underlying5
  a5 := Try.isAgg5
  z5 := Try.sizeOf5
  v5 := Try.zeroValue5
  t9 := Try.underlying9
  a9 := Try.isAgg9
  z9 := Try.sizeOf9
  v9 := Try.zeroValue9
  t31 := Try.underlying22
  a31 := Try.isAgg22
  z31 := Try.sizeOf22
  v31 := Try.zeroValue22
  t46 := Try.underlying121
  a46 := Try.isAgg121
  z46 := Try.sizeOf121
  v46 := Try.zeroValue121
  t51 := Try.underlying150
  a51 := Try.isAgg150
  z51 := Try.sizeOf150
  v51 := Try.zeroValue150
  t53 := Try.underlying152
  a53 := Try.isAgg152
  z53 := Try.sizeOf152
  v53 := Try.zeroValue152
  t131 := Try.underlying136
  a131 := Try.isAgg136
  z131 := Try.sizeOf136
  v131 := Try.zeroValue136
  t182 := Try.underlying143
  a182 := Try.isAgg143
  z182 := Try.sizeOf143
  v182 := Try.zeroValue143
  t183 := Try.underlying144
  a183 := Try.isAgg144
  z183 := Try.sizeOf144
  v183 := Try.zeroValue144
  t218 := Try.underlying160
  a218 := Try.isAgg160
  z218 := Try.sizeOf160
  v218 := Try.zeroValue160
  t222 := Try.underlying164
  a222 := Try.isAgg164
  z222 := Try.sizeOf164
  v222 := Try.zeroValue164
  t228 := Try.underlying177
  a228 := Try.isAgg177
  z228 := Try.sizeOf177
  v228 := Try.zeroValue177
  t229 := Try.underlying178
  a229 := Try.isAgg178
  z229 := Try.sizeOf178
  v229 := Try.zeroValue178 }
open Go.Sort Go.RowKit in
theorem Try.slices_Sort_string (blk off cap : Nat) (ss : List (List UInt8)) (w : World) (hH : Holds encStr w blk off ss.toArray) (hblk : blk < w.heap.size) (hsz : ss.length < 4611686018427387904) :
    Calls Try.prog 140 #[.slice (some ⟨blk, off, none⟩) ss.length cap] w fun e w' =>
      e = .returned (.tuple #[]) ∧ ∃ n os, w' = grow (putRow encStr (Sort.ahead w n) blk off (ss.mergeSort fun x y => decide (x ≤ y)).toArray) os := Any.slices_Sort_string Try.lays190 blk off cap ss w hH hblk hsz
open Go.RowKit Go.Sort in
theorem Try.slices_Sort_string_none (p : Option Addr) (cap : Nat) (w : World) :
    Calls Try.prog 140 #[.slice p 0 cap] w fun e w' => e = .returned (.tuple #[]) ∧ w' = w := Any.slices_Sort_string_none Try.lays190 p cap w
end Go.Proofs
namespace Go.Gx
open Go.Proofs Go.Sort
theorem putCells_row {α : Type} [Inhabited α] {enc : α → Value} {hd tl : List Value} {d d' : Array α} (hs : d'.size = d.size) :
    putCells enc hd.length d' (hd ++ d.toList.map enc ++ tl).toArray = (hd ++ d'.toList.map enc ++ tl).toArray := by
  apply Array.ext
  · simp [putCells, hs]
  · intro i h1 h2
    have h2 : i < (hd ++ d'.toList.map enc ++ tl).length := by simpa using h2
    simp only [putCells, Array.getElem_mapIdx, List.getElem_toArray]
    by_cases ha : i < hd.length
    · rw [if_neg (by omega)]
      rw [List.getElem_append_left (by simp; omega), List.getElem_append_left ha, List.getElem_append_left (by simp; omega), List.getElem_append_left ha]
    · by_cases hb : i < hd.length + d'.size
      · rw [if_pos ⟨by omega, hb⟩, List.getElem_append_left (by simp; omega), List.getElem_append_right (by omega)]
        simp [getElem!_pos d' (i - hd.length) (by omega)]
      · rw [if_neg (by omega), List.getElem_append_right (by simp; omega), List.getElem_append_right (by simp; omega)]
        simp [hs]
theorem row_put {α : Type} [Inhabited α] {enc : α → Value} {w : World} {b o : Nat} {T : TypeId} {hd tl : List Value} {d d' : Array α} (h : Row enc w b o T hd d tl) (hs : d'.size = d.size) (n : Nat) : Row enc (putRow enc (Sort.ahead w n) b o d') b o T hd d' tl := by
  obtain ⟨rfl, hb⟩ := h
  refine ⟨rfl, ?_⟩
  have hb' : w.heap[b]? = some (.cells (hd ++ d.toList.map enc ++ tl).toArray T (0, 0)) := hb
  show (w.heap.modify b (onCells (putCells enc hd.length d')))[b]? = _
  rw [Array.getElem?_modify, if_pos rfl, hb']
  simp only [Option.map_some, onCells]
  rw [putCells_row hs]
theorem gr_put {α : Type} [Inhabited α] {enc : α → Value} {w : World} {b o : Nat} {d' : Array α} (n : Nat) : Gr (· = b) w (putRow enc (Sort.ahead w n) b o d') := by
  refine ⟨rfl, rfl, rfl, ?_, fun k _ hk => ?_⟩
  · show _ ≤ (w.heap.modify b _).size
    simp
  · show (w.heap.modify b _)[k]? = _
    rw [Array.getElem?_modify, if_neg (fun e => hk e.symm)]
theorem bel_grow (w : World) (os : Array Obj) : Bel w (grow w os) :=
  ⟨rfl, rfl, rfl, by simp [grow], fun k hk _ => by show (w.heap ++ os)[k]? = _; rw [Array.getElem?_append_left hk]⟩
theorem sort_nil (cap : Nat) (w : World) : Ret Try.prog 140 #[.slice none 0 cap] w fun v w' => v = .tuple #[] ∧ Bel w w' :=
  Calls.mono (Try.slices_Sort_string_none none cap w) fun _ _ ⟨he, hw⟩ => ⟨_, he, rfl, hw ▸ Gr.refl _ _⟩
theorem sort_ok (b o cap n : Nat) (T : TypeId) (hd tl : List Value) (d : Array Str) (w : World) (hR : Row S w b o T hd d tl) (hn : d.size = n) (h1 : 1 ≤ n) (hc : n ≤ 2000000000000000000) :
    Ret Try.prog 140 #[.slice (some ⟨b, o, none⟩) n cap] w fun v w' => v = .tuple #[] ∧ Gr (· = b) w w' ∧ ∃ d', Row S w' b o T hd d' tl ∧ PermIn 0 n d d' ∧ SortedIn ltStr 0 n d' := by
  subst hn
  have hk := Try.slices_Sort_string b o cap d.toList w (fun j hj => by
    have hj : j < d.size := by simpa using hj
    have e : d.toList.toArray[j]! = d[j]! := by simp
    rw [e]; exact ⟨hR.at hj, hR.free _⟩) hR.lt (by simp; omega)
  have e0 : d.toList.length = d.size := by simp
  rw [e0] at hk
  refine Calls.mono hk fun e w' ⟨he, m, os, hw⟩ => ⟨_, he, rfl, ?_⟩
  subst hw
  obtain ⟨l, hl⟩ : ∃ l, l = d.toList.mergeSort fun x y => decide (x ≤ y) := ⟨_, rfl⟩
  have hp : l.Perm d.toList := by rw [hl]; exact List.mergeSort_perm _ _
  have hlen : l.length = d.size := by rw [hp.length_eq]; simp
  have hsr : l.Pairwise fun x y => decide (x ≤ y) = true := by
    rw [hl]
    refine List.pairwise_mergeSort (fun a b c h1 h2 => ?_) (fun a b => ?_) _
    · simp only [decide_eq_true_eq] at *; exact List.le_trans h1 h2
    · simp only [Bool.or_eq_true, decide_eq_true_eq]; exact List.le_total a b
  rw [← hl]
  refine ⟨(gr_put m).carry (bel_grow _ _), l.toArray, (row_put hR (by simpa using hlen) m).carry (bel_grow _ _), ⟨by simpa using hlen, fun i hi => ?_, ?_⟩, fun i j _ hij hj => ?_⟩
  · have hi : d.size ≤ i := by omega
    rw [getElem!_neg d i (by omega), getElem!_neg l.toArray i (by simp; omega)]
  · have e1 : l.toArray.extract 0 d.size = l.toArray := by rw [← hlen]; simp
    have e2 : d.extract 0 d.size = d := by simp
    rw [e1, e2]; simpa using hp
  · have hj' : j < l.length := by omega
    have hi' : i < l.length := by omega
    have hle := List.pairwise_iff_getElem.1 hsr i j hi' hj' hij
    simp only [decide_eq_true_eq] at hle
    rw [getElem!_pos l.toArray j (by simpa using hj'), getElem!_pos l.toArray i (by simpa using hi')]
    simp only [List.getElem_toArray, ltStr, decide_eq_false_iff_not]
    exact List.not_lt.2 hle
end Go.Gx
namespace Go.Gx
open Go.Proofs Go.Sort
theorem knamed_en139 : Go.Proofs.Enters Try.prog 139 := Go.Proofs.enters_of Try.func139 (by kernel_rfl) rfl
theorem knamed_en140 : Go.Proofs.Enters Try.prog 140 := Go.Proofs.enters_of Try.func140 (by kernel_rfl) rfl
theorem knamed_en163 : Go.Proofs.Enters Try.prog 163 := Go.Proofs.enters_of Try.func163 (by kernel_rfl) rfl
theorem values_ok (p : Option Addr) (n cap : Nat) (w : World) : Ret Try.prog 117 #[.slice p n cap] w fun r w' => r = .func (.func 141) #[] #[.pointer (some ⟨w.heap.size, 0, none⟩)] ∧ Box w' w.heap.size 22 [.slice p n cap] ∧ Bel w w' := by
  refine ret_of_W Try.func117 rfl (Nat.le_of_ble_eq_true rfl) (res1 rfl) ?_
  have hB := Gr.refl (fun _ => False) w
  refine W.seq ?_
  refine W.region ?_
  refine L.box (cs := [.slice p n cap]) rfl rfl (fun w1 bx1 hw hz1 => ?_)
  have hB := hB.carry hw
  refine L.val (x_as (v := _) rfl) rfl ?_
  refine L.nil ?_
  refine thn_n ?_
  refine W.seq ?_
  refine W.region ?_
  refine L.val (x_mkfn rfl rfl) rfl ?_
  refine L.val (x_as (v := _) rfl) rfl ?_
  refine L.nil ?_
  refine thn_n ?_
  refine W.ret (fin_mk (.inr rfl) ?_)
  exact ⟨rfl, bx1, hB⟩
theorem collect_ok (gf : Nat) (lb : Array Value) (ss : List Str) (w : World) (eg : Go.Proofs.Enters Try.prog gf) (hl : ss.length ≤ 100000000000) {Φ : List Str → Prop} (hΦ : ∀ xs, Φ xs → xs.Perm ss)
    (hseq : SeqStopsK Fence.wide 1 Try.prog gf lb (fun x : Str => #[S x]) (KpB w.heap.size) Φ (fun _ => True) ss.length w) :
    Ret Try.prog 139 #[.func (.func gf) #[] lb] w fun v w' => (∃ xs : List Str, xs.Perm ss ∧ Own w' (w.heap.size + 1) 9 1 v xs.length (xs.map S) ∧ (xs = [] → v = .slice none 0 0)) ∧ Bel w w' := by
  refine ret_of_W Try.func139 rfl (Nat.le_of_ble_eq_true rfl) (res1 rfl) ?_
  have hB := Gr.refl (fun _ => False) w
  refine W.seq ?_
  refine W.region ?_
  refine L.val (x_as (v := _) rfl) rfl ?_
  refine L.nil ?_
  refine thn_n ?_
  refine W.seq ?_
  refine W.region ?_
  refine L.val (x_mv (v := .func _ _ _) rfl) rfl ?_
  refine L.ret (x_call knamed_en163 rfl) rfl (seq_ok gf lb ss _ eg hl hΦ hseq) ?_
  rintro v w4 ⟨hO, hw⟩
  have hB := hB.carry hw
  refine L.val (x_as (v := _) rfl) rfl ?_
  refine L.nil ?_
  refine thn_n ?_
  refine W.ret (fin_mk (.inr rfl) ?_)
  exact ⟨hO, hB⟩
def SortedNew (base : Nat) (w : World) (v : Value) (ss : List Str) : Prop :=
  (ss = [] ∧ v = .slice none 0 0) ∨ ∃ b cap tl d, base ≤ b ∧ 1 ≤ ss.length ∧ ss.length ≤ cap ∧ v = .slice (some ⟨b, 0, none⟩) ss.length cap ∧ Row S w b 0 9 [] d tl ∧ d.size = ss.length ∧ PermIn 0 ss.length ss.toArray d ∧ SortedIn ltStr 0 ss.length d ∧ cap ≤ 9223372036854775807
theorem permIn_conv {xs ss : List Str} (h : xs.Perm ss) {d : Array Str} (p : PermIn 0 xs.length xs.toArray d) : PermIn 0 ss.length ss.toArray d := by
  obtain ⟨h1, h2, h3⟩ := p
  have hl := h.length_eq
  refine ⟨by rw [h1]; simpa using hl, fun i hi => ?_, ?_⟩
  · have hi : ss.length ≤ i := by omega
    rw [h2 i (by omega)]
    rw [getElem!_neg _ _ (by simp; omega), getElem!_neg _ _ (by simp; omega)]
  · rw [hl] at h3
    refine h3.trans ?_
    have e1 : (xs.toArray.extract 0 ss.length).toList = xs := by simp [← hl]
    have e2 : (ss.toArray.extract 0 ss.length).toList = ss := by simp
    rw [e1, e2]; exact h
theorem sorted_ok (gf : Nat) (lb : Array Value) (ss : List Str) (w : World) (eg : Go.Proofs.Enters Try.prog gf) (hl : ss.length ≤ 100000000000) {Φ : List Str → Prop} (hΦ : ∀ xs, Φ xs → xs.Perm ss)
    (hseq : SeqStopsK Fence.wide 1 Try.prog gf lb (fun x : Str => #[S x]) (KpB w.heap.size) Φ (fun _ => True) ss.length w) :
    Ret Try.prog 116 #[.func (.func gf) #[] lb] w fun v w' => SortedNew w.heap.size w' v ss ∧ Bel w w' := by
  refine ret_of_W Try.func116 rfl (Nat.le_of_ble_eq_true rfl) (res1 rfl) ?_
  have hB := Gr.refl (fun _ => False) w
  refine W.seq ?_
  refine W.region ?_
  refine L.val (x_as (v := _) rfl) rfl ?_
  refine L.nil ?_
  refine thn_n ?_
  refine W.seq ?_
  refine W.region ?_
  refine L.val (x_mv (v := .func _ _ _) rfl) rfl ?_
  refine L.ret (x_call knamed_en139 rfl) rfl (collect_ok gf lb ss _ eg hl hΦ hseq) ?_
  rintro v w5 ⟨⟨xs, hpx, hO, hz0⟩, hw⟩
  have hB := hB.carry hw
  suffices hs : Ret Try.prog 140 #[v] w5 (fun r w' => r = .tuple #[] ∧ SortedNew w.heap.size w' v ss ∧ Bel w w') from ?_
  rotate_left 1
  · rcases hO.open with ⟨rfl, hk, -⟩ | ⟨b, cap, tl, rfl, hb, hcap, hcm, hbx⟩
    · exact (sort_nil 0 w5).mono fun r w' ⟨h1, h2⟩ => ⟨h1, .inl ⟨List.eq_nil_of_length_eq_zero (hpx.length_eq.symm.trans hk), rfl⟩, hB.carry h2⟩
    · by_cases hz : xs.length = 0
      · have := hz0 (List.eq_nil_of_length_eq_zero hz); cases this
      · have hR : Row S w5 b 0 9 [] xs.toArray tl := ⟨rfl, by simpa using hbx⟩
        refine (sort_ok b 0 cap xs.length _ [] tl xs.toArray w5 hR (by simp) (by omega) (by have := hpx.length_eq; omega)).mono ?_
        rintro r w' ⟨h1, hg, d, hd, p1, p2⟩
        have hle := hpx.length_eq
        exact ⟨h1, .inr ⟨b, cap, tl, d, by omega, by omega, by omega, by rw [hle], hd, by rw [p1.1]; simpa using hle, permIn_conv hpx p1, by rw [← hle]; exact p2, hcm⟩, hB.set hg (by omega)⟩
  refine L.val (x_as (v := _) rfl) rfl ?_
  refine L.nil ?_
  refine thn_n ?_
  refine W.seq ?_
  refine W.region ?_
  refine L.val (x_mv (v := _) rfl) rfl ?_
  refine L.ret (x_call knamed_en140 rfl) rfl (hs) ?_
  rintro _ w7 ⟨rfl, hN, hw⟩
  refine L.nil ?_
  refine thn_n ?_
  refine W.seq ?_
  refine W.region ?_
  refine L.val (x_mv (v := _) rfl) rfl ?_
  refine L.val (x_as (v := _) rfl) rfl ?_
  refine L.nil ?_
  refine thn_n ?_
  refine W.ret (fin_mk (.inr rfl) ?_)
  exact ⟨hN, hw⟩
end Go.Gx
