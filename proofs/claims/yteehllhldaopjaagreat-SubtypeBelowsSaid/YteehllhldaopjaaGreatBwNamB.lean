/- Joins and meets of records and variants: the program's walk. Conditions: none. -/
import Derived.Test.YteehllhldaopjaaGreatBwFunB
namespace Go.Gx
open Go.Proofs
theorem knamb_ag25 : aggT Tryz.prog 25 5 = true := by kernel_rfl
theorem knamb_el25 : elT Tryz.prog 25 5 = true := by kernel_rfl
theorem knamb_el9 : elT Tryz.prog 9 1 = true := by kernel_rfl
theorem knamb_en117 : Go.Proofs.Enters Tryz.prog 117 := Go.Proofs.enters_of Tryz.func117 (by kernel_rfl) rfl
theorem knamb_en154 : Go.Proofs.Enters Tryz.prog 154 := Go.Proofs.enters_of Tryz.func154 (by kernel_rfl) rfl
theorem knamb_en173 : Go.Proofs.Enters Tryz.prog 173 := Go.Proofs.enters_of Tryz.func173 (by kernel_rfl) rfl
theorem knamb_en177 : Go.Proofs.Enters Tryz.prog 177 := Go.Proofs.enters_of Tryz.func177 (by kernel_rfl) rfl
theorem knamb_en178 : Go.Proofs.Enters Tryz.prog 178 := Go.Proofs.enters_of Tryz.func178 (by kernel_rfl) rfl
theorem knamb_en179 : Go.Proofs.Enters Tryz.prog 179 := Go.Proofs.enters_of Tryz.func179 (by kernel_rfl) rfl
theorem knamb_en198 : Go.Proofs.Enters Tryz.prog 198 := Go.Proofs.enters_of Tryz.func198 (by kernel_rfl) rfl
theorem knamb_fo25_0 : fieldOff Tryz.prog 25 0 = some 0 := by kernel_rfl
theorem knamb_fo25_3 : fieldOff Tryz.prog 25 3 = some 3 := by kernel_rfl
theorem knamb_fo25_4 : fieldOff Tryz.prog 25 4 = some 4 := by kernel_rfl
theorem knamb_mixed : Tryz.prog.follows .mixedOrders = true := by kernel_rfl
theorem knamb_oc22 : oneCellT Tryz.prog 22 = true := by kernel_rfl
theorem knamb_oc23 : oneCellT Tryz.prog 23 = true := by kernel_rfl
theorem knamb_oc3 : oneCellT Tryz.prog 3 = true := by kernel_rfl
theorem knamb_oc9 : oneCellT Tryz.prog 9 = true := by kernel_rfl
theorem knamb_si25 : structInfo Tryz.prog 25 = some ([(0, 1), (1, 1), (2, 1), (3, 1), (4, 1)], [Value.int .i64 0, S [], S [], Value.slice none 0 0, Value.slice none 0 0]) := by kernel_rfl
theorem knamb_sz22 : (Tryz.prog.info? 22).map (·.size) = some 1 := by kernel_rfl
theorem knamb_sz23 : (Tryz.prog.info? 23).map (·.size) = some 1 := by kernel_rfl
theorem knamb_sz25 : (Tryz.prog.info? 25).map (·.size) = some 5 := by kernel_rfl
theorem knamb_sz9 : (Tryz.prog.info? 9).map (·.size) = some 1 := by kernel_rfl
theorem knamb_zr25 : (Tryz.prog.info? 25).bind (·.zero) = some (Value.agg [Value.int .i64 0, S [], S [], Value.slice none 0 0, Value.slice none 0 0].toArray) := by kernel_rfl
theorem knamb_zr3 : (Tryz.prog.info? 3).bind (·.zero) = some (Value.int .i64 0) := by kernel_rfl
set_option maxHeartbeats 2000000 in
theorem named_ok2 (F : Bool → Sh → Sh → Option Sh) (up all : Bool) (a b : Sh) (na : a.names.Nodup) (nb : b.names.Nodup) (hla : a.names.length = a.parts.length) (hlb : b.names.length = b.parts.length) (hsa : a.parts.length ≤ 400) (hsb : b.parts.length ≤ 400) (hF : BndHyp F a b) (A0 B0 : Nat → Prop) (xs ys : List Value) (w : World) (ha0 : ShC A0 w xs a) (hb0 : ShC B0 w ys b) :
    Ret Tryz.prog 155 #[.agg xs.toArray, .agg ys.toArray, .bool up, .bool all] w fun v w' => BndV (nmdB uniU F up all a b) (fun k => k < w.heap.size ∧ A0 k ∧ B0 k) v w' ∧ Bel w w' := by
  obtain ⟨M, hM, hM0⟩ : ∃ M : Nat → Prop, (∀ k, w.heap.size ≤ k → M k) ∧ (∀ k, M k ↔ (A0 k ∨ w.heap.size ≤ k) ∧ (B0 k ∨ w.heap.size ≤ k)) := ⟨fun k => (A0 k ∨ w.heap.size ≤ k) ∧ (B0 k ∨ w.heap.size ≤ k), fun k h => ⟨.inr h, .inr h⟩, fun k => Iff.rfl⟩
  have ha : ShC M w xs a := ha0.up.mono fun k _ h => ((hM0 k).1 h).1
  have hb : ShC M w ys b := hb0.up.mono fun k _ h => ((hM0 k).1 h).2
  clear ha0 hb0
  have hRes : ∀ k, k < w.heap.size ∧ A0 k ∧ B0 k → M k := fun k h => (hM0 k).2 ⟨.inl h.2.1, .inl h.2.2⟩
  obtain ⟨vna, vpa, rfl, hnA, hpa, -⟩ := id ha.inv
  obtain ⟨p, cap, rowa, rfl, p1, p2, p3, hra⟩ := hpa
  obtain ⟨vnb, vpb, rfl, hnB, hpb, -⟩ := id hb.inv
  obtain ⟨q, capq, rowb, rfl, q1, q2, q3, hrb⟩ := hpb
  have hshort : ∀ x ∈ uniV a b, x.length ≤ 9223372036854775807 := fun x hx => by
    rcases ((uniV_ok a b na nb).2 x).1 hx with h | h
    · exact hnA.short x h
    · exact hnB.short x h
  obtain ⟨U, hU0⟩ : ∃ U, U = uniU a b := ⟨_, rfl⟩
  have hUl : U.length ≤ 800 := by have := uniU_len (a := a) (b := b); rw [hU0]; omega
  have hUm : ∀ x, x ∈ U ↔ x ∈ a.names ∨ x ∈ b.names := by rw [hU0]; exact (uniU_ok a b na nb).2
  have hUshort : ∀ x ∈ U, x.length ≤ 9223372036854775807 := fun x hx => by
    rcases (hUm x).1 hx with h | h
    · exact hnA.short x h
    · exact hnB.short x h
  obtain ⟨nL, hnL⟩ : ∃ nL : Nat → List Str, nL = fun k => (selT F up all a b U k).map (·.1) := ⟨_, rfl⟩
  obtain ⟨pL, hpL⟩ : ∃ pL : Nat → List Sh, pL = fun k => (selT F up all a b U k).map (·.2) := ⟨_, rfl⟩
  have hnL0 : nL 0 = [] := by rw [hnL]; rfl
  have hpL0 : pL 0 = [] := by rw [hpL]; rfl
  have hnLs : ∀ k t, k < U.length → pickB F up all a b (U.getD k []) = some t → nL (k + 1) = nL k ++ [U.getD k []] ∧ pL (k + 1) = pL k ++ [t] := fun k t hk h => ⟨by rw [hnL]; simp only [selT_some hk h, List.map_append, List.map_cons, List.map_nil], by rw [hpL]; simp only [selT_some hk h, List.map_append, List.map_cons, List.map_nil]⟩
  have hnLn : ∀ k, k < U.length → pickB F up all a b (U.getD k []) = none → nL (k + 1) = nL k ∧ pL (k + 1) = pL k := fun k hk h => ⟨by rw [hnL]; simp only [selT_none hk h], by rw [hpL]; simp only [selT_none hk h]⟩
  have hnLl : ∀ k, (nL k).length ≤ 800 ∧ (pL k).length ≤ 800 := fun k => by rw [hnL, hpL]; have := selT_len (F := F) (up := up) (all := all) (a := a) (b := b) (U := U) (k := k); simp; omega
  have hnLsh : ∀ k, ∀ x ∈ nL k, x.length ≤ 9223372036854775807 := fun k x hx => by rw [hnL] at hx; exact hUshort x (selT_names hx)
  refine ret_of_W_R Tryz.func155 rfl (Nat.le_of_ble_eq_true rfl) ?_
  have hB := Gr.refl (fun _ => False) w
  refine W.seq ?_
  refine W.region ?_
  refine L.box (cs := _) rfl rfl (fun w4 bx4 hw hz4 => ?_)
  have hB := hB.carry hw; have ha := ha.carry hw; have hb := hb.carry hw; have hra := hra.carry hw; have hrb := hrb.carry hw
  refine L.box (cs := _) rfl rfl (fun w5 bx5 hw hz5 => ?_)
  have hB := hB.carry hw; have ha := ha.carry hw; have hb := hb.carry hw; have hra := hra.carry hw; have hrb := hrb.carry hw; have bx4 := bx4.carry hw
  refine L.alloc (cs := [Value.int .i64 0, S [], S [], Value.slice none 0 0, Value.slice none 0 0]) knamb_zr25 rfl rfl (fun w8 bx8 hw hz8 => ?_)
  have hB := hB.carry hw; have ha := ha.carry hw; have hb := hb.carry hw; have hra := hra.carry hw; have hrb := hrb.carry hw; have bx4 := bx4.carry hw; have bx5 := bx5.carry hw
  obtain ⟨b8, hb8⟩ : ∃ b8, b8 = w5.heap.size := ⟨_, rfl⟩
  rw [← hb8] at bx8 ⊢
  obtain ⟨b5, hb5⟩ : ∃ b5, b5 = w4.heap.size := ⟨_, rfl⟩
  rw [← hb5] at bx5 ⊢
  have z1 : w.heap.size < b5 ∧ b5 < b8 := by omega
  have hx8 := bx8.lt
  clear hb5 hb8 hz4 hz5 hz8
  refine L.val (x_as (v := .bool _) rfl) rfl ?_
  refine L.nil ?_
  refine thn_n ?_
  refine W.cut (fun D' E' w' => D' = [] ∧ ∃ mx my : Nat, E' 2 = .bool up ∧ E' 3 = .bool all ∧ E' 4 = .pointer (some ⟨w.heap.size, 0, none⟩) ∧ E' 5 = .pointer (some ⟨b5, 0, none⟩) ∧ E' 8 = .pointer (some ⟨b8, 0, none⟩) ∧ E' 10 = .map (some mx) ∧ E' 11 = .map (some my) ∧ b8 < mx ∧ b8 < my ∧ Bel w w' ∧ ShRow M w' p rowa a.parts ∧ ShRow M w' q rowb b.parts ∧ Box w' w.heap.size 25 [.int .i64 a.kind, S a.of, S a.name, vna, .slice p a.parts.length cap] ∧ Box w' b5 25 [.int .i64 b.kind, S b.of, S b.name, vnb, .slice q b.parts.length capq] ∧ Box w' b8 25 [.int .i64 0, S [], S [], .slice none 0 0, .slice none 0 0] ∧ FieldsAt w' mx a.names ∧ FieldsAt w' my b.names) ?_ ?_
  ·refine W.drawF 6 knamb_mixed (fun wF22 hB0 => ?_)
   refine LAC.takeN (i := 0) rfl (by kernel_rfl) (by kernel_rfl) (by kernel_rfl) (by kernel_rfl) (fun w hw => x_ldn (vs := _) knamb_ag25 rfl rfl (hw.keepRow rfl (bx4.row rfl))) rfl ?_
   refine LAC.takeN (i := 2) rfl (by kernel_rfl) (by kernel_rfl) (by kernel_rfl) (by kernel_rfl) (fun w hw => x_ldn (vs := _) knamb_ag25 rfl rfl (hw.keepRow rfl (bx5.row rfl))) rfl ?_
   refine LAC.step (rs := [1]) (fun _ => hB0) (by kernel_rfl) (by simp) ⟨⟨_, rfl, ?_⟩, trivial⟩
   have hs23 := hB0.size
   refine L.ret (x_call knamb_en154 rfl) rfl (fields_ok M a _ _ (ha.carry hB0) na) ?_
   rintro _ w23 ⟨⟨mx, rfl, hmx, mp10⟩, hw⟩
   have hB0 := hB0.carry hw
   refine L.nil ?_
   refine thn_n ?_
   refine LAC.step (rs := [3]) (fun _ => hB0) (by kernel_rfl) (by simp) ⟨⟨_, rfl, ?_⟩, trivial⟩
   have hs25 := hB0.size
   refine L.ret (x_call knamb_en154 rfl) rfl (fields_ok M b _ _ (hb.carry hB0) nb) ?_
   rintro _ w25 ⟨⟨my, rfl, hmy, mp11⟩, hw⟩
   have hB0 := hB0.carry hw; have mp10 := mp10.carry hw
   refine L.nil ?_
   refine thn_n ?_
   refine LAC.takeN (i := 4) rfl (by kernel_rfl) (by kernel_rfl) (by kernel_rfl) (by kernel_rfl) (fun w hw => x_as (v := .map _) rfl) rfl ?_
   refine LAC.takeN (i := 5) rfl (by kernel_rfl) (by kernel_rfl) (by kernel_rfl) (by kernel_rfl) (fun w hw => x_as (v := .map _) rfl) rfl ?_
   refine LAC.doneF (by kernel_rfl) hB0 ?_
   have hB := hB.carry hB0; have ha := ha.carry hB0; have hb := hb.carry hB0; have hra := hra.carry hB0; have hrb := hrb.carry hB0; have bx4 := bx4.carry hB0; have bx5 := bx5.carry hB0; have bx8 := bx8.carry hB0
   refine thn_n ?_
   exact ⟨rfl, _, _, rfl, rfl, rfl, rfl, rfl, rfl, rfl, by omega, by omega, hB, hra, hrb, bx4, bx5, bx8, mp10, mp11⟩
  ·rintro D E w26 ⟨rfl, mx, my, e2, e3, e4, e5, e8, e10, e11, z2, z3, hB, hra, hrb, bx4, bx5, bx8, mp10, mp11⟩
   rw [upd_self e2, upd_self e3, upd_self e4, upd_self e5, upd_self e8, upd_self e10, upd_self e11]
   have hmx := mp10.lt
   have hmy := mp11.lt
   have hx8 := bx8.lt
   have hsB := hB.size
   refine W.seq ?_
   refine W.region ?_
   refine L.val (x_fa knamb_fo25_0 rfl) rfl ?_
   refine L.val (x_ld (v := .int _ _) knamb_oc3 rfl (bx4.cell0 rfl)) rfl ?_
   refine L.val (x_build (cells := [.int _ _, S _, S _, .slice _ _ _, .slice _ _ _]) knamb_si25 rfl rfl) rfl ?_
   refine L.alloc (cs := [Value.int .i64 0, S [], S [], Value.slice none 0 0, Value.slice none 0 0]) knamb_zr25 rfl rfl (fun w12 bx12 hw hz12 => ?_)
   have hB := hB.carry hw; have hra := hra.carry hw; have hrb := hrb.carry hw; have bx4 := bx4.carry hw; have bx5 := bx5.carry hw; have bx8 := bx8.carry hw; have mp10 := mp10.carry hw; have mp11 := mp11.carry hw
   obtain ⟨b12, hb12⟩ : ∃ b12, b12 = w26.heap.size := ⟨_, rfl⟩
   rw [← hb12] at bx12 ⊢
   have z4 : b8 < b12 ∧ mx < b12 ∧ my < b12 ∧ w12.heap.size = b12 + 1 := by omega
   refine L.setRow knamb_ag25 rfl rfl bx12 rfl rfl (by simp [Value.oneCell', S]) (fun wl15 bx12 hw hzl15 => ?_)
   have hsz := hB.size
   have hB := hB.set hw (by omega); have hra := hra.carryR hw (fun k e => hM k (by have e : k = _ := e; omega)); have hrb := hrb.carryR hw (fun k e => hM k (by have e : k = _ := e; omega)); have bx4 := bx4.carryR hw (by omega); have bx5 := bx5.carryR hw (by omega); have bx8 := bx8.carryR hw (by omega); have mp10 := mp10.carryR hw (by omega); have mp11 := mp11.carryR hw (by omega)
   have z5 : wl15.heap.size = b12 + 1 := hzl15.trans z4.2.2.2
   refine L.nil ?_
   refine thn_n ?_
   refine W.seq ?_
   refine W.region ?_
   refine L.val (x_mv (v := .map _) rfl) rfl ?_
   refine L.ret (x_call knamb_en177 rfl) rfl (mapclone_ok mx _ _ mp10) ?_
   rintro _ w30 ⟨⟨rfl, mp13⟩, hw⟩
   have hB := hB.carry hw; have hra := hra.carry hw; have hrb := hrb.carry hw; have bx4 := bx4.carry hw; have bx5 := bx5.carry hw; have bx8 := bx8.carry hw; have mp10 := mp10.carry hw; have mp11 := mp11.carry hw; have bx12 := bx12.carry hw
   have hx13 := mp13.lt
   have hsB30 := hB.size
   have hy13 := mp11.lt
   refine L.val (x_as (v := .map _) rfl) rfl ?_
   refine L.nil ?_
   refine thn_n ?_
   refine W.seq ?_
   refine W.region ?_
   refine L.val (x_mv (v := .map _) rfl) rfl ?_
   refine L.val (x_mv (v := .map _) rfl) rfl ?_
   refine L.ret (x_call knamb_en178 rfl) rfl (mapcopy_ok wl15.heap.size my _ _ _ mp13 mp11 (by omega)) ?_
   rintro _ w33 ⟨⟨rfl, vis, hvis, mp13⟩, hg⟩
   have hB := hB.set hg (by omega)
   have hra := hra.carryR hg (fun k e => hM k (by have e : k = _ := e; omega))
   have hrb := hrb.carryR hg (fun k e => hM k (by have e : k = _ := e; omega))
   have bx4 := bx4.carryR hg (by omega)
   have bx5 := bx5.carryR hg (by omega)
   have bx8 := bx8.carryR hg (by omega)
   have bx12 := bx12.carryR hg (by omega)
   have mp10 := mp10.carryR hg (by omega)
   have mp11 := mp11.carryR hg (by omega)
   have hkp := keys_uni na nb hvis
   have hUe : sortNames ((putAll (fieldsF 0 a.names) vis).map (·.1)) = U := by rw [hU0]; exact sortNames_perm_eq hkp
   have hkl : ((putAll (fieldsF 0 a.names) vis).map (·.1)).length ≤ 800 := by have := hkp.length_eq; have := uniV_len (a := a) (b := b); omega
   have hpl : (putAll (fieldsF 0 a.names) vis).length ≤ 800 := by simpa using hkl
   have hsg := hg.size
   refine L.nil ?_
   refine thn_n ?_
   refine W.seq ?_
   refine W.seq ?_
   refine W.region ?_
   refine L.val (x_mv (v := .map _) rfl) rfl ?_
   refine L.ret (x_call knamb_en179 rfl) rfl (keys_ok _ _) ?_
   rintro _ w35 ⟨rfl, bx35, hw⟩
   have hB := hB.carry hw; have hra := hra.carry hw; have hrb := hrb.carry hw; have bx4 := bx4.carry hw; have bx5 := bx5.carry hw; have bx8 := bx8.carry hw; have mp10 := mp10.carry hw; have mp11 := mp11.carry hw; have bx12 := bx12.carry hw; have mp13 := mp13.carry hw
   refine L.ret (x_call knamb_en173 rfl) rfl (sorted_ok (Φ := fun xs => xs.Perm ((putAll (fieldsF 0 a.names) vis).map (·.1))) _ _ ((putAll (fieldsF 0 a.names) vis).map (·.1)) _ knamb_en198 (by omega) (fun _ h => h) (by have h := keys_seq w33.heap.size w35.heap.size wl15.heap.size (putAll (fieldsF 0 a.names) vis) w35 bx35.lt (bx35.cell (i := 0) rfl) mp13; rw [List.length_map]; exact h)) ?_
   rintro v36 w36 ⟨hS36, hw⟩
   have hB := hB.carry hw; have hra := hra.carry hw; have hrb := hrb.carry hw; have bx4 := bx4.carry hw; have bx5 := bx5.carry hw; have bx8 := bx8.carry hw; have mp10 := mp10.carry hw; have mp11 := mp11.carry hw; have bx12 := bx12.carry hw; have mp13 := mp13.carry hw
   obtain ⟨pu, cu, rfl, hU⟩ := sorted_strs hS36 (fun x hx => hshort x (hkp.mem_iff.1 hx)) (by omega)
   rw [hUe] at hU ⊢
   have hU := hU.up
   obtain ⟨base, hbase⟩ : ∃ base, base = w36.heap.size := ⟨_, rfl⟩
   have hx35 := bx35.lt
   have z6 : b12 < w35.heap.size ∧ w35.heap.size ≤ base ∧ b12 < base := by rw [hbase]; have := hw.size; have := hB.size; omega
   have z7 : w.heap.size < b12 := by omega
   rw [← hbase] at hU
   have hG : Ge base w36 := by rw [hbase]; exact Nat.le_refl _
   refine L.val (x_len_slice Tryz.underlying22 rfl) rfl ?_
   refine L.val (x_mv (v := .int _ _) rfl) rfl ?_
   refine L.nil ?_
   refine thn_n ?_
   refine W.block ?_
   refine W.loop (fun m' E w' => ∃ (k : Nat) (vN vP : Value), m' = U.length - k ∧ E 2 = .bool up ∧ E 3 = .bool all ∧ E 4 = .pointer (some ⟨w.heap.size, 0, none⟩) ∧ E 5 = .pointer (some ⟨b5, 0, none⟩) ∧ E 8 = .pointer (some ⟨b8, 0, none⟩) ∧ E 10 = .map (some mx) ∧ E 11 = .map (some my) ∧ E 12 = .pointer (some ⟨b12, 0, none⟩) ∧ E 36 = .slice pu U.length cu ∧ E 37 = .int .i64 (U.length : Nat) ∧ E 38 = .int .i64 (k : Nat) ∧ (Bel w w') ∧ (ShRow M w' p rowa a.parts) ∧ (ShRow M w' q rowb b.parts) ∧ (Box w' w.heap.size 25 [.int .i64 a.kind, S a.of, S a.name, vna, .slice p a.parts.length cap]) ∧ (Box w' b5 25 [.int .i64 b.kind, S b.of, S b.name, vnb, .slice q b.parts.length capq]) ∧ (Box w' b8 25 [.int .i64 0, S [], S [], .slice none 0 0, .slice none 0 0]) ∧ (FieldsAt w' mx a.names) ∧ (FieldsAt w' my b.names) ∧ (Box w' b12 25 [.int .i64 a.kind, S [], S [], vN, vP]) ∧ (StrsAt (fun k => k < w35.heap.size ∨ base ≤ k) w' (.slice pu U.length cu) U) ∧ (Ge base w') ∧ (k ≤ U.length) ∧ (Own w' base 9 1 vN (nL k).length ((nL k).map S)) ∧ (ShsOwn (AvC M w.heap.size base w' vN vP) w' base 25 vP (pL k)) ∧ (all = true → (U.take k).any (failB F up a b) = false)) (U.length) ?_ ?_
   ·exact ⟨0, .slice none 0 0, .slice none 0 0, by omega, by first | rfl | exact vi (by omega), by first | rfl | exact vi (by omega), by first | rfl | exact vi (by omega), by first | rfl | exact vi (by omega), by first | rfl | exact vi (by omega), by first | rfl | exact vi (by omega), by first | rfl | exact vi (by omega), by first | rfl | exact vi (by omega), by first | rfl | exact vi (by omega), by first | rfl | exact vi (by omega), by first | rfl | exact vi (by omega), (by first | assumption | omega | rfl), (by first | assumption | omega | rfl), (by first | assumption | omega | rfl), (by first | assumption | omega | rfl), (by first | assumption | omega | rfl), (by first | assumption | omega | rfl), (by first | assumption | omega | rfl), (by first | assumption | omega | rfl), (by first | assumption | omega | rfl), (by first | assumption | omega | rfl), (by first | assumption | omega | rfl), (by first | assumption | omega | rfl), (by rw [hnL0]; exact own_nil), (by rw [hpL0]; exact ShsOwn.nil), (by intro _; rfl)⟩
   ·rintro _ E wL39 ⟨k, vN, vP, em, e2, e3, e4, e5, e8, e10, e11, e12, e36, e37, e38, hB, hra, hrb, bx4, bx5, bx8, mp10, mp11, bx12, hU, hG, hk, hN, hP, hnf⟩
    rw [upd_self e2, upd_self e3, upd_self e4, upd_self e5, upd_self e8, upd_self e10, upd_self e11, upd_self e12, upd_self e36, upd_self e37, upd_self e38]
    refine W.seq ?_
    refine W.region ?_
    refine L.val (x_lss rfl rfl) rfl ?_
    refine L.nil ?_
    refine thn_n ?_
    refine W.seq ?_
    refine W.cond (b := _) rfl (fun g39 => ?_) (fun g39 => ?_)
    ·have h39 := of_decide_eq_true g39
     have hlt : k < U.length := by omega
     obtain ⟨ub, uo, rfl, hcu⟩ := hU.elem hlt
     obtain ⟨aN, cN, rfl, hcN⟩ := own_shape hN
     obtain ⟨xsP, hPo⟩ := hP.own
     obtain ⟨aP, cP, rfl, hcP⟩ := own_shape hPo
     clear hPo xsP
     obtain ⟨nq, hnq⟩ : ∃ nq, nq = wL39.heap.size := ⟨_, rfl⟩
     have hGq : Ge nq wL39 := by rw [hnq]; exact Nat.le_refl _
     have hqb : base ≤ nq := by rw [hnq]; exact hG
     have hqN : ∀ j, some j = (Value.slice aN (nL k).length cN).ownBlock → j < nq := fun j h => by rw [hnq]; exact (Own.lt hN h).2
     have hqP : ∀ j, some j = (Value.slice aP (pL k).length cP).ownBlock → j < nq := fun j h => by rw [hnq]; exact (hP.lt h).2
     have hloN : ∀ j, some j = (Value.slice aN (nL k).length cN).ownBlock → base ≤ j := fun j h => (Own.lt hN h).1
     have hloP : ∀ j, some j = (Value.slice aP (pL k).length cP).ownBlock → base ≤ j := fun j h => (hP.lt h).1
     have hNl := (hnLl k).1
     have hPl := (hnLl k).2
     have hsL := hB.size
     obtain ⟨x, hxd⟩ : ∃ x, x = U.getD k [] := ⟨_, rfl⟩
     have hxU : x ∈ a.names ∨ x ∈ b.names := (hUm x).1 (by rw [hxd, List.getD_eq_getElem?_getD, List.getElem?_eq_getElem hlt]; exact List.getElem_mem _)
     rw [← hxd] at hcu
     have hpx : ∀ i, idxS x a.names < a.names.length → i = idxS x a.names → partS a x = some (a.parts.getD i default) := fun i h e => partS_some.2 ⟨h, by rw [e]⟩
     have hqx : ∀ i, idxS x b.names < b.names.length → i = idxS x b.names → partS b x = some (b.parts.getD i default) := fun i h e => partS_some.2 ⟨h, by rw [e]⟩
     have hpn : ¬ idxS x a.names < a.names.length → partS a x = none := fun h => by unfold partS; rw [if_neg h]
     have hqn : ¬ idxS x b.names < b.names.length → partS b x = none := fun h => by unfold partS; rw [if_neg h]
     refine W.skip ?_
     refine thn_n ?_
     refine W.cut (fun D' E' w' => D' = [] ∧ ∃ vN vP : Value, E' 2 = .bool up ∧ E' 3 = .bool all ∧ E' 4 = .pointer (some ⟨w.heap.size, 0, none⟩) ∧ E' 5 = .pointer (some ⟨b5, 0, none⟩) ∧ E' 8 = .pointer (some ⟨b8, 0, none⟩) ∧ E' 10 = .map (some mx) ∧ E' 11 = .map (some my) ∧ E' 12 = .pointer (some ⟨b12, 0, none⟩) ∧ E' 36 = .slice (some ⟨ub, uo, none⟩) U.length cu ∧ E' 37 = .int .i64 (U.length : Nat) ∧ E' 38 = .int .i64 (k : Nat) ∧ k + 1 ≤ U.length ∧ (all = true → (U.take (k + 1)).any (failB F up a b) = false) ∧ Bel w w' ∧ ShRow M w' p rowa a.parts ∧ ShRow M w' q rowb b.parts ∧ Box w' w.heap.size 25 [.int .i64 a.kind, S a.of, S a.name, vna, .slice p a.parts.length cap] ∧ Box w' b5 25 [.int .i64 b.kind, S b.of, S b.name, vnb, .slice q b.parts.length capq] ∧ Box w' b8 25 [.int .i64 0, S [], S [], .slice none 0 0, .slice none 0 0] ∧ FieldsAt w' mx a.names ∧ FieldsAt w' my b.names ∧ Box w' b12 25 [.int .i64 a.kind, S [], S [], vN, vP] ∧ StrsAt (fun k => k < w35.heap.size ∨ base ≤ k) w' (.slice (some ⟨ub, uo, none⟩) U.length cu) U ∧ Ge base w' ∧ Own w' base 9 1 vN (nL (k + 1)).length ((nL (k + 1)).map S) ∧ ShsOwn (AvC M w.heap.size base w' vN vP) w' base 25 vP (pL (k + 1))) ?_ ?_
     ·refine W.block ?_
      refine W.seq ?_
      refine W.region ?_
      refine L.val (x_ia1 (j := k) Tryz.underlying22 knamb_sz9 rfl rfl (by omega) (by omega)) rfl ?_
      refine L.val (x_ld (v := S _) knamb_oc9 rfl hcu) rfl ?_
      refine L.val (x_as (v := S _) rfl) rfl ?_
      refine L.nil ?_
      refine thn_n ?_
      refine W.seq ?_
      refine W.region ?_
      refine L.val (x_mv (v := .map _) rfl) rfl ?_
      refine L.val (x_mv (v := S _) rfl) rfl ?_
      refine L.val (x_lookF Tryz.underlying133 Tryz.underlying9 knamb_zr3 rfl rfl mp10) rfl ?_
      refine L.val (x_mv (v := _) rfl) rfl ?_
      refine L.val (x_ext (v := .int _ _) rfl rfl) rfl ?_
      refine L.val (x_ext (v := .bool _) rfl rfl) rfl ?_
      refine L.val (x_as (v := .int _ _) rfl) rfl ?_
      refine L.val (x_as (v := .bool _) rfl) rfl ?_
      refine L.nil ?_
      refine thn_n ?_
      refine W.seq ?_
      refine W.region ?_
      refine L.val (x_mv (v := .map _) rfl) rfl ?_
      refine L.val (x_mv (v := S _) rfl) rfl ?_
      refine L.val (x_lookF Tryz.underlying133 Tryz.underlying9 knamb_zr3 rfl rfl mp11) rfl ?_
      refine L.val (x_mv (v := _) rfl) rfl ?_
      refine L.val (x_ext (v := .int _ _) rfl rfl) rfl ?_
      refine L.val (x_ext (v := .bool _) rfl rfl) rfl ?_
      refine L.val (x_as (v := .int _ _) rfl) rfl ?_
      refine L.val (x_as (v := .bool _) rfl) rfl ?_
      refine L.nil ?_
      refine thn_n ?_
      refine W.seq ?_
      refine W.region ?_
      refine L.val (x_build (cells := [.int _ _, S _, S _, .slice _ _ _, .slice _ _ _]) knamb_si25 rfl rfl) rfl ?_
      refine L.alloc (cs := [Value.int .i64 0, S [], S [], Value.slice none 0 0, Value.slice none 0 0]) knamb_zr25 rfl rfl (fun w20 bx20 hw hz20 => ?_)
      have hB := hB.carry hw; have hra := hra.carry hw; have hrb := hrb.carry hw; have bx4 := bx4.carry hw; have bx5 := bx5.carry hw; have bx8 := bx8.carry hw; have mp10 := mp10.carry hw; have mp11 := mp11.carry hw; have bx12 := bx12.carry hw; have hU := hU.carry hw; have hG := hG.carry hw; have hGq := hGq.carry hw; have hN := hN.carry hw; have hP := hP.carry hw
      rw [← hnq] at bx20 ⊢
      have hz20b : w20.heap.size = nq + 1 := by omega
      refine L.setRow knamb_ag25 rfl rfl bx20 rfl rfl (by simp [Value.oneCell', S]) (fun wl49 bx20 hw hzl49 => ?_)
      have hsz := hB.size
      have hB := hB.set hw (by omega); have hra := hra.carryR hw (fun k e => hM k (by have e : k = _ := e; omega)); have hrb := hrb.carryR hw (fun k e => hM k (by have e : k = _ := e; omega)); have bx4 := bx4.carryR hw (by omega); have bx5 := bx5.carryR hw (by omega); have bx8 := bx8.carryR hw (by omega); have mp10 := mp10.carryR hw (by omega); have mp11 := mp11.carryR hw (by omega); have bx12 := bx12.carryR hw (by omega); have hU := hU.carryR hw (fun j e => by have e : j = _ := e; first | exact .inr (by omega) | exact .inl (by omega)); have hG := hG.carryR hw; have hGq := hGq.carryR hw; have hN := Own.carryR hN hw (fun j hj e => by have e : j = _ := e; have h1 := (Own.lt hN hj).1; first | omega | (have h2 := hqN j hj; omega)); have hP := hP.carryA (A' := AvC M w.heap.size base wL39 (.slice aN (nL k).length cN) (.slice aP (pL k).length cP)) hw (fun j hj e => by have e : j = _ := e; have h1 := (hP.lt hj).1; first | omega | (have h2 := hqP j hj; omega)) (fun j e => by have e : j = _ := e; first | exact .inr (.inr (.inr (.inr (by omega)))) | exact .inr (.inl (by omega))) (fun _ h => h)
      refine L.val (x_as (v := .bool _) rfl) rfl ?_
      refine L.nil ?_
      refine thn_n ?_
      refine W.cut (fun D' E' w' => D' = [] ∧ ∃ (ok : Bool) (cs : List Value) (t : Sh), E' 2 = .bool up ∧ E' 3 = .bool all ∧ E' 4 = .pointer (some ⟨w.heap.size, 0, none⟩) ∧ E' 5 = .pointer (some ⟨b5, 0, none⟩) ∧ E' 8 = .pointer (some ⟨b8, 0, none⟩) ∧ E' 10 = .map (some mx) ∧ E' 11 = .map (some my) ∧ E' 12 = .pointer (some ⟨b12, 0, none⟩) ∧ E' 15 = S x ∧ E' 20 = .pointer (some ⟨nq, 0, none⟩) ∧ E' 21 = .bool ok ∧ E' 36 = .slice (some ⟨ub, uo, none⟩) U.length cu ∧ E' 37 = .int .i64 (U.length : Nat) ∧ E' 38 = .int .i64 (k : Nat) ∧ (ok = true → pickB F up all a b x = some t) ∧ (ok = false → pickB F up all a b x = none) ∧ (all = true → failB F up a b x = false) ∧ Bel w w' ∧ ShRow M w' p rowa a.parts ∧ ShRow M w' q rowb b.parts ∧ Box w' w.heap.size 25 [.int .i64 a.kind, S a.of, S a.name, vna, .slice p a.parts.length cap] ∧ Box w' b5 25 [.int .i64 b.kind, S b.of, S b.name, vnb, .slice q b.parts.length capq] ∧ Box w' b8 25 [.int .i64 0, S [], S [], .slice none 0 0, .slice none 0 0] ∧ FieldsAt w' mx a.names ∧ FieldsAt w' my b.names ∧ Box w' b12 25 [.int .i64 a.kind, S [], S [], (.slice aN (nL k).length cN), (.slice aP (pL k).length cP)] ∧ StrsAt (fun k => k < w35.heap.size ∨ base ≤ k) w' (.slice (some ⟨ub, uo, none⟩) U.length cu) U ∧ Ge base w' ∧ Ge nq w' ∧ Own w' base 9 1 (.slice aN (nL k).length cN) (nL k).length ((nL k).map S) ∧ ShsOwn (AvC M w.heap.size base wL39 (.slice aN (nL k).length cN) (.slice aP (pL k).length cP)) w' base 25 (.slice aP (pL k).length cP) (pL k) ∧ Box w' nq 25 cs ∧ ShC (AvC M w.heap.size base w' (.slice aN (nL k).length cN) (.slice aP (pL k).length cP)) w' cs t) ?_ ?_
      ·refine W.block ?_
       refine W.seq ?_
       refine W.region ?_
       refine L.val (x_mv (v := .bool _) rfl) rfl ?_
       refine L.val (x_mv (v := .bool _) rfl) rfl ?_
       refine' L.group0 1 58 58 58 57 true rfl ?_ ?_ ?_
       rotate_left 1
       ·intro g57
        have h57 := g57
        refine L.gyes' (dj := 57) (b := _) rfl rfl g57 ?_
        refine L.val (x_mv (v := .bool _) rfl) rfl ?_
        refine L.nil ?_
        refine thn_n ⟨rfl, rfl, ?_, rfl⟩
        repeat (first | exact jeq.refl _ _ _ | refine jeq.upd rfl ?_ | refine jeq.jk rfl rfl ?_)
       ·intro g57
        refine L.gno (dj := 57) (b := _) rfl rfl g57 rfl ?_
        refine L.nil (thn_n ⟨rfl, rfl, ?_⟩)
        repeat (first | exact jeq.refl _ _ _ | refine jeq.upd rfl ?_ | refine jeq.jk rfl rfl ?_)
       intro J57 j57
       refine L.val (x_and rfl j57) rfl ?_
       refine L.val (x_as (v := .bool _) rfl) rfl ?_
       refine L.nil ?_
       refine thn_n ?_
       refine W.cond (b := _) rfl (fun g59 => ?_) (fun g59 => ?_)
       ·have h59 := g59
        have h59 := g59
        have hia : idxS x a.names < a.names.length := by simp at h59; exact h59.1
        have hib : idxS x b.names < b.names.length := by simp at h59; exact h59.2
        have hip : idxS x a.names < a.parts.length := by omega
        have hjp : idxS x b.names < b.parts.length := by omega
        obtain ⟨pb, po, rfl, -⟩ := hra.elem hip
        obtain ⟨qb, qo, rfl, -⟩ := hrb.elem hjp
        have hnA' := hra.avoid hip
        have hnB' := hrb.avoid hjp
        have hpick : pickB F up all a b x = F up (a.parts.getD (idxS x a.names) default) (b.parts.getD (idxS x b.names) default) := by unfold pickB; rw [hpx _ hia rfl, hqx _ hib rfl]
        have hfail : failB F up a b x = (F up (a.parts.getD (idxS x a.names) default) (b.parts.getD (idxS x b.names) default)).isNone := by unfold failB pickB; rw [hpx _ hia rfl, hqx _ hib rfl]; simp
        refine W.cut (fun D' E' w' => D' = [] ∧ ∃ (cs : List Value) (t : Sh), E' 2 = .bool up ∧ E' 3 = .bool all ∧ E' 4 = .pointer (some ⟨w.heap.size, 0, none⟩) ∧ E' 5 = .pointer (some ⟨b5, 0, none⟩) ∧ E' 8 = .pointer (some ⟨b8, 0, none⟩) ∧ E' 10 = .map (some mx) ∧ E' 11 = .map (some my) ∧ E' 12 = .pointer (some ⟨b12, 0, none⟩) ∧ E' 15 = S x ∧ E' 20 = .pointer (some ⟨nq, 0, none⟩) ∧ E' 21 = .bool (pickB F up all a b x).isSome ∧ E' 36 = .slice (some ⟨ub, uo, none⟩) U.length cu ∧ E' 37 = .int .i64 (U.length : Nat) ∧ E' 38 = .int .i64 (k : Nat) ∧ (∀ r, pickB F up all a b x = some r → t = r) ∧ Bel w w' ∧ ShRow M w' (some ⟨pb, po, none⟩) rowa a.parts ∧ ShRow M w' (some ⟨qb, qo, none⟩) rowb b.parts ∧ Box w' w.heap.size 25 [.int .i64 a.kind, S a.of, S a.name, vna, .slice (some ⟨pb, po, none⟩) a.parts.length cap] ∧ Box w' b5 25 [.int .i64 b.kind, S b.of, S b.name, vnb, .slice (some ⟨qb, qo, none⟩) b.parts.length capq] ∧ Box w' b8 25 [.int .i64 0, S [], S [], .slice none 0 0, .slice none 0 0] ∧ FieldsAt w' mx a.names ∧ FieldsAt w' my b.names ∧ Box w' b12 25 [.int .i64 a.kind, S [], S [], (.slice aN (nL k).length cN), (.slice aP (pL k).length cP)] ∧ StrsAt (fun k => k < w35.heap.size ∨ base ≤ k) w' (.slice (some ⟨ub, uo, none⟩) U.length cu) U ∧ Ge base w' ∧ Ge nq w' ∧ Own w' base 9 1 (.slice aN (nL k).length cN) (nL k).length ((nL k).map S) ∧ ShsOwn (AvC M w.heap.size base wL39 (.slice aN (nL k).length cN) (.slice aP (pL k).length cP)) w' base 25 (.slice aP (pL k).length cP) (pL k) ∧ Box w' nq 25 cs ∧ ShC (AvC M w.heap.size base w' (.slice aN (nL k).length cN) (.slice aP (pL k).length cP)) w' cs t) ?_ ?_
        ·refine W.drawD (fun k => k = nq ∨ k = nq) (fun _ => False) 15 knamb_mixed (fun wD61 hw => ?_)
         have hB := hB.carry hw; have hra := hra.carry hw; have hrb := hrb.carry hw; have bx4 := bx4.carry hw; have bx5 := bx5.carry hw; have bx8 := bx8.carry hw; have mp10 := mp10.carry hw; have mp11 := mp11.carry hw; have bx12 := bx12.carry hw; have bx20 := bx20.carry hw; have hU := hU.carry hw; have hG := hG.carry hw; have hGq := hGq.carry hw; have hN := hN.carry hw; have hP := hP.carry hw
         have hB0 := Gr.refl (fun _ => False) wD61; have hR0 := Gr.refl (fun k => k = nq ∨ k = nq) wD61
         refine LAD.take0 (i := 0) rfl (by kernel_rfl) (by kernel_rfl) (by kernel_rfl) (by kernel_rfl) (fun w hw => x_fa knamb_fo25_4 rfl) rfl ?_
         refine LAD.take0 (i := 1) rfl (by kernel_rfl) (by kernel_rfl) (by kernel_rfl) (by kernel_rfl) (fun w hw => x_ld (v := .slice _ _ _) knamb_oc23 rfl (hw.keepR (by rintro (e | e) <;> (have e : (_ : Nat) = _ := e; (try dsimp only at e); first | omega | exact hnA' (hM _ (by omega)) | exact hnB' (hM _ (by omega)))) (bx4.cell0 rfl))) rfl ?_
         refine LAD.take0 (i := 2) rfl (by kernel_rfl) (by kernel_rfl) (by kernel_rfl) (by kernel_rfl) (fun w hw => x_mv (v := .int _ _) rfl) rfl ?_
         refine LAD.take0 (i := 3) rfl (by kernel_rfl) (by kernel_rfl) (by kernel_rfl) (by kernel_rfl) (fun w hw => x_ia (j := idxS x a.names) Tryz.underlying23 knamb_sz25 rfl rfl (if_pos hia) (by omega)) rfl ?_
         refine LAD.take0 (i := 4) rfl (by kernel_rfl) (by kernel_rfl) (by kernel_rfl) (by kernel_rfl) (fun w hw => x_ldn (vs := rowa (idxS x a.names)) knamb_ag25 rfl (hra.five _ hip) (hw.keepRowR (by rintro (e | e) <;> (have e : (_ : Nat) = _ := e; (try dsimp only at e); first | omega | exact hnA' (hM _ (by omega)) | exact hnB' (hM _ (by omega)))) (hra.five _ hip) (hra.elemAt hip))) rfl ?_
         refine LAD.take0 (i := 5) rfl (by kernel_rfl) (by kernel_rfl) (by kernel_rfl) (by kernel_rfl) (fun w hw => x_fa knamb_fo25_4 rfl) rfl ?_
         refine LAD.take0 (i := 6) rfl (by kernel_rfl) (by kernel_rfl) (by kernel_rfl) (by kernel_rfl) (fun w hw => x_ld (v := .slice _ _ _) knamb_oc23 rfl (hw.keepR (by rintro (e | e) <;> (have e : (_ : Nat) = _ := e; (try dsimp only at e); first | omega | exact hnA' (hM _ (by omega)) | exact hnB' (hM _ (by omega)))) (bx5.cell0 rfl))) rfl ?_
         refine LAD.take0 (i := 7) rfl (by kernel_rfl) (by kernel_rfl) (by kernel_rfl) (by kernel_rfl) (fun w hw => x_mv (v := .int _ _) rfl) rfl ?_
         refine LAD.take0 (i := 8) rfl (by kernel_rfl) (by kernel_rfl) (by kernel_rfl) (by kernel_rfl) (fun w hw => x_ia (j := idxS x b.names) Tryz.underlying23 knamb_sz25 rfl rfl (if_pos hib) (by omega)) rfl ?_
         refine LAD.take0 (i := 9) rfl (by kernel_rfl) (by kernel_rfl) (by kernel_rfl) (by kernel_rfl) (fun w hw => x_ldn (vs := rowb (idxS x b.names)) knamb_ag25 rfl (hrb.five _ hjp) (hw.keepRowR (by rintro (e | e) <;> (have e : (_ : Nat) = _ := e; (try dsimp only at e); first | omega | exact hnA' (hM _ (by omega)) | exact hnB' (hM _ (by omega)))) (hrb.five _ hjp) (hrb.elemAt hjp))) rfl ?_
         refine LAD.take0 (i := 10) rfl (by kernel_rfl) (by kernel_rfl) (by kernel_rfl) (by kernel_rfl) (fun w hw => x_mv (v := .bool _) rfl) rfl ?_
         refine LAD.step (rs := [11]) hR0 (fun _ => hB0) (by kernel_rfl) (by simp) ⟨⟨_, rfl, ?_⟩, trivial⟩
         have hs72a := hR0.size
         have hx20 := bx20.lt
         refine L.ret (x_call knamb_en117 rfl) rfl (hF up _ _ hip hjp M M _ _ _ ((hra.each _ hip).carryR hR0 (fun k e => hM k (by have e : k = nq := e.elim id id; omega))) ((hrb.each _ hjp).carryR hR0 (fun k e => hM k (by have e : k = nq := e.elim id id; omega)))) ?_
         rintro _ w72 ⟨⟨cs72, s72, rfl, ht, hs72⟩, hw⟩
         have hB0 := hB0.carry hw; have hR0 := hR0.carry hw; have bx20 := bx20.carry hw
         have hs72b := hw.size
         have ht := ht.up
         refine L.nil ?_
         refine thn_n ?_
         refine LAD.take0 (i := 12) rfl (by kernel_rfl) (by kernel_rfl) (by kernel_rfl) (by kernel_rfl) (fun w hw => x_mv (v := _) rfl) rfl ?_
         refine LAD.take0 (i := 13) rfl (by kernel_rfl) (by kernel_rfl) (by kernel_rfl) (by kernel_rfl) (fun w hw => x_ext (v := _) rfl rfl) rfl ?_
         refine LAD.take0 (i := 14) rfl (by kernel_rfl) (by kernel_rfl) (by kernel_rfl) (by kernel_rfl) (fun w hw => x_ext (v := .bool _) rfl rfl) rfl ?_
         refine LAD.step (rs := [15]) hR0 (fun _ => hB0) (by kernel_rfl) (by simp) ⟨⟨_, rfl, ?_⟩, trivial⟩
         refine L.setRow knamb_ag25 rfl rfl bx20 rfl ht.len ht.one (fun wl71 bx20 hw hzl71 => ?_)
         have hR0 := hR0.into hw (by first | exact .inl rfl | exact .inr rfl); have ht := ht.carryR hw (fun j e => by have e : j = _ := e; exact .inl ⟨by omega, hM _ (by omega), hM _ (by omega)⟩)
         refine L.nil ?_
         refine thn_n ?_
         refine LAD.take0 (i := 16) rfl (by kernel_rfl) (by kernel_rfl) (by kernel_rfl) (by kernel_rfl) (fun w hw => x_as (v := .bool _) rfl) rfl ?_
         refine LAD.done (by kernel_rfl) (by kernel_rfl) hR0 ?_
         have hB := hB.step hR0 (fun i hi e => by rcases e with e | e <;> omega)
         have hra := hra.carryR hR0 (fun k e => hM k (by rcases e with e | e <;> omega))
         have hrb := hrb.carryR hR0 (fun k e => hM k (by rcases e with e | e <;> omega))
         have bx4 := bx4.carryR hR0 (fun e => by rcases e with e | e <;> omega)
         have bx5 := bx5.carryR hR0 (fun e => by rcases e with e | e <;> omega)
         have bx8 := bx8.carryR hR0 (fun e => by rcases e with e | e <;> omega)
         have mp10 := mp10.carryR hR0 (fun e => by have e : (_ : Nat) = _ := e.elim id id; omega)
         have mp11 := mp11.carryR hR0 (fun e => by have e : (_ : Nat) = _ := e.elim id id; omega)
         have bx12 := bx12.carryR hR0 (fun e => by rcases e with e | e <;> omega)
         have hU := hU.carryR hR0 (fun j e => by have e : j = nq := e.elim id id; exact .inr (by omega))
         have hG := hG.carryR hR0
         have hGq := hGq.carryR hR0
         have hN := Own.carryR hN hR0 (fun j hj e => by have e : j = nq := e.elim id id; have h2 := hqN j hj; omega)
         have hP := hP.carryA (A' := AvC M w.heap.size base wL39 (.slice aN (nL k).length cN) (.slice aP (pL k).length cP)) hR0 (fun j hj e => by have e : j = nq := e.elim id id; have h2 := hqP j hj; omega) (fun j e => by have e : j = nq := e.elim id id; exact .inr (.inr (.inr (.inr (by omega))))) (fun _ h => h)
         refine thn_n ?_
         have hse := hR0.size
         have hGqe : nq ≤ wD61.heap.size := ‹Ge nq wD61›
         refine ⟨rfl, cs72, s72, rfl, rfl, rfl, rfl, rfl, rfl, rfl, rfl, rfl, rfl, vb (by rw [hpick]), rfl, rfl, rfl, fun r e => hs72 r (by rw [← hpick]; exact e), hB, hra, hrb, bx4, bx5, bx8, mp10, mp11, bx12, hU, hG, hGq, hN, hP, bx20, ht.mono (fun j _ h => ?_)⟩
         exact avc_of hM (by omega) (by omega) (fun j h => ⟨hloN j h, by have := hqN j h; omega⟩) (fun j h => ⟨hloP j h, by have := hqP j h; omega⟩) (by omega) h
        ·rintro D E w75 ⟨rfl, cs, t, e2, e3, e4, e5, e8, e10, e11, e12, e15, e20, e21, e36, e37, e38, htr, hB, hra, hrb, bx4, bx5, bx8, mp10, mp11, bx12, hU, hG, hGq, hN, hP, bx20, ht⟩
         rw [upd_self e2, upd_self e3, upd_self e4, upd_self e5, upd_self e8, upd_self e10, upd_self e11, upd_self e12, upd_self e15, upd_self e20, upd_self e21, upd_self e36, upd_self e37, upd_self e38]
         refine W.seq ?_
         refine W.region ?_
         refine L.val (x_mv (v := .bool _) rfl) rfl ?_
         refine L.val (x_mv (v := .bool _) rfl) rfl ?_
         refine' L.group0 2 77 78 78 76 true rfl ?_ ?_ ?_
         rotate_left 1
         ·intro g76
          have h76 := g76
          refine L.gyes' (dj := 76) (b := _) rfl rfl g76 ?_
          refine L.val (x_mv (v := .bool _) rfl) rfl ?_
          refine L.gyes' (dj := 76) (b := _) rfl rfl g76 ?_
          refine L.val (x_not rfl) rfl ?_
          refine L.nil ?_
          refine thn_n ⟨rfl, rfl, ?_, rfl⟩
          repeat (first | exact jeq.refl _ _ _ | refine jeq.upd rfl ?_ | refine jeq.jk rfl rfl ?_)
         ·intro g76
          refine L.gno (dj := 76) (b := _) rfl rfl g76 rfl ?_
          refine L.gno (dj := 76) (b := _) rfl rfl g76 rfl ?_
          refine L.nil (thn_n ⟨rfl, rfl, ?_⟩)
          repeat (first | exact jeq.refl _ _ _ | refine jeq.upd rfl ?_ | refine jeq.jk rfl rfl ?_)
         intro J76 j76
         refine L.val (x_and rfl j76) rfl ?_
         refine L.nil ?_
         refine thn_n ?_
         refine W.cond (b := _) rfl (fun g79 => ?_) (fun g79 => ?_)
         ·have h79 := g79
          have h79 := g79
          have hnone : all = true ∧ nmdB uniU F up all a b = none := by
            simp only [Bool.and_eq_true, Bool.not_eq_true'] at h79
            refine ⟨h79.1, ?_⟩
            unfold nmdB
            rw [if_pos]
            refine ⟨h79.1, List.any_eq_true.2 ⟨x, by rw [← hU0]; exact (hUm x).2 hxU, ?_⟩⟩
            rw [hfail, ← hpick]
            cases hp : pickB F up all a b x
            · rfl
            · rw [hp] at h79; cases h79.2
          refine W.seq ?_
          refine W.region ?_
          refine L.val (x_build (cells := [.int _ _, S _, S _, .slice _ _ _, .slice _ _ _]) knamb_si25 rfl rfl) rfl ?_
          refine L.setRow knamb_ag25 rfl rfl bx8 rfl rfl (by simp [Value.oneCell', S]) (fun wl79 bx8 hw hzl79 => ?_)
          have hsz := hB.size
          have hB := hB.set hw (by omega)
          refine L.val (x_as (v := .bool _) rfl) rfl ?_
          refine L.nil ?_
          refine thn_n ?_
          refine W.ret (blk_r (thn_r (blk_r (thn_r (thn_r (blk_r (thn_r (finR_mk (.inr rfl) ?_))))))))
          exact ⟨_, resST (v := .bool false) rfl knamb_ag25 rfl rfl bx8 rfl, bndV_none hnone.2, hB⟩
         ·have h79 := g79
          have h79 := g79
          have hok : all = true → failB F up a b x = false := fun h => by
            rw [hfail, ← hpick]
            cases hp : pickB F up all a b x
            · rw [hp, h] at h79; cases h79
            · rfl
          refine W.skip ?_
          refine blk_n ?_
          refine thn_n ?_
          first
            | exact ⟨rfl, _, cs, t, rfl, rfl, rfl, rfl, rfl, rfl, rfl, rfl, rfl, rfl, rfl, rfl, rfl, rfl, fun h => (by obtain ⟨r, hr⟩ := Option.isSome_iff_exists.1 h; rw [htr r hr, hr]), fun h => (by simpa using h), hok, hB, hra, hrb, bx4, bx5, bx8, mp10, mp11, bx12, hU, hG, hGq, hN, hP, bx20, ht⟩
            | exact ⟨rfl, true, rowa (idxS x a.names), a.parts.getD (idxS x a.names) default, rfl, rfl, rfl, rfl, rfl, rfl, rfl, rfl, rfl, rfl, rfl, rfl, rfl, rfl, fun _ => hpick, fun h => (by cases h), hok, hB, hra, hrb, bx4, bx5, bx8, mp10, mp11, bx12, hU, hG, hGq, hN, hP, bx20, (hra.each _ hip).mono (fun j _ h => avc_M hM (by omega) hloN hloP (Nat.le_trans hB.size (Nat.le_refl _)) h)⟩
            | exact ⟨rfl, true, rowb (idxS x b.names), b.parts.getD (idxS x b.names) default, rfl, rfl, rfl, rfl, rfl, rfl, rfl, rfl, rfl, rfl, rfl, rfl, rfl, rfl, fun _ => hpick, fun h => (by cases h), hok, hB, hra, hrb, bx4, bx5, bx8, mp10, mp11, bx12, hU, hG, hGq, hN, hP, bx20, (hrb.each _ hjp).mono (fun j _ h => avc_M hM (by omega) hloN hloP (Nat.le_trans hB.size (Nat.le_refl _)) h)⟩
            | exact ⟨rfl, false, zeroL, zeroS, rfl, rfl, rfl, rfl, rfl, rfl, rfl, rfl, rfl, rfl, rfl, rfl, rfl, rfl, fun h => (by cases h), fun _ => hpick, hok, hB, hra, hrb, bx4, bx5, bx8, mp10, mp11, bx12, hU, hG, hGq, hN, hP, bx20, zeroC _ _⟩
       ·have h59 := g59
        have h59 := g59
        have hno2 : ∀ G, pickB G up all a b x = pickB F up all a b x → True := fun _ _ => trivial
        have hfail : failB F up a b x = false := by
          unfold failB
          by_cases h1 : idxS x a.names < a.names.length
          · have h2 : ¬ idxS x b.names < b.names.length := fun h => by simp [h1, h] at h59
            rw [hqn h2]; simp
          · rw [hpn h1]; rfl
        have hok : all = true → failB F up a b x = false := fun _ => hfail
        refine W.seq ?_
        refine W.region ?_
        refine L.val (x_mv (v := .bool _) rfl) rfl ?_
        refine L.val (x_mv (v := .bool _) rfl) rfl ?_
        refine' L.group0 1 84 84 84 83 true rfl ?_ ?_ ?_
        rotate_left 1
        ·intro g83
         have h83 := g83
         refine L.gyes' (dj := 83) (b := _) rfl rfl g83 ?_
         refine L.val (x_mv (v := .bool _) rfl) rfl ?_
         refine L.nil ?_
         refine thn_n ⟨rfl, rfl, ?_, rfl⟩
         repeat (first | exact jeq.refl _ _ _ | refine jeq.upd rfl ?_ | refine jeq.jk rfl rfl ?_)
        ·intro g83
         refine L.gno (dj := 83) (b := _) rfl rfl g83 rfl ?_
         refine L.nil (thn_n ⟨rfl, rfl, ?_⟩)
         repeat (first | exact jeq.refl _ _ _ | refine jeq.upd rfl ?_ | refine jeq.jk rfl rfl ?_)
        intro J83 j83
        refine L.val (x_and rfl j83) rfl ?_
        refine L.val (x_as (v := .bool _) rfl) rfl ?_
        refine L.nil ?_
        refine thn_n ?_
        refine W.cond (b := _) rfl (fun g85 => ?_) (fun g85 => ?_)
        ·have h85 := g85
         have h85 := g85
         have hall : all = true := by simp at h85; exact h85.1
         have hia : idxS x a.names < a.names.length := by simp at h85; exact h85.2
         have hib : ¬ idxS x b.names < b.names.length := fun h => by simp [hia, h] at h59
         have hip : idxS x a.names < a.parts.length := by omega
         obtain ⟨pb, po, rfl, -⟩ := hra.elem hip
         have hpick : pickB F up all a b x = some (a.parts.getD (idxS x a.names) default) := by unfold pickB; rw [hpx _ hia rfl, hqn hib, hall]; rfl
         have ht := (hra.each _ hip)
         refine W.region ?_
         refine L.val (x_fa knamb_fo25_4 rfl) rfl ?_
         refine L.val (x_ld (v := .slice _ _ _) knamb_oc23 rfl (bx4.cell0 rfl)) rfl ?_
         refine L.val (x_mv (v := .int _ _) rfl) rfl ?_
         refine L.val (x_ia (j := idxS x a.names) Tryz.underlying23 knamb_sz25 rfl rfl (if_pos hia) (by omega)) rfl ?_
         refine L.val (x_ldn (vs := rowa (idxS x a.names)) knamb_ag25 rfl (hra.five _ hip) (hra.elemAt hip)) rfl ?_
         refine L.setRow knamb_ag25 rfl rfl bx20 rfl (hra.five _ hip) (hra.each _ hip).one (fun wl91 bx20 hw hzl91 => ?_)
         have hsz := hB.size
         have hB := hB.set hw (by omega); have hra := hra.carryR hw (fun k e => hM k (by have e : k = _ := e; omega)); have hrb := hrb.carryR hw (fun k e => hM k (by have e : k = _ := e; omega)); have bx4 := bx4.carryR hw (by omega); have bx5 := bx5.carryR hw (by omega); have bx8 := bx8.carryR hw (by omega); have mp10 := mp10.carryR hw (by omega); have mp11 := mp11.carryR hw (by omega); have bx12 := bx12.carryR hw (by omega); have hU := hU.carryR hw (fun j e => by have e : j = _ := e; first | exact .inr (by omega) | exact .inl (by omega)); have hG := hG.carryR hw; have hGq := hGq.carryR hw; have hN := Own.carryR hN hw (fun j hj e => by have e : j = _ := e; have h1 := (Own.lt hN hj).1; first | omega | (have h2 := hqN j hj; omega)); have hP := hP.carryA (A' := AvC M w.heap.size base wL39 (.slice aN (nL k).length cN) (.slice aP (pL k).length cP)) hw (fun j hj e => by have e : j = _ := e; have h1 := (hP.lt hj).1; first | omega | (have h2 := hqP j hj; omega)) (fun j e => by have e : j = _ := e; first | exact .inr (.inr (.inr (.inr (by omega)))) | exact .inr (.inl (by omega))) (fun _ h => h)
         refine L.val (x_as (v := .bool _) rfl) rfl ?_
         refine L.nil ?_
         refine blk_n ?_
         refine thn_n ?_
         first
           | exact ⟨rfl, _, cs, t, rfl, rfl, rfl, rfl, rfl, rfl, rfl, rfl, rfl, rfl, rfl, rfl, rfl, rfl, fun h => (by obtain ⟨r, hr⟩ := Option.isSome_iff_exists.1 h; rw [htr r hr, hr]), fun h => (by simpa using h), hok, hB, hra, hrb, bx4, bx5, bx8, mp10, mp11, bx12, hU, hG, hGq, hN, hP, bx20, ht⟩
           | exact ⟨rfl, true, rowa (idxS x a.names), a.parts.getD (idxS x a.names) default, rfl, rfl, rfl, rfl, rfl, rfl, rfl, rfl, rfl, rfl, rfl, rfl, rfl, rfl, fun _ => hpick, fun h => (by cases h), hok, hB, hra, hrb, bx4, bx5, bx8, mp10, mp11, bx12, hU, hG, hGq, hN, hP, bx20, (hra.each _ hip).mono (fun j _ h => avc_M hM (by omega) hloN hloP (Nat.le_trans hB.size (Nat.le_refl _)) h)⟩
           | exact ⟨rfl, true, rowb (idxS x b.names), b.parts.getD (idxS x b.names) default, rfl, rfl, rfl, rfl, rfl, rfl, rfl, rfl, rfl, rfl, rfl, rfl, rfl, rfl, fun _ => hpick, fun h => (by cases h), hok, hB, hra, hrb, bx4, bx5, bx8, mp10, mp11, bx12, hU, hG, hGq, hN, hP, bx20, (hrb.each _ hjp).mono (fun j _ h => avc_M hM (by omega) hloN hloP (Nat.le_trans hB.size (Nat.le_refl _)) h)⟩
           | exact ⟨rfl, false, zeroL, zeroS, rfl, rfl, rfl, rfl, rfl, rfl, rfl, rfl, rfl, rfl, rfl, rfl, rfl, rfl, fun h => (by cases h), fun _ => hpick, hok, hB, hra, hrb, bx4, bx5, bx8, mp10, mp11, bx12, hU, hG, hGq, hN, hP, bx20, zeroC _ _⟩
        ·have h85 := g85
         have h85 := g85
         refine W.seq ?_
         refine W.region ?_
         refine L.val (x_mv (v := .bool _) rfl) rfl ?_
         refine L.val (x_as (v := .bool _) rfl) rfl ?_
         refine L.nil ?_
         refine thn_n ?_
         refine W.cond (b := _) rfl (fun g3 => ?_) (fun g3 => ?_)
         ·have h3 := g3
          have hall : all = true := h3
          have hia : ¬ idxS x a.names < a.names.length := fun h => by simp [hall, h] at h85
          have hib : idxS x b.names < b.names.length := idxS_lt.2 (hxU.resolve_left fun h => hia (idxS_lt.2 h))
          have hjp : idxS x b.names < b.parts.length := by omega
          obtain ⟨qb, qo, rfl, -⟩ := hrb.elem hjp
          have hpick : pickB F up all a b x = some (b.parts.getD (idxS x b.names) default) := by unfold pickB; rw [hpn hia, hqx _ hib rfl, hall]; rfl
          refine W.region ?_
          refine L.val (x_fa knamb_fo25_4 rfl) rfl ?_
          refine L.val (x_ld (v := .slice _ _ _) knamb_oc23 rfl (bx5.cell0 rfl)) rfl ?_
          refine L.val (x_mv (v := .int _ _) rfl) rfl ?_
          refine L.val (x_ia (j := idxS x b.names) Tryz.underlying23 knamb_sz25 rfl rfl (if_pos hib) (by omega)) rfl ?_
          refine L.val (x_ldn (vs := rowb (idxS x b.names)) knamb_ag25 rfl (hrb.five _ hjp) (hrb.elemAt hjp)) rfl ?_
          refine L.setRow knamb_ag25 rfl rfl bx20 rfl (hrb.five _ hjp) (hrb.each _ hjp).one (fun wl100 bx20 hw hzl100 => ?_)
          have hsz := hB.size
          have hB := hB.set hw (by omega); have hra := hra.carryR hw (fun k e => hM k (by have e : k = _ := e; omega)); have hrb := hrb.carryR hw (fun k e => hM k (by have e : k = _ := e; omega)); have bx4 := bx4.carryR hw (by omega); have bx5 := bx5.carryR hw (by omega); have bx8 := bx8.carryR hw (by omega); have mp10 := mp10.carryR hw (by omega); have mp11 := mp11.carryR hw (by omega); have bx12 := bx12.carryR hw (by omega); have hU := hU.carryR hw (fun j e => by have e : j = _ := e; first | exact .inr (by omega) | exact .inl (by omega)); have hG := hG.carryR hw; have hGq := hGq.carryR hw; have hN := Own.carryR hN hw (fun j hj e => by have e : j = _ := e; have h1 := (Own.lt hN hj).1; first | omega | (have h2 := hqN j hj; omega)); have hP := hP.carryA (A' := AvC M w.heap.size base wL39 (.slice aN (nL k).length cN) (.slice aP (pL k).length cP)) hw (fun j hj e => by have e : j = _ := e; have h1 := (hP.lt hj).1; first | omega | (have h2 := hqP j hj; omega)) (fun j e => by have e : j = _ := e; first | exact .inr (.inr (.inr (.inr (by omega)))) | exact .inr (.inl (by omega))) (fun _ h => h)
          refine L.val (x_as (v := .bool _) rfl) rfl ?_
          refine L.nil ?_
          refine blk_n ?_
          refine thn_n ?_
          first
            | exact ⟨rfl, _, cs, t, rfl, rfl, rfl, rfl, rfl, rfl, rfl, rfl, rfl, rfl, rfl, rfl, rfl, rfl, fun h => (by obtain ⟨r, hr⟩ := Option.isSome_iff_exists.1 h; rw [htr r hr, hr]), fun h => (by simpa using h), hok, hB, hra, hrb, bx4, bx5, bx8, mp10, mp11, bx12, hU, hG, hGq, hN, hP, bx20, ht⟩
            | exact ⟨rfl, true, rowa (idxS x a.names), a.parts.getD (idxS x a.names) default, rfl, rfl, rfl, rfl, rfl, rfl, rfl, rfl, rfl, rfl, rfl, rfl, rfl, rfl, fun _ => hpick, fun h => (by cases h), hok, hB, hra, hrb, bx4, bx5, bx8, mp10, mp11, bx12, hU, hG, hGq, hN, hP, bx20, (hra.each _ hip).mono (fun j _ h => avc_M hM (by omega) hloN hloP (Nat.le_trans hB.size (Nat.le_refl _)) h)⟩
            | exact ⟨rfl, true, rowb (idxS x b.names), b.parts.getD (idxS x b.names) default, rfl, rfl, rfl, rfl, rfl, rfl, rfl, rfl, rfl, rfl, rfl, rfl, rfl, rfl, fun _ => hpick, fun h => (by cases h), hok, hB, hra, hrb, bx4, bx5, bx8, mp10, mp11, bx12, hU, hG, hGq, hN, hP, bx20, (hrb.each _ hjp).mono (fun j _ h => avc_M hM (by omega) hloN hloP (Nat.le_trans hB.size (Nat.le_refl _)) h)⟩
            | exact ⟨rfl, false, zeroL, zeroS, rfl, rfl, rfl, rfl, rfl, rfl, rfl, rfl, rfl, rfl, rfl, rfl, rfl, rfl, fun h => (by cases h), fun _ => hpick, hok, hB, hra, hrb, bx4, bx5, bx8, mp10, mp11, bx12, hU, hG, hGq, hN, hP, bx20, zeroC _ _⟩
         ·have h3 := g3
          have hall : all = false := h3
          have hpick : pickB F up all a b x = none := by
            unfold pickB
            by_cases h1 : idxS x a.names < a.names.length
            · have h2 : ¬ idxS x b.names < b.names.length := fun h => by simp [h1, h] at h59
              rw [hpx _ h1 rfl, hqn h2, hall]; rfl
            · by_cases h2 : idxS x b.names < b.names.length
              · rw [hpn h1, hqx _ h2 rfl, hall]; rfl
              · rw [hpn h1, hqn h2]
          refine W.skip ?_
          refine blk_n ?_
          refine thn_n ?_
          first
            | exact ⟨rfl, _, cs, t, rfl, rfl, rfl, rfl, rfl, rfl, rfl, rfl, rfl, rfl, rfl, rfl, rfl, rfl, fun h => (by obtain ⟨r, hr⟩ := Option.isSome_iff_exists.1 h; rw [htr r hr, hr]), fun h => (by simpa using h), hok, hB, hra, hrb, bx4, bx5, bx8, mp10, mp11, bx12, hU, hG, hGq, hN, hP, bx20, ht⟩
            | exact ⟨rfl, true, rowa (idxS x a.names), a.parts.getD (idxS x a.names) default, rfl, rfl, rfl, rfl, rfl, rfl, rfl, rfl, rfl, rfl, rfl, rfl, rfl, rfl, fun _ => hpick, fun h => (by cases h), hok, hB, hra, hrb, bx4, bx5, bx8, mp10, mp11, bx12, hU, hG, hGq, hN, hP, bx20, (hra.each _ hip).mono (fun j _ h => avc_M hM (by omega) hloN hloP (Nat.le_trans hB.size (Nat.le_refl _)) h)⟩
            | exact ⟨rfl, true, rowb (idxS x b.names), b.parts.getD (idxS x b.names) default, rfl, rfl, rfl, rfl, rfl, rfl, rfl, rfl, rfl, rfl, rfl, rfl, rfl, rfl, fun _ => hpick, fun h => (by cases h), hok, hB, hra, hrb, bx4, bx5, bx8, mp10, mp11, bx12, hU, hG, hGq, hN, hP, bx20, (hrb.each _ hjp).mono (fun j _ h => avc_M hM (by omega) hloN hloP (Nat.le_trans hB.size (Nat.le_refl _)) h)⟩
            | exact ⟨rfl, false, zeroL, zeroS, rfl, rfl, rfl, rfl, rfl, rfl, rfl, rfl, rfl, rfl, rfl, rfl, rfl, rfl, fun h => (by cases h), fun _ => hpick, hok, hB, hra, hrb, bx4, bx5, bx8, mp10, mp11, bx12, hU, hG, hGq, hN, hP, bx20, zeroC _ _⟩
      ·rintro D E w98 ⟨rfl, ok, pc, t, e2, e3, e4, e5, e8, e10, e11, e12, e15, e20, e21, e36, e37, e38, hpt, hpn2, hok, hB, hra, hrb, bx4, bx5, bx8, mp10, mp11, bx12, hU, hG, hGq, hN, hP, bx20, hpc⟩
       rw [upd_self e2, upd_self e3, upd_self e4, upd_self e5, upd_self e8, upd_self e10, upd_self e11, upd_self e12, upd_self e15, upd_self e20, upd_self e21, upd_self e36, upd_self e37, upd_self e38]
       have hnf1 : all = true → (U.take (k + 1)).any (failB F up a b) = false := fun h => by rw [any_take hlt, hnf h, ← hxd, hok h]; rfl
       have hGq98 : nq ≤ w98.heap.size := hGq
       have hk1 : k + 1 ≤ U.length := hlt
       refine W.seq ?_
       refine W.region ?_
       refine L.val (x_mv (v := .bool _) rfl) rfl ?_
       refine L.nil ?_
       refine thn_n ?_
       refine W.cond (b := _) rfl (fun g21 => ?_) (fun g21 => ?_)
       ·have h21 := g21
        obtain ⟨rows, r1, r2, r3, r4⟩ := hP
        have hpp := hnLs k t hlt (by rw [← hxd]; exact hpt h21)
        refine W.drawD (fun k' => k' = b12 ∨ some k' = (Value.slice aN (nL k).length cN).ownBlock ∨ some k' = (Value.slice aP (pL k).length cP).ownBlock) (fun k' => some k' = (Value.slice aN (nL k).length cN).ownBlock ∨ some k' = (Value.slice aP (pL k).length cP).ownBlock) 11 knamb_mixed (fun wD99 hw => ?_)
        have hB := hB.carry hw; have hra := hra.carry hw; have hrb := hrb.carry hw; have bx4 := bx4.carry hw; have bx5 := bx5.carry hw; have bx8 := bx8.carry hw; have mp10 := mp10.carry hw; have mp11 := mp11.carry hw; have bx12 := bx12.carry hw; have bx20 := bx20.carry hw; have hU := hU.carry hw; have hG := hG.carry hw; have hGq := hGq.carry hw; have hN := hN.carry hw; have r2 := r2.carry hw; have hpc := hpc.carry hw
        have hB0 := Gr.refl (fun k' => some k' = (Value.slice aN (nL k).length cN).ownBlock ∨ some k' = (Value.slice aP (pL k).length cP).ownBlock) wD99; have hR0 := Gr.refl (fun k' => k' = b12 ∨ some k' = (Value.slice aN (nL k).length cN).ownBlock ∨ some k' = (Value.slice aP (pL k).length cP).ownBlock) wD99
        have hBD := hw
        have hGD : base ≤ wD99.heap.size := hG
        have hqD : nq ≤ wD99.heap.size := hGq
        refine LAD.take0 (i := 0) rfl (by kernel_rfl) (by kernel_rfl) (by kernel_rfl) (by kernel_rfl) (fun w hw => x_fa knamb_fo25_3 rfl) rfl ?_
        refine LAD.take1 (i := 1) rfl (by kernel_rfl) (by kernel_rfl) (by kernel_rfl) (by kernel_rfl) (by kernel_rfl) (by kernel_rfl) (fun w hw => x_ld (v := .slice _ _ _) knamb_oc22 rfl (hw.keepR (fun e => by rcases e with e | e; (have := hloN _ e; (try dsimp only at this); omega); (have := hloP _ e; (try dsimp only at this); omega)) (bx12.cell0 rfl))) rfl ?_
        refine LAD.take0 (i := 2) rfl (by kernel_rfl) (by kernel_rfl) (by kernel_rfl) (by kernel_rfl) (fun w hw => x_mv (v := S _) rfl) rfl ?_
        refine LAD.take0 (i := 5) rfl (by kernel_rfl) (by kernel_rfl) (by kernel_rfl) (by kernel_rfl) (fun w hw => x_fa knamb_fo25_4 rfl) rfl ?_
        refine LAD.take1 (i := 6) rfl (by kernel_rfl) (by kernel_rfl) (by kernel_rfl) (by kernel_rfl) (by kernel_rfl) (by kernel_rfl) (fun w hw => x_ld (v := .slice _ _ _) knamb_oc23 rfl (hw.keepR (fun e => by rcases e with e | e; (have := hloN _ e; (try dsimp only at this); omega); (have := hloP _ e; (try dsimp only at this); omega)) (bx12.cell0 rfl))) rfl ?_
        refine LAD.take0 (i := 7) rfl (by kernel_rfl) (by kernel_rfl) (by kernel_rfl) (by kernel_rfl) (fun w hw => x_ldn (vs := pc) knamb_ag25 rfl hpc.len (hw.keepRowR (by rintro (e | e | e); (have e : (_ : Nat) = _ := e; (try dsimp only at e); omega); (have := hqN _ e; (try dsimp only at this); omega); (have := hqP _ e; (try dsimp only at this); omega)) hpc.len (bx20.row hpc.len))) rfl ?_
        refine LAD.step (rs := [3, 8]) hR0 (fun _ => hB0) (by kernel_rfl) (by simp) ⟨⟨_, rfl, ?_⟩, ⟨_, rfl, ?_⟩, trivial⟩
        ·have hs102 := hR0.size
         refine L.bs (sz := 1) (cells := [S x]) Tryz.underlying22 knamb_el9 rfl rfl rfl rfl (fun w102 bx102 hw hz102 => ?_)
         have hB0 := hB0.carry hw; have hR0 := hR0.carry hw; have bx12 := bx12.carry hw; have hN := hN.carry hw; have r2 := r2.carry hw
         refine L.nil ?_
         refine thn_n ?_
         refine LAD.step (rs := [4, 8]) hR0 (fun _ => hB0) (by kernel_rfl) (by simp) ⟨⟨_, rfl, ?_⟩, ⟨_, rfl, ?_⟩, trivial⟩
         ·refine L.append (m := 1) Tryz.underlying22 knamb_el9 rfl rfl rfl hN rfl bx102.news (by simp [Value.oneCell', S]) (by omega) (Nat.le_trans hGD hR0.size) (fun v103 w103 hO103 hg hiff103 hob103 => ?_)
          obtain ⟨g103, c103, rfl⟩ := own_form hO103
          have hav103 : (Value.slice (some ⟨g103, 0, none⟩) ((nL k).length + 1) c103).ownBlock = (Value.slice aN (nL k).length cN).ownBlock ∨ ∀ j, some j = (Value.slice (some ⟨g103, 0, none⟩) ((nL k).length + 1) c103).ownBlock → wD99.heap.size ≤ j :=
            hob103.imp id (fun h j e => by have e2 := Option.some.inj (e.trans h); have h9 := hR0.size; omega)
          have bx12 := bx12.carryR hg (fun e => by have := hloN _ e; omega)
          try have bx107 := bx107.carryR hg (fun e => by have := hqN _ e; omega)
          have r2 := Own.carryR r2 hg (fun j hj hj' => own_ne r2 hN rfl hj hj')
          have hB0 := hB0.intoR hg (fun k e => .inl e)
          have hR0 := hR0.intoR hg (fun k e => .inr (.inl e))
          refine L.nil ?_
          refine thn_n ?_
          refine LAD.take0 (i := 10) rfl (by kernel_rfl) (by kernel_rfl) (by kernel_rfl) (by kernel_rfl) (fun w hw => x_fa knamb_fo25_3 rfl) rfl ?_
          refine LAD.step (rs := [8]) hR0 (fun _ => hB0) (by kernel_rfl) (by simp) ⟨⟨_, rfl, ?_⟩, trivial⟩
          have hs107 := hR0.size
          refine L.bs (sz := 5) (cells := pc) Tryz.underlying23 knamb_el25 rfl (by show (partsOk 5 0 [(0, Value.agg pc.toArray)] && decide ([((0 : Nat), Value.agg pc.toArray)].length = 1) && decide (0 < 1) && decide (1 * 5 ≤ 16777216)) = true; simp [partsOk, hpc.len, Value.cells]) (by show ([((0 : Nat), Value.agg pc.toArray)].map fun x => x.2.cells.toList).flatten = pc; simp [Value.cells]) rfl (fun w107 bx107 hw hz107 => ?_)
          have hB0 := hB0.carry hw; have hR0 := hR0.carry hw; have bx12 := bx12.carry hw; have r2 := r2.carry hw; have hO103 := hO103.carry hw
          refine L.nil ?_
          refine thn_n ?_
          refine LAD.step (rs := [9]) hR0 (fun _ => hB0) (by kernel_rfl) (by simp) ⟨⟨_, rfl, ?_⟩, trivial⟩
          refine L.append (m := 1) Tryz.underlying23 knamb_el25 rfl rfl rfl r2 hpc.len bx107.news (ShC.one hpc) (by omega) (Nat.le_trans hGD hR0.size) (fun v108 w108 hO108 hg hiff108 hob108 => ?_)
          obtain ⟨g108, c108, rfl⟩ := own_form hO108
          have hav108 : (Value.slice (some ⟨g108, 0, none⟩) ((pL k).length + 1) c108).ownBlock = (Value.slice aP (pL k).length cP).ownBlock ∨ ∀ j, some j = (Value.slice (some ⟨g108, 0, none⟩) ((pL k).length + 1) c108).ownBlock → wD99.heap.size ≤ j :=
            hob108.imp id (fun h j e => by have e2 := Option.some.inj (e.trans h); have h9 := hR0.size; omega)
          have bx12 := bx12.carryR hg (fun e => by have := hloP _ e; omega)
          have hO103 := Own.carryR hO103 hg (fun j hj hj' => own_ne hO103 r2 rfl hj hj')
          try have hB0 := hB0.intoR hg (fun k e => .inr e)
          have hR0 := hR0.intoR hg (fun k e => .inr (.inr e))
          refine L.nil ?_
          refine thn_n ?_
          refine LAD.step (rs := [11]) hR0 (fun _ => hB0) (by kernel_rfl) (by simp) ⟨⟨_, rfl, ?_⟩, trivial⟩
          refine L.set (v := .slice _ _ _) knamb_sz22 rfl rfl rfl bx12 rfl (fun wl114 bx12 hw hzl114 => ?_)
          have hR0 := hR0.into hw (by first | exact .inl rfl | exact .inr rfl); have hO103 := Own.carryR hO103 hw (fun j hj e => by have e : j = _ := e; have h1 := (Own.lt hO103 hj).1; omega); have hO108 := Own.carryR hO108 hw (fun j hj e => by have e : j = _ := e; have h1 := (Own.lt hO108 hj).1; omega)
          refine L.nil ?_
          refine thn_n ?_
          refine LAD.take0 (i := 12) rfl (by kernel_rfl) (by kernel_rfl) (by kernel_rfl) (by kernel_rfl) (fun w hw => x_fa knamb_fo25_4 rfl) rfl ?_
          refine LAD.step' (rs := [13]) hR0 (by kernel_rfl) (by kernel_rfl) (by simp) ⟨⟨_, rfl, ?_⟩, trivial⟩
          refine L.set (v := .slice _ _ _) knamb_sz23 rfl rfl rfl bx12 rfl (fun wl116 bx12 hw hzl116 => ?_)
          have hR0 := hR0.into hw (by first | exact .inl rfl | exact .inr rfl); have hO103 := Own.carryR hO103 hw (fun j hj e => by have e : j = _ := e; have h1 := (Own.lt hO103 hj).1; omega); have hO108 := Own.carryR hO108 hw (fun j hj e => by have e : j = _ := e; have h1 := (Own.lt hO108 hj).1; omega)
          refine L.nil ?_
          refine thn_n ?_
          refine LAD.done (by kernel_rfl) (by kernel_rfl) hR0 ?_
          have hB := hB.step hR0 (fun i hi e => by rcases e with e | e | e; (have e : (_ : Nat) = _ := e; omega); (have h8 := hloN _ e; have h9 := hqN _ e; omega); (have h8 := hloP _ e; have h9 := hqP _ e; omega))
          have hra := hra.carryR hR0 (fun k e => hM k (by rcases e with e | e | e; (have e : (_ : Nat) = _ := e; omega); (have h8 := hloN _ e; have h9 := hqN _ e; omega); (have h8 := hloP _ e; have h9 := hqP _ e; omega)))
          have hrb := hrb.carryR hR0 (fun k e => hM k (by rcases e with e | e | e; (have e : (_ : Nat) = _ := e; omega); (have h8 := hloN _ e; have h9 := hqN _ e; omega); (have h8 := hloP _ e; have h9 := hqP _ e; omega)))
          have bx4 := bx4.carryR hR0 (fun e => by rcases e with e | e | e; (have e : (_ : Nat) = _ := e; omega); (have h8 := hloN _ e; have h9 := hqN _ e; omega); (have h8 := hloP _ e; have h9 := hqP _ e; omega))
          have bx5 := bx5.carryR hR0 (fun e => by rcases e with e | e | e; (have e : (_ : Nat) = _ := e; omega); (have h8 := hloN _ e; have h9 := hqN _ e; omega); (have h8 := hloP _ e; have h9 := hqP _ e; omega))
          have bx8 := bx8.carryR hR0 (fun e => by rcases e with e | e | e; (have e : (_ : Nat) = _ := e; omega); (have h8 := hloN _ e; have h9 := hqN _ e; omega); (have h8 := hloP _ e; have h9 := hqP _ e; omega))
          have mp10 := mp10.carryR hR0 (fun e => by rcases e with e | e | e; (have e : (_ : Nat) = _ := e; omega); (have h8 := hloN _ e; omega); (have h8 := hloP _ e; omega))
          have mp11 := mp11.carryR hR0 (fun e => by rcases e with e | e | e; (have e : (_ : Nat) = _ := e; omega); (have h8 := hloN _ e; omega); (have h8 := hloP _ e; omega))
          have bx20 := bx20.carryR hR0 (fun e => by rcases e with e | e | e; (have e : (_ : Nat) = _ := e; omega); (have h8 := hloN _ e; have h9 := hqN _ e; omega); (have h8 := hloP _ e; have h9 := hqP _ e; omega))
          have hU := hU.carryR hR0 (fun j e => by rcases e with e | e | e; exact .inl (by omega); exact .inr (hloN _ e); exact .inr (hloP _ e))
          have hG := hG.carryR hR0
          have hGq := hGq.carryR hR0
          have hpc := hpc.carryR hR0 (fun k e => by rcases e with e | e | e; exact .inr (.inl (by omega)); exact .inr (.inr (.inl e)); exact .inr (.inr (.inr (.inl e))))
          refine blk_n ?_
          refine thn_n ?_
          first
            | exact ⟨rfl, _, _, rfl, rfl, rfl, rfl, rfl, rfl, rfl, rfl, rfl, rfl, rfl, hk1, hnf1, hB, hra, hrb, bx4, bx5, bx8, mp10, mp11, bx12, hU, hG, hN1, hP1⟩
            | exact ⟨rfl, _, _, rfl, rfl, rfl, rfl, rfl, rfl, rfl, rfl, rfl, rfl, rfl, hk1, hnf1, hB, hra, hrb, bx4, bx5, bx8, mp10, mp11, bx12, hU, hG, (by
                rw [hpp.1, ← hxd, List.map_append, List.length_append]
                exact hO103), (by
                rw [hpp.2]
                have hsz9 := hBD.size
                exact ShsOwn.snocW r1 r3 r4 (hpc.mono (fun j _ h => avc_step (Nat.le_trans hsz9 hR0.size) (hav103.imp id (fun h k e => Nat.le_trans hsz9 (h k e))) (hav108.imp id (fun h k e => Nat.le_trans hsz9 (h k e))) h)) hO108 ((hBD.mono (fun _ _ f => f.elim)).trans hR0) (fun j e => by
                    rcases e with e | e | e
                    · exact .inr (.inl (by omega))
                    · exact .inr (.inr (.inl e))
                    · exact .inr (.inr (.inr (.inl e)))) (fun j h => avc_step (by have h9 : nq ≤ wD99.heap.size := hqD; have := hR0.size; omega) (hav103.imp id (fun h k e => by have := h k e; omega)) (hav108.imp id (fun h k e => by have := h k e; omega)) h))⟩
         ·have hs107 := hR0.size
          refine L.bs (sz := 5) (cells := pc) Tryz.underlying23 knamb_el25 rfl (by show (partsOk 5 0 [(0, Value.agg pc.toArray)] && decide ([((0 : Nat), Value.agg pc.toArray)].length = 1) && decide (0 < 1) && decide (1 * 5 ≤ 16777216)) = true; simp [partsOk, hpc.len, Value.cells]) (by show ([((0 : Nat), Value.agg pc.toArray)].map fun x => x.2.cells.toList).flatten = pc; simp [Value.cells]) rfl (fun w107 bx107 hw hz107 => ?_)
          have hB0 := hB0.carry hw; have hR0 := hR0.carry hw; have bx12 := bx12.carry hw; have hN := hN.carry hw; have r2 := r2.carry hw; have bx102 := bx102.carry hw
          refine L.nil ?_
          refine thn_n ?_
          refine LAD.step (rs := [4]) hR0 (fun _ => hB0) (by kernel_rfl) (by simp) ⟨⟨_, rfl, ?_⟩, trivial⟩
          refine L.append (m := 1) Tryz.underlying22 knamb_el9 rfl rfl rfl hN rfl bx102.news (by simp [Value.oneCell', S]) (by omega) (Nat.le_trans hGD hR0.size) (fun v103 w103 hO103 hg hiff103 hob103 => ?_)
          obtain ⟨g103, c103, rfl⟩ := own_form hO103
          have hav103 : (Value.slice (some ⟨g103, 0, none⟩) ((nL k).length + 1) c103).ownBlock = (Value.slice aN (nL k).length cN).ownBlock ∨ ∀ j, some j = (Value.slice (some ⟨g103, 0, none⟩) ((nL k).length + 1) c103).ownBlock → wD99.heap.size ≤ j :=
            hob103.imp id (fun h j e => by have e2 := Option.some.inj (e.trans h); have h9 := hR0.size; omega)
          have bx12 := bx12.carryR hg (fun e => by have := hloN _ e; omega)
          try have bx107 := bx107.carryR hg (fun e => by have := hqN _ e; omega)
          have r2 := Own.carryR r2 hg (fun j hj hj' => own_ne r2 hN rfl hj hj')
          have hB0 := hB0.intoR hg (fun k e => .inl e)
          have hR0 := hR0.intoR hg (fun k e => .inr (.inl e))
          refine L.nil ?_
          refine thn_n ?_
          refine LAD.take0 (i := 10) rfl (by kernel_rfl) (by kernel_rfl) (by kernel_rfl) (by kernel_rfl) (fun w hw => x_fa knamb_fo25_3 rfl) rfl ?_
          refine LAD.step (rs := [9]) hR0 (fun _ => hB0) (by kernel_rfl) (by simp) ⟨⟨_, rfl, ?_⟩, trivial⟩
          refine L.append (m := 1) Tryz.underlying23 knamb_el25 rfl rfl rfl r2 hpc.len bx107.news (ShC.one hpc) (by omega) (Nat.le_trans hGD hR0.size) (fun v108 w108 hO108 hg hiff108 hob108 => ?_)
          obtain ⟨g108, c108, rfl⟩ := own_form hO108
          have hav108 : (Value.slice (some ⟨g108, 0, none⟩) ((pL k).length + 1) c108).ownBlock = (Value.slice aP (pL k).length cP).ownBlock ∨ ∀ j, some j = (Value.slice (some ⟨g108, 0, none⟩) ((pL k).length + 1) c108).ownBlock → wD99.heap.size ≤ j :=
            hob108.imp id (fun h j e => by have e2 := Option.some.inj (e.trans h); have h9 := hR0.size; omega)
          have bx12 := bx12.carryR hg (fun e => by have := hloP _ e; omega)
          have hO103 := Own.carryR hO103 hg (fun j hj hj' => own_ne hO103 r2 rfl hj hj')
          try have hB0 := hB0.intoR hg (fun k e => .inr e)
          have hR0 := hR0.intoR hg (fun k e => .inr (.inr e))
          refine L.nil ?_
          refine thn_n ?_
          refine LAD.step (rs := [11]) hR0 (fun _ => hB0) (by kernel_rfl) (by simp) ⟨⟨_, rfl, ?_⟩, trivial⟩
          refine L.set (v := .slice _ _ _) knamb_sz22 rfl rfl rfl bx12 rfl (fun wl114 bx12 hw hzl114 => ?_)
          have hR0 := hR0.into hw (by first | exact .inl rfl | exact .inr rfl); have hO103 := Own.carryR hO103 hw (fun j hj e => by have e : j = _ := e; have h1 := (Own.lt hO103 hj).1; omega); have hO108 := Own.carryR hO108 hw (fun j hj e => by have e : j = _ := e; have h1 := (Own.lt hO108 hj).1; omega)
          refine L.nil ?_
          refine thn_n ?_
          refine LAD.take0 (i := 12) rfl (by kernel_rfl) (by kernel_rfl) (by kernel_rfl) (by kernel_rfl) (fun w hw => x_fa knamb_fo25_4 rfl) rfl ?_
          refine LAD.step' (rs := [13]) hR0 (by kernel_rfl) (by kernel_rfl) (by simp) ⟨⟨_, rfl, ?_⟩, trivial⟩
          refine L.set (v := .slice _ _ _) knamb_sz23 rfl rfl rfl bx12 rfl (fun wl116 bx12 hw hzl116 => ?_)
          have hR0 := hR0.into hw (by first | exact .inl rfl | exact .inr rfl); have hO103 := Own.carryR hO103 hw (fun j hj e => by have e : j = _ := e; have h1 := (Own.lt hO103 hj).1; omega); have hO108 := Own.carryR hO108 hw (fun j hj e => by have e : j = _ := e; have h1 := (Own.lt hO108 hj).1; omega)
          refine L.nil ?_
          refine thn_n ?_
          refine LAD.done (by kernel_rfl) (by kernel_rfl) hR0 ?_
          have hB := hB.step hR0 (fun i hi e => by rcases e with e | e | e; (have e : (_ : Nat) = _ := e; omega); (have h8 := hloN _ e; have h9 := hqN _ e; omega); (have h8 := hloP _ e; have h9 := hqP _ e; omega))
          have hra := hra.carryR hR0 (fun k e => hM k (by rcases e with e | e | e; (have e : (_ : Nat) = _ := e; omega); (have h8 := hloN _ e; have h9 := hqN _ e; omega); (have h8 := hloP _ e; have h9 := hqP _ e; omega)))
          have hrb := hrb.carryR hR0 (fun k e => hM k (by rcases e with e | e | e; (have e : (_ : Nat) = _ := e; omega); (have h8 := hloN _ e; have h9 := hqN _ e; omega); (have h8 := hloP _ e; have h9 := hqP _ e; omega)))
          have bx4 := bx4.carryR hR0 (fun e => by rcases e with e | e | e; (have e : (_ : Nat) = _ := e; omega); (have h8 := hloN _ e; have h9 := hqN _ e; omega); (have h8 := hloP _ e; have h9 := hqP _ e; omega))
          have bx5 := bx5.carryR hR0 (fun e => by rcases e with e | e | e; (have e : (_ : Nat) = _ := e; omega); (have h8 := hloN _ e; have h9 := hqN _ e; omega); (have h8 := hloP _ e; have h9 := hqP _ e; omega))
          have bx8 := bx8.carryR hR0 (fun e => by rcases e with e | e | e; (have e : (_ : Nat) = _ := e; omega); (have h8 := hloN _ e; have h9 := hqN _ e; omega); (have h8 := hloP _ e; have h9 := hqP _ e; omega))
          have mp10 := mp10.carryR hR0 (fun e => by rcases e with e | e | e; (have e : (_ : Nat) = _ := e; omega); (have h8 := hloN _ e; omega); (have h8 := hloP _ e; omega))
          have mp11 := mp11.carryR hR0 (fun e => by rcases e with e | e | e; (have e : (_ : Nat) = _ := e; omega); (have h8 := hloN _ e; omega); (have h8 := hloP _ e; omega))
          have bx20 := bx20.carryR hR0 (fun e => by rcases e with e | e | e; (have e : (_ : Nat) = _ := e; omega); (have h8 := hloN _ e; have h9 := hqN _ e; omega); (have h8 := hloP _ e; have h9 := hqP _ e; omega))
          have hU := hU.carryR hR0 (fun j e => by rcases e with e | e | e; exact .inl (by omega); exact .inr (hloN _ e); exact .inr (hloP _ e))
          have hG := hG.carryR hR0
          have hGq := hGq.carryR hR0
          have hpc := hpc.carryR hR0 (fun k e => by rcases e with e | e | e; exact .inr (.inl (by omega)); exact .inr (.inr (.inl e)); exact .inr (.inr (.inr (.inl e))))
          refine blk_n ?_
          refine thn_n ?_
          first
            | exact ⟨rfl, _, _, rfl, rfl, rfl, rfl, rfl, rfl, rfl, rfl, rfl, rfl, rfl, hk1, hnf1, hB, hra, hrb, bx4, bx5, bx8, mp10, mp11, bx12, hU, hG, hN1, hP1⟩
            | exact ⟨rfl, _, _, rfl, rfl, rfl, rfl, rfl, rfl, rfl, rfl, rfl, rfl, rfl, hk1, hnf1, hB, hra, hrb, bx4, bx5, bx8, mp10, mp11, bx12, hU, hG, (by
                rw [hpp.1, ← hxd, List.map_append, List.length_append]
                exact hO103), (by
                rw [hpp.2]
                have hsz9 := hBD.size
                exact ShsOwn.snocW r1 r3 r4 (hpc.mono (fun j _ h => avc_step (Nat.le_trans hsz9 hR0.size) (hav103.imp id (fun h k e => Nat.le_trans hsz9 (h k e))) (hav108.imp id (fun h k e => Nat.le_trans hsz9 (h k e))) h)) hO108 ((hBD.mono (fun _ _ f => f.elim)).trans hR0) (fun j e => by
                    rcases e with e | e | e
                    · exact .inr (.inl (by omega))
                    · exact .inr (.inr (.inl e))
                    · exact .inr (.inr (.inr (.inl e)))) (fun j h => avc_step (by have h9 : nq ≤ wD99.heap.size := hqD; have := hR0.size; omega) (hav103.imp id (fun h k e => by have := h k e; omega)) (hav108.imp id (fun h k e => by have := h k e; omega)) h))⟩
        ·have hs107 := hR0.size
         refine L.bs (sz := 5) (cells := pc) Tryz.underlying23 knamb_el25 rfl (by show (partsOk 5 0 [(0, Value.agg pc.toArray)] && decide ([((0 : Nat), Value.agg pc.toArray)].length = 1) && decide (0 < 1) && decide (1 * 5 ≤ 16777216)) = true; simp [partsOk, hpc.len, Value.cells]) (by show ([((0 : Nat), Value.agg pc.toArray)].map fun x => x.2.cells.toList).flatten = pc; simp [Value.cells]) rfl (fun w107 bx107 hw hz107 => ?_)
         have hB0 := hB0.carry hw; have hR0 := hR0.carry hw; have bx12 := bx12.carry hw; have hN := hN.carry hw; have r2 := r2.carry hw
         refine L.nil ?_
         refine thn_n ?_
         refine LAD.step (rs := [3]) hR0 (fun _ => hB0) (by kernel_rfl) (by simp) ⟨⟨_, rfl, ?_⟩, trivial⟩
         have hs102 := hR0.size
         refine L.bs (sz := 1) (cells := [S x]) Tryz.underlying22 knamb_el9 rfl rfl rfl rfl (fun w102 bx102 hw hz102 => ?_)
         have hB0 := hB0.carry hw; have hR0 := hR0.carry hw; have bx12 := bx12.carry hw; have hN := hN.carry hw; have r2 := r2.carry hw; have bx107 := bx107.carry hw
         refine L.nil ?_
         refine thn_n ?_
         refine LAD.step (rs := [4]) hR0 (fun _ => hB0) (by kernel_rfl) (by simp) ⟨⟨_, rfl, ?_⟩, trivial⟩
         refine L.append (m := 1) Tryz.underlying22 knamb_el9 rfl rfl rfl hN rfl bx102.news (by simp [Value.oneCell', S]) (by omega) (Nat.le_trans hGD hR0.size) (fun v103 w103 hO103 hg hiff103 hob103 => ?_)
         obtain ⟨g103, c103, rfl⟩ := own_form hO103
         have hav103 : (Value.slice (some ⟨g103, 0, none⟩) ((nL k).length + 1) c103).ownBlock = (Value.slice aN (nL k).length cN).ownBlock ∨ ∀ j, some j = (Value.slice (some ⟨g103, 0, none⟩) ((nL k).length + 1) c103).ownBlock → wD99.heap.size ≤ j :=
           hob103.imp id (fun h j e => by have e2 := Option.some.inj (e.trans h); have h9 := hR0.size; omega)
         have bx12 := bx12.carryR hg (fun e => by have := hloN _ e; omega)
         try have bx107 := bx107.carryR hg (fun e => by have := hqN _ e; omega)
         have r2 := Own.carryR r2 hg (fun j hj hj' => own_ne r2 hN rfl hj hj')
         have hB0 := hB0.intoR hg (fun k e => .inl e)
         have hR0 := hR0.intoR hg (fun k e => .inr (.inl e))
         refine L.nil ?_
         refine thn_n ?_
         refine LAD.take0 (i := 10) rfl (by kernel_rfl) (by kernel_rfl) (by kernel_rfl) (by kernel_rfl) (fun w hw => x_fa knamb_fo25_3 rfl) rfl ?_
         refine LAD.step (rs := [9]) hR0 (fun _ => hB0) (by kernel_rfl) (by simp) ⟨⟨_, rfl, ?_⟩, trivial⟩
         refine L.append (m := 1) Tryz.underlying23 knamb_el25 rfl rfl rfl r2 hpc.len bx107.news (ShC.one hpc) (by omega) (Nat.le_trans hGD hR0.size) (fun v108 w108 hO108 hg hiff108 hob108 => ?_)
         obtain ⟨g108, c108, rfl⟩ := own_form hO108
         have hav108 : (Value.slice (some ⟨g108, 0, none⟩) ((pL k).length + 1) c108).ownBlock = (Value.slice aP (pL k).length cP).ownBlock ∨ ∀ j, some j = (Value.slice (some ⟨g108, 0, none⟩) ((pL k).length + 1) c108).ownBlock → wD99.heap.size ≤ j :=
           hob108.imp id (fun h j e => by have e2 := Option.some.inj (e.trans h); have h9 := hR0.size; omega)
         have bx12 := bx12.carryR hg (fun e => by have := hloP _ e; omega)
         have hO103 := Own.carryR hO103 hg (fun j hj hj' => own_ne hO103 r2 rfl hj hj')
         try have hB0 := hB0.intoR hg (fun k e => .inr e)
         have hR0 := hR0.intoR hg (fun k e => .inr (.inr e))
         refine L.nil ?_
         refine thn_n ?_
         refine LAD.step (rs := [11]) hR0 (fun _ => hB0) (by kernel_rfl) (by simp) ⟨⟨_, rfl, ?_⟩, trivial⟩
         refine L.set (v := .slice _ _ _) knamb_sz22 rfl rfl rfl bx12 rfl (fun wl114 bx12 hw hzl114 => ?_)
         have hR0 := hR0.into hw (by first | exact .inl rfl | exact .inr rfl); have hO103 := Own.carryR hO103 hw (fun j hj e => by have e : j = _ := e; have h1 := (Own.lt hO103 hj).1; omega); have hO108 := Own.carryR hO108 hw (fun j hj e => by have e : j = _ := e; have h1 := (Own.lt hO108 hj).1; omega)
         refine L.nil ?_
         refine thn_n ?_
         refine LAD.take0 (i := 12) rfl (by kernel_rfl) (by kernel_rfl) (by kernel_rfl) (by kernel_rfl) (fun w hw => x_fa knamb_fo25_4 rfl) rfl ?_
         refine LAD.step' (rs := [13]) hR0 (by kernel_rfl) (by kernel_rfl) (by simp) ⟨⟨_, rfl, ?_⟩, trivial⟩
         refine L.set (v := .slice _ _ _) knamb_sz23 rfl rfl rfl bx12 rfl (fun wl116 bx12 hw hzl116 => ?_)
         have hR0 := hR0.into hw (by first | exact .inl rfl | exact .inr rfl); have hO103 := Own.carryR hO103 hw (fun j hj e => by have e : j = _ := e; have h1 := (Own.lt hO103 hj).1; omega); have hO108 := Own.carryR hO108 hw (fun j hj e => by have e : j = _ := e; have h1 := (Own.lt hO108 hj).1; omega)
         refine L.nil ?_
         refine thn_n ?_
         refine LAD.done (by kernel_rfl) (by kernel_rfl) hR0 ?_
         have hB := hB.step hR0 (fun i hi e => by rcases e with e | e | e; (have e : (_ : Nat) = _ := e; omega); (have h8 := hloN _ e; have h9 := hqN _ e; omega); (have h8 := hloP _ e; have h9 := hqP _ e; omega))
         have hra := hra.carryR hR0 (fun k e => hM k (by rcases e with e | e | e; (have e : (_ : Nat) = _ := e; omega); (have h8 := hloN _ e; have h9 := hqN _ e; omega); (have h8 := hloP _ e; have h9 := hqP _ e; omega)))
         have hrb := hrb.carryR hR0 (fun k e => hM k (by rcases e with e | e | e; (have e : (_ : Nat) = _ := e; omega); (have h8 := hloN _ e; have h9 := hqN _ e; omega); (have h8 := hloP _ e; have h9 := hqP _ e; omega)))
         have bx4 := bx4.carryR hR0 (fun e => by rcases e with e | e | e; (have e : (_ : Nat) = _ := e; omega); (have h8 := hloN _ e; have h9 := hqN _ e; omega); (have h8 := hloP _ e; have h9 := hqP _ e; omega))
         have bx5 := bx5.carryR hR0 (fun e => by rcases e with e | e | e; (have e : (_ : Nat) = _ := e; omega); (have h8 := hloN _ e; have h9 := hqN _ e; omega); (have h8 := hloP _ e; have h9 := hqP _ e; omega))
         have bx8 := bx8.carryR hR0 (fun e => by rcases e with e | e | e; (have e : (_ : Nat) = _ := e; omega); (have h8 := hloN _ e; have h9 := hqN _ e; omega); (have h8 := hloP _ e; have h9 := hqP _ e; omega))
         have mp10 := mp10.carryR hR0 (fun e => by rcases e with e | e | e; (have e : (_ : Nat) = _ := e; omega); (have h8 := hloN _ e; omega); (have h8 := hloP _ e; omega))
         have mp11 := mp11.carryR hR0 (fun e => by rcases e with e | e | e; (have e : (_ : Nat) = _ := e; omega); (have h8 := hloN _ e; omega); (have h8 := hloP _ e; omega))
         have bx20 := bx20.carryR hR0 (fun e => by rcases e with e | e | e; (have e : (_ : Nat) = _ := e; omega); (have h8 := hloN _ e; have h9 := hqN _ e; omega); (have h8 := hloP _ e; have h9 := hqP _ e; omega))
         have hU := hU.carryR hR0 (fun j e => by rcases e with e | e | e; exact .inl (by omega); exact .inr (hloN _ e); exact .inr (hloP _ e))
         have hG := hG.carryR hR0
         have hGq := hGq.carryR hR0
         have hpc := hpc.carryR hR0 (fun k e => by rcases e with e | e | e; exact .inr (.inl (by omega)); exact .inr (.inr (.inl e)); exact .inr (.inr (.inr (.inl e))))
         refine blk_n ?_
         refine thn_n ?_
         first
           | exact ⟨rfl, _, _, rfl, rfl, rfl, rfl, rfl, rfl, rfl, rfl, rfl, rfl, rfl, hk1, hnf1, hB, hra, hrb, bx4, bx5, bx8, mp10, mp11, bx12, hU, hG, hN1, hP1⟩
           | exact ⟨rfl, _, _, rfl, rfl, rfl, rfl, rfl, rfl, rfl, rfl, rfl, rfl, rfl, hk1, hnf1, hB, hra, hrb, bx4, bx5, bx8, mp10, mp11, bx12, hU, hG, (by
               rw [hpp.1, ← hxd, List.map_append, List.length_append]
               exact hO103), (by
               rw [hpp.2]
               have hsz9 := hBD.size
               exact ShsOwn.snocW r1 r3 r4 (hpc.mono (fun j _ h => avc_step (Nat.le_trans hsz9 hR0.size) (hav103.imp id (fun h k e => Nat.le_trans hsz9 (h k e))) (hav108.imp id (fun h k e => Nat.le_trans hsz9 (h k e))) h)) hO108 ((hBD.mono (fun _ _ f => f.elim)).trans hR0) (fun j e => by
                   rcases e with e | e | e
                   · exact .inr (.inl (by omega))
                   · exact .inr (.inr (.inl e))
                   · exact .inr (.inr (.inr (.inl e)))) (fun j h => avc_step (by have h9 : nq ≤ wD99.heap.size := hqD; have := hR0.size; omega) (hav103.imp id (fun h k e => by have := h k e; omega)) (hav108.imp id (fun h k e => by have := h k e; omega)) h))⟩
       ·have h21 := g21
        have hpp := hnLn k hlt (by rw [← hxd]; exact hpn2 h21)
        have hN1 : Own w98 base 9 1 (.slice aN (nL k).length cN) (nL (k + 1)).length ((nL (k + 1)).map S) := by rw [hpp.1]; exact hN
        have hP1 : ShsOwn (AvC M w.heap.size base w98 (.slice aN (nL k).length cN) (.slice aP (pL k).length cP)) w98 base 25 (.slice aP (pL k).length cP) (pL (k + 1)) := by
          rw [hpp.2]
          exact hP.carryA (Gr.refl (fun _ => False) w98) (fun _ _ f => f) (fun _ f => f.elim) (fun j h => avc_mono (by omega) h)
        refine W.skip ?_
        refine blk_n ?_
        refine thn_n ?_
        first
          | exact ⟨rfl, _, _, rfl, rfl, rfl, rfl, rfl, rfl, rfl, rfl, rfl, rfl, rfl, hk1, hnf1, hB, hra, hrb, bx4, bx5, bx8, mp10, mp11, bx12, hU, hG, hN1, hP1⟩
          | exact ⟨rfl, _, _, rfl, rfl, rfl, rfl, rfl, rfl, rfl, rfl, rfl, rfl, rfl, hk1, hnf1, hB, hra, hrb, bx4, bx5, bx8, mp10, mp11, bx12, hU, hG, (by
              rw [hpp.1, ← hxd, List.map_append, List.length_append]
              exact hO103), (by
              rw [hpp.2]
              have hsz9 := hBD.size
              exact ShsOwn.snocW r1 r3 r4 (hpc.mono (fun j _ h => avc_step (Nat.le_trans hsz9 hR0.size) (hav103.imp id (fun h k e => Nat.le_trans hsz9 (h k e))) (hav108.imp id (fun h k e => Nat.le_trans hsz9 (h k e))) h)) hO108 ((hBD.mono (fun _ _ f => f.elim)).trans hR0) (fun j e => by
                  rcases e with e | e | e
                  · exact .inr (.inl (by omega))
                  · exact .inr (.inr (.inl e))
                  · exact .inr (.inr (.inr (.inl e)))) (fun j h => avc_step (by have h9 : nq ≤ wD99.heap.size := hqD; have := hR0.size; omega) (hav103.imp id (fun h k e => by have := h k e; omega)) (hav108.imp id (fun h k e => by have := h k e; omega)) h))⟩
     ·rintro D E w111 ⟨rfl, vN, vP, e2, e3, e4, e5, e8, e10, e11, e12, e36, e37, e38, hk1, hnf1, hB, hra, hrb, bx4, bx5, bx8, mp10, mp11, bx12, hU, hG, hN, hP⟩
      rw [upd_self e2, upd_self e3, upd_self e4, upd_self e5, upd_self e8, upd_self e10, upd_self e11, upd_self e12, upd_self e36, upd_self e37, upd_self e38]
      refine W.region ?_
      refine L.val (x_add rfl rfl (wr64 (by omega))) rfl ?_
      refine L.val (x_mv (v := .int _ _) rfl) rfl ?_
      refine L.nil ?_
      refine thn_n ⟨rfl, ?_⟩
      refine ⟨_, ?_, k + 1, vN, vP, rfl, by first | rfl | exact vi (by omega), by first | rfl | exact vi (by omega), by first | rfl | exact vi (by omega), by first | rfl | exact vi (by omega), by first | rfl | exact vi (by omega), by first | rfl | exact vi (by omega), by first | rfl | exact vi (by omega), by first | rfl | exact vi (by omega), by first | rfl | exact vi (by omega), by first | rfl | exact vi (by omega), by first | rfl | exact vi (by omega), (by first | assumption | omega | rfl), (by first | assumption | omega | rfl), (by first | assumption | omega | rfl), (by first | assumption | omega | rfl), (by first | assumption | omega | rfl), (by first | assumption | omega | rfl), (by first | assumption | omega | rfl), (by first | assumption | omega | rfl), (by first | assumption | omega | rfl), (by first | assumption | omega | rfl), (by first | assumption | omega | rfl), (by first | assumption | omega | rfl), (by first | assumption | omega | rfl), (by first | assumption | omega | rfl), (by first | assumption | omega | rfl)⟩
      omega
    ·have h39 := dlt_f g39
     refine W.exit (thn_x (thn_x (blk_hit ?_)))
     refine thn_n ?_
     refine W.seq ?_
     refine W.region ?_
     obtain ⟨xsP, hPo⟩ := hP.own
     refine L.val (x_ldn (vs := _) knamb_ag25 rfl rfl (bx12.row rfl)) rfl ?_
     refine L.setRow knamb_ag25 rfl rfl bx8 rfl rfl (by intro v hv; simp only [List.mem_cons, List.not_mem_nil, or_false] at hv; rcases hv with rfl | rfl | rfl | rfl | rfl <;> first | rfl | exact own_one hN | exact own_one hPo) (fun wl120 bx8 hw hzl120 => ?_)
     have hsz := hB.size
     have hB := hB.set hw (by omega); have bx12 := bx12.carryR hw (by omega); have hG := hG.carryR hw
     have hN := Own.carryR hN hw (fun j hj e => by have e : j = _ := e; have h1 := (Own.lt hN hj).1; omega)
     have hP := hP.carryA (A' := AvC M w.heap.size base wL39 vN vP) hw (fun j hj e => by have e : j = _ := e; have h1 := (hP.lt hj).1; omega) (fun j e => by have e : j = _ := e; exact .inr (.inl (by omega))) (fun _ h => h)
     have hPsz : wL39.heap.size = wl120.heap.size := hzl120.symm
     refine L.val (x_as (v := .bool _) rfl) rfl ?_
     refine L.nil ?_
     refine thn_n ?_
     refine W.ret (finR_mk (.inr rfl) ?_)
     have hkk : k = U.length := by omega
     have he : nmdB uniU F up all a b = some (.mk a.kind [] [] (nL k) (pL k)) := by
       unfold nmdB
       rw [if_neg]
       · rw [hnL, hpL]
         have e : selT F up all a b U k = selB uniU F up all a b := by unfold selT selB; rw [hkk, List.take_length, hU0]
         simp only [e]
       · rintro ⟨h1, h2⟩
         have := hnf h1
         rw [hkk, List.take_length, hU0, h2] at this; cases this
     have hNl := (hnLl k).1
     have hPl := (hnLl k).2
     refine ⟨_, resST (v := .bool true) rfl knamb_ag25 rfl rfl bx8 rfl, ⟨_, _, by rw [he]; rfl, ?_, fun r e => by rw [he] at e; exact Option.some.inj e⟩, hB⟩
     exact ShC.intro (k := a.kind) (of := []) (nm := []) (strs_done hN (by omega) (hnLsh k) (fun j h h2 => by omega)) (hP.done (by omega) (fun j h => .inl ⟨h.1, hRes j h⟩) (fun j h => by omega)) (by simp) (by simp)
end Go.Gx
