/- Whether two types go together: the document's rules give what the program's give. Conditions: none. -/
import Derived.Test.YteehllhldaopjaaGreatBtGrad4
import Derived.Test.YteehllhldaopjaaGreatBtGrad6
namespace Go.Gx
def nrA (F : Sh → Sh → Bool) (a b : Sh) (i : Nat) : Bool := if idxS (b.names.getD i []) a.names < a.names.length then F (a.parts.getD (idxS (b.names.getD i []) a.names) default) (b.parts.getD i default) else false
def nrV (F : Sh → Sh → Bool) (a b : Sh) (i : Nat) : Bool := if idxS (a.names.getD i []) b.names < b.names.length then F (a.parts.getD i default) (b.parts.getD (idxS (a.names.getD i []) b.names) default) else false
def nrB (F : Sh → Sh → Bool) (a b : Sh) : Bool :=
  if a.kind = 4 ∨ b.kind = 4 then true
  else if a.kind ≠ b.kind ∨ a.of ≠ b.of ∨ a.name ≠ b.name then false
  else if a.kind = 6 then (List.range b.names.length).all (nrA F a b)
  else if a.kind = 7 then (List.range a.names.length).all (nrV F a b)
  else if a.kind = 8 then
    if a.parts.length ≠ b.parts.length then false
    else if F (a.parts.getD (a.parts.length - 1) default) (b.parts.getD (a.parts.length - 1) default) = false then false
    else (List.range (a.parts.length - 1)).all fun i => F (b.parts.getD i default) (a.parts.getD i default)
  else if a.kind = 5 then F (a.parts.getD 0 default) (b.parts.getD 0 default)
  else true
def nrN : Nat → Sh → Sh → Bool
  | 0 => fun _ _ => false
  | N + 1 => nrB (nrN N)
theorem all_iff {q : Nat → Bool} {n : Nat} : (List.range n).all q = true ↔ ∀ i, i < n → q i = true := by
  rw [List.all_eq_true]; simp
theorem restF_iff {a b : Sh} : restF a b = true ↔ ∀ i, i < b.names.length → idxS (b.names.getD i []) a.names < a.names.length := by
  unfold restF;rw [Bool.not_eq_true', List.any_eq_false];simp
theorem fits_iff {L : Bool} {F : Sh → Sh → Bool} {a b : Sh} (ha : a.kind ≠ 4) (hb : b.kind ≠ 4) : fitsB L F a b = true ↔
    a.kind = b.kind ∧ a.of = b.of ∧ a.name = b.name ∧ ((a.kind = 6 ∨ a.kind = 7) → (∀ i, i < a.names.length → recF L F a b i = true) ∧ (lacksS L b false = true ∨ restF a b = true)) ∧
    (¬ (a.kind = 6 ∨ a.kind = 7) → a.parts.length = b.parts.length ∧ ∀ i, i < a.parts.length → funF F a b i = true) := by
  rw [fitsB, if_neg om_];split
  · next h => constructor
              · intro h; cases h
              · rintro ⟨h1, h2, h3, -⟩; rcases h with h | h | h <;> contradiction
  · next h =>
    have e1 : a.kind = b.kind := Decidable.byContradiction fun e => h (.inl e)
    have e2 : a.of = b.of := Decidable.byContradiction fun e => h (.inr (.inl e))
    have e3 : a.name = b.name := Decidable.byContradiction fun e => h (.inr (.inr e))
    split
    · next h6 =>
      rw [Bool.and_eq_true, all_iff, Bool.or_eq_true];exact ⟨fun h => ⟨e1, e2, e3, fun _ => h, fun hn => absurd h6 hn⟩, fun h => h.2.2.2.1 h6⟩
    · next h6 =>
      split
      · next h7 => exact ⟨fun h => (by cases h), fun h => absurd (h.2.2.2.2 h6).1 h7⟩
      · next h7 =>
        rw [all_iff];exact ⟨fun h => ⟨e1, e2, e3, fun hn => absurd hn h6, fun _ => ⟨Decidable.byContradiction h7, h⟩⟩, fun h => (h.2.2.2.2 h6).2⟩
theorem fitsB4 {L : Bool} {F : Sh → Sh → Bool} {a b : Sh} (h : a.kind = 4 ∨ b.kind = 4) : fitsB L F a b = true := by rw [fitsB, if_pos h]
theorem rec_nodup {s : Sh} (h : fitsS s = true) (_hk : s.kind = 6 ∨ s.kind = 7) : s.names.Nodup := by
  by_cases hn : s.names = []
  · rw [hn]; exact List.nodup_nil
  · exact nodup_iff.1 ((fits_names h).resolve_left hn).2
theorem idx_turn {l m : List Str} {i : Nat} (hd : l.Nodup) (hi : i < l.length) (hm : idxS (l.getD i []) m < m.length) : idxS (m.getD (idxS (l.getD i []) m) []) l = i := by
  rw [idxS_get hm, idxS_nodup hd hi]
theorem part_fit {s : Sh} (h : s.allB fitsS = true) {i : Nat} (hi : i < s.parts.length) : (s.parts.getD i default).allB fitsS = true := by
  rw [Sh.allB_eq] at h; simp at h; exact allL_getD h.2 hi
theorem fits8 {s : Sh} (h : fitsS s = true) (hk : s.kind = 8) : 1 ≤ s.parts.length := by
  unfold fitsS at h;simp [hk] at h;omega
theorem fits5 {s : Sh} (h : fitsS s = true) (hk : s.kind = 5) : s.parts.length = 1 := by
  unfold fitsS at h;simp [hk] at h;omega
theorem fits0 {s : Sh} (h : fitsS s = true) (h6 : s.kind ≠ 6) (h7 : s.kind ≠ 7) (h8 : s.kind ≠ 8) (h5 : s.kind ≠ 5) : s.parts.length = 0 := by
  unfold fitsS at h;simp only [h6, h7, h8, h5, decide_false, Bool.or_self, Bool.false_eq_true, if_false] at h
  repeat' split at h
  all_goals first | (simp only [Bool.and_eq_true, decide_eq_true_eq] at h; omega) | cases h
theorem nr_eq : ∀ (N : Nat) (a b : Sh), a.allB fitsS = true → b.allB fitsS = true → nrN N a b = fitsN true N a b
  | 0, _, _, _, _ => rfl
  | N + 1, a, b, fa, fb => by
    show nrB (nrN N) a b = fitsB true (fitsN true N) a b;have ih := fun (i j : Nat) (hi : i < a.parts.length) (hj : j < b.parts.length) => nr_eq N _ _ (part_fit fa hi) (part_fit fb hj)
    have ih' := fun (i j : Nat) (hi : i < a.parts.length) (hj : j < b.parts.length) => nr_eq N _ _ (part_fit fb hj) (part_fit fa hi)
    unfold nrB;split
    · next h => rw [fitsB4 h]
    · next h4 =>
      rw [Bool.eq_iff_iff, fits_iff om_ om_];split
      · next h =>
        refine ⟨fun h => (by cases h), fun h2 => ?_⟩;obtain ⟨e1, e2, e3, -, -⟩ := h2;rcases h with h | h | h <;> contradiction
      · next h =>
        have e1 : a.kind = b.kind := Decidable.byContradiction fun e => h (.inl e)
        have e2 : a.of = b.of := Decidable.byContradiction fun e => h (.inr (.inl e))
        have e3 : a.name = b.name := Decidable.byContradiction fun e => h (.inr (.inr e))
        split
        · next hk =>
          have hkb : b.kind = 6 ∨ b.kind = 7 := by rw [← e1]; exact .inl hk
          have la := rec_len (allB_fit fa) (.inl hk);have lb := rec_len (allB_fit fb) hkb;have na := rec_nodup (allB_fit fa) (.inl hk);have nb := rec_nodup (allB_fit fb) hkb;rw [all_iff];constructor
          · intro hq;refine ⟨e1, e2, e3, fun _ => ⟨fun i hi => ?_, .inr ?_⟩, fun hn => absurd (.inl hk) hn⟩
            · unfold recF;split
              · next hx =>
                have := hq _ hx;unfold nrA at this;rw [idx_turn na hi hx, if_pos hi] at this
                rwa [ih i _ om_ om_] at this
              · simp [lacksS, hk]
            · rw [restF_iff]; intro j hj;have := hq j hj;unfold nrA at this;split at this
              · assumption
              · cases this
          · rintro ⟨-, -, -, h6, -⟩ j hj;obtain ⟨hr, ht⟩ := h6 (.inl hk);have ht := restF_iff.1 (ht.resolve_left (by simp [lacksS, ← e1, hk]));have hx := ht j hj;unfold nrA;rw [if_pos hx];have := hr _ hx;unfold recF at this;rw [idx_turn nb hj hx, if_pos hj] at this
            rwa [ih _ j om_ om_]
        · next hk6 =>
          split
          · next hk =>
            have hkb : b.kind = 6 ∨ b.kind = 7 := by rw [← e1]; exact .inr hk
            have la := rec_len (allB_fit fa) (.inr hk);have lb := rec_len (allB_fit fb) hkb;rw [all_iff];have hone : ∀ i, i < a.names.length → (nrV (nrN N) a b i = true ↔ recF true (fitsN true N) a b i = true) := fun i hi => by
              unfold nrV recF;split
              · rw [ih i _ om_ om_]
              · simp [lacksS, hk]
            constructor
            · intro hq;exact ⟨e1, e2, e3, fun _ => ⟨fun i hi => (hone i hi).1 (hq i hi), .inl (by simp [lacksS, ← e1, hk])⟩, fun hn => absurd (.inr hk) hn⟩
            · rintro ⟨-, -, -, h6, -⟩ i hi;exact (hone i hi).2 ((h6 (.inr hk)).1 i hi)
          · next hk7 =>
            have hn67 : ¬ (a.kind = 6 ∨ a.kind = 7) := by omega
            split
            · next hk =>
              have p1 := fits8 (allB_fit fa) hk;split
              · next hl => exact ⟨fun h => (by cases h), fun h => absurd (h.2.2.2.2 hn67).1 hl⟩
              · next hl =>
                have hl : a.parts.length = b.parts.length := Decidable.byContradiction hl;have hlast : funF (fitsN true N) a b (a.parts.length - 1) = nrN N (a.parts.getD (a.parts.length - 1) default) (b.parts.getD (a.parts.length - 1) default) := by
                  unfold funF; rw [if_neg om_, ih _ _ om_ om_]
                have hone : ∀ i, i < a.parts.length - 1 → funF (fitsN true N) a b i = nrN N (b.parts.getD i default) (a.parts.getD i default) := fun i hi => by
                  unfold funF; rw [if_pos om_, ih' i i om_ om_]
                split
                · next hf =>
                  refine ⟨fun h => (by cases h), fun h => ?_⟩;have := (h.2.2.2.2 hn67).2 (a.parts.length - 1) om_;rw [hlast, hf] at this; exact this
                · next hf =>
                  rw [all_iff];constructor
                  · intro hq;refine ⟨e1, e2, e3, fun hn => absurd hn hn67, fun _ => ⟨hl, fun i hi => ?_⟩⟩;by_cases he : i = a.parts.length - 1
                    · rw [he, hlast]; simpa using hf
                    · rw [hone i om_]; exact hq i om_
                  · rintro ⟨-, -, -, -, h8⟩ i hi;rw [← hone i hi]; exact (h8 hn67).2 i om_
            · next hk8 =>
              split
              · next hk =>
                have p1 := fits5 (allB_fit fa) hk;have p2 := fits5 (allB_fit fb) om_;have h0 : funF (fitsN true N) a b 0 = nrN N (a.parts.getD 0 default) (b.parts.getD 0 default) := by
                  unfold funF; rw [if_neg om_, ih 0 0 om_ om_]
                rw [← h0];constructor
                · intro hq;exact ⟨e1, e2, e3, fun hn => absurd hn hn67, fun _ => ⟨by omega, fun i hi => by rw [show i = 0 by omega]; exact hq⟩⟩
                · rintro ⟨-, -, -, -, h8⟩;exact (h8 hn67).2 0 om_
              · next hk5 =>
                have p1 := fits0 (allB_fit fa) hk6 hk7 hk8 hk5;have p2 := fits0 (allB_fit fb) om_ om_ om_ om_;exact ⟨fun _ => ⟨e1, e2, e3, fun hn => absurd hn hn67, fun _ => ⟨by omega, fun i hi => by omega⟩⟩, fun _ => rfl⟩
end Go.Gx
namespace Go.Gx
theorem zeroC (A : Nat → Prop) (w : World) : ShC A w [.int .i64 0, S [], S [], .slice none 0 0, .slice none 0 0] zeroS := ShC.intro (StrsAt.nil _ _ _ _ (by simp)) (ShsAt.nil _ _ _ _ (by simp)) (by simp) (by simp)
end Go.Gx
namespace Go.Gx
open Go.Proofs
theorem kref13_ag25 : aggT Tryz.prog 25 5 = true := by kernel_rfl
theorem kref13_fo25_3 : fieldOff Tryz.prog 25 3 = some 3 := by kernel_rfl
theorem kref13_fo25_4 : fieldOff Tryz.prog 25 4 = some 4 := by kernel_rfl
theorem kref13_oc22 : oneCellT Tryz.prog 22 = true := by kernel_rfl
theorem kref13_oc23 : oneCellT Tryz.prog 23 = true := by kernel_rfl
theorem kref13_oc9 : oneCellT Tryz.prog 9 = true := by kernel_rfl
theorem kref13_si25 : structInfo Tryz.prog 25 = some ([(0, 1), (1, 1), (2, 1), (3, 1), (4, 1)], [Value.int .i64 0, S [], S [], Value.slice none 0 0, Value.slice none 0 0]) := by kernel_rfl
theorem kref13_sz25 : (Tryz.prog.info? 25).map (·.size) = some 5 := by kernel_rfl
theorem kref13_sz9 : (Tryz.prog.info? 9).map (·.size) = some 1 := by kernel_rfl
theorem kref13_zr25 : (Tryz.prog.info? 25).bind (·.zero) = some (Value.agg [Value.int .i64 0, S [], S [], Value.slice none 0 0, Value.slice none 0 0].toArray) := by kernel_rfl
def partV (s : Sh) (x : Str) : Sh := if idxS x s.names < s.names.length then s.parts.getD (idxS x s.names) default else zeroS
theorem part13 (A : Nat → Prop) (s : Sh) (x : Str) (cs : List Value) (w : World) (hs : ShC A w cs s) (hfs : s.names = [] ∨ s.names.length = s.parts.length) :
    Ret Tryz.prog 110 #[.agg cs.toArray, S x] w fun v w' => ∃ cs', v = .tuple #[.agg cs'.toArray, .bool (decide (idxS x s.names < s.names.length))] ∧ ShC (fun k => A k ∨ w.heap.size ≤ k) w' cs' (partV s x) ∧ Bel w w' := by
  have hs := hs.up;obtain ⟨vn, vp, rfl, hn, hp, -⟩ := hs.inv;obtain ⟨p, cap, row, rfl, p1, p2, p3, hr⟩ := hp;obtain ⟨pn, capn, rfl, n1, n2, n3, hL, -⟩ := id hn;refine ret_of_W_R Tryz.func110 rfl (Nat.le_of_ble_eq_true rfl) ?_;have hB := Gr.refl (fun _ => False) w;refine W.seq (W.region (L.box (cs := _) rfl rfl (fun w2 bx2 hw hz2 => ?_)));have hB := hB.carry hw; have hn := hn.carry hw; have hr := hr.carry hw;refine L.alloc (cs := [Value.int .i64 0, S [], S [], Value.slice none 0 0, Value.slice none 0 0]) kref13_zr25 rfl rfl (fun w4 bx4 hw hz4 => ?_);have hB := hB.carry hw; have hn := hn.carry hw; have hr := hr.carry hw; have bx2 := bx2.carry hw;obtain ⟨b4, hb4⟩ : ∃ b4, b4 = w2.heap.size := ⟨_, rfl⟩;rw [← hb4] at bx4 ⊢;have z4 : w.heap.size < b4 := by omega
  refine L.val (x_as (v := .bool _) rfl) rfl ?_;refine L.nil (thn_n (W.seq (W.seq (W.region (L.val (x_as (v := .int _ _) rfl) rfl ?_)))));refine L.nil (thn_n (W.block (W.loop (fun m' E w' => ∃ (k : Nat), m' = s.names.length - k ∧ E 1 = S x ∧ E 2 = .pointer (some ⟨w.heap.size, 0, none⟩) ∧ E 4 = .pointer (some ⟨b4, 0, none⟩) ∧ E 6 = .int .i64 (k : Nat) ∧ (Bel w w') ∧ (StrsAt (fun k => A k ∨ w.heap.size ≤ k) w' (.slice pn s.names.length capn) s.names) ∧ (ShRow (fun k => A k ∨ w.heap.size ≤ k) w' p row s.parts) ∧ (Box w' w.heap.size 25 [.int .i64 s.kind, S s.of, S s.name, .slice pn s.names.length capn, .slice p s.parts.length cap]) ∧ (Box w' b4 25 [.int .i64 0, S [], S [], .slice none 0 0, .slice none 0 0]) ∧ (k ≤ s.names.length) ∧ (∀ j, j < k → s.names.getD j [] ≠ x)) (s.names.length) ?_ ?_)))
  ·exact ⟨0, by omega, vi_, vi_, vi_, vi_, ao_, ao_, ao_, ao_, ao_, ao_, (by intro j hj; omega)⟩
  ·rintro _ E wL7 ⟨k, em, e1, e2, e4, e6, hB, hn, hr, bx2, bx4, hk, hne⟩;rw [upd_self e1, upd_self e2, upd_self e4, upd_self e6];refine W.seq (W.seq (W.region (L.val (x_mv (v := .int _ _) rfl) rfl ?_)));refine L.val (x_fa kref13_fo25_3 rfl) rfl ?_;refine L.val (x_ld (v := .slice _ _ _) kref13_oc22 rfl (bx2.cell0 rfl)) rfl ?_;refine L.val (x_len_slice Tryz.underlying22 rfl) rfl ?_;refine L.val (x_lss rfl rfl) rfl ?_;refine L.nil (thn_n (W.cond (b := _) rfl (fun g11 => ?_) (fun g11 => ?_)))
   ·have h11 := of_decide_eq_true g11;have hlt : k < s.names.length := by omega
    have hip : k < s.parts.length := by rcases hfs with e | e; rw [e] at hlt; simp at hlt; omega
    obtain ⟨bn, on, rfl, hcn⟩ := hn.elem hlt;obtain ⟨b, o, rfl, hc⟩ := hr.elem hip;refine W.skip (thn_n (W.seq (W.block (W.seq (W.region (L.val (x_fa kref13_fo25_3 rfl) rfl ?_))))));refine L.val (x_ld (v := .slice _ _ _) kref13_oc22 rfl (bx2.cell0 rfl)) rfl ?_;refine L.val (x_mv (v := .int _ _) rfl) rfl ?_;refine L.val (x_ia1 (j := k) Tryz.underlying22 kref13_sz9 rfl rfl om_ om_) rfl ?_;refine L.val (x_ld (v := S _) kref13_oc9 rfl hcn) rfl ?_;refine L.val (x_mv (v := S _) rfl) rfl ?_;refine L.val (x_eqs rfl rfl) rfl ?_;refine L.nil (thn_n (W.cond (b := _) rfl (fun g20 => ?_) (fun g20 => ?_)))
    ·have h20 := seq_t g20;refine W.seq (W.region (L.val (x_fa kref13_fo25_4 rfl) rfl ?_));refine L.val (x_ld (v := .slice _ _ _) kref13_oc23 rfl (bx2.cell0 rfl)) rfl ?_;refine L.val (x_mv (v := .int _ _) rfl) rfl ?_;refine L.val (x_ia (j := k) Tryz.underlying23 kref13_sz25 rfl rfl om_ om_) rfl ?_;refine L.val (x_ldn (vs := row k) kref13_ag25 rfl (hr.five k hip) (hr.elemAt hip)) rfl ?_;refine L.setRow kref13_ag25 rfl rfl bx4 rfl (hr.five k hip) (ShC.one (hr.each k hip)) (fun wl22 bx4 hw hzl22 => ?_);have hsz := hB.size;have hB := hB.set hw om_; have hn := hn.carryR hw (fun j e => .inr (by have e : j = _ := e; omega)); have hr := hr.carryR hw (fun j e => .inr (by have e : j = _ := e; omega)); have bx2 := bx2.carryR hw om_;refine L.val (x_as (v := .bool _) rfl) rfl ?_;refine L.nil (thn_n (W.ret (blk_r (thn_r (thn_r (blk_r (thn_r (finR_mk (.inr rfl) ?_))))))));have hi : idxS x s.names = k := idxOf_at hlt h20 hne;have e : partV s x = s.parts.getD k default := by unfold partV; rw [hi, if_pos hlt]
     refine ⟨_, resST (v := .bool true) rfl kref13_ag25 rfl rfl bx4 (hr.five k hip), row k, by rw [hi]; simp [hlt], by rw [e]; exact hr.each k hip, hB⟩
    ·have h20 := seq_f g20;refine W.skip (blk_n (thn_n (W.region (L.val (x_mv (v := .int _ _) rfl) rfl ?_))));refine L.val (x_add rfl rfl (wr64 om_)) rfl ?_;refine L.val (x_as (v := .int _ _) rfl) rfl ?_;refine L.nil (thn_n ⟨rfl, ?_⟩);refine ⟨_, ?_, k + 1, rfl, vi_, vi_, vi_, vi_, ao_, ao_, ao_, ao_, ao_, ao_, (by intro j hj; by_cases e : j = k; subst e; exact h20; exact hne j om_)⟩;omega
   ·have h11 := dlt_f g11;refine W.exit (thn_x (thn_x (blk_hit ?_)));refine thn_n (W.seq (W.region (L.val (x_build (cells := [.int _ _, S _, S _, .slice _ _ _, .slice _ _ _]) kref13_si25 rfl rfl) rfl ?_)));refine L.setRow kref13_ag25 rfl rfl bx4 rfl rfl (by simp [Value.oneCell', S]) (fun wl28 bx4 hw hzl28 => ?_);have hsz := hB.size;have hB := hB.set hw om_; have hn := hn.carryR hw (fun j e => .inr (by have e : j = _ := e; omega)); have hr := hr.carryR hw (fun j e => .inr (by have e : j = _ := e; omega)); have bx2 := bx2.carryR hw om_;refine L.val (x_as (v := .bool _) rfl) rfl ?_;refine L.nil (thn_n (W.ret (finR_mk (.inr rfl) ?_)));have hi : idxS x s.names = s.names.length := idxOf_no (fun j hj => hne j om_);have e : partV s x = zeroS := by unfold partV; rw [hi, if_neg om_]
    refine ⟨_, resST (v := .bool false) rfl kref13_ag25 rfl rfl bx4 rfl, [.int .i64 0, S [], S [], .slice none 0 0, .slice none 0 0], by rw [hi]; simp, by rw [e]; exact zeroC _ _, hB⟩
end Go.Gx
