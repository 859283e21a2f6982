/- slices.Compact tells whether two neighbours are alike; names: none twice. Conditions: none. -/
import Derived.Lib.Bytealg
import Derived.Test.YteehllhldaopjaaGreatBwColl
import Derived.Test.YteehllhldaopjaaGreatBwSrtC
namespace Go.Gx
open Go.Proofs Go.Sort
theorem kcompact_en134 : Go.Proofs.Enters Tryz.prog 134 := Go.Proofs.enters_of Tryz.func134 (by kernel_rfl) rfl
theorem kcompact_en173 : Go.Proofs.Enters Tryz.prog 173 := Go.Proofs.enters_of Tryz.func173 (by kernel_rfl) rfl
theorem kcompact_en174 : Go.Proofs.Enters Tryz.prog 174 := Go.Proofs.enters_of Tryz.func174 (by kernel_rfl) rfl
theorem kcompact_en175 : Go.Proofs.Enters Tryz.prog 175 := Go.Proofs.enters_of Tryz.func175 (by kernel_rfl) rfl
theorem kcompact_en196 : Go.Proofs.Enters Tryz.prog 196 := Go.Proofs.enters_of Tryz.func196 (by kernel_rfl) rfl
theorem kcompact_fo25_3 : fieldOff Tryz.prog 25 3 = some 3 := by kernel_rfl
theorem kcompact_fo25_4 : fieldOff Tryz.prog 25 4 = some 4 := by kernel_rfl
theorem kcompact_mixed : Tryz.prog.follows .mixedOrders = true := by kernel_rfl
theorem kcompact_oc22 : oneCellT Tryz.prog 22 = true := by kernel_rfl
theorem kcompact_oc23 : oneCellT Tryz.prog 23 = true := by kernel_rfl
theorem kcompact_oc9 : oneCellT Tryz.prog 9 = true := by kernel_rfl
theorem kcompact_sz9 : (Tryz.prog.info? 9).map (·.size) = some 1 := by kernel_rfl
theorem kcompact_zr9 : (Tryz.prog.info? 9).bind (·.zero) = some (S []) := by kernel_rfl
def noadj (d : Array Str) (n : Nat) : Prop := ∀ j, 1 ≤ j → j < n → d[j]! ≠ d[j - 1]!
theorem compact_nil (cap : Nat) (w : World) : Ret Tryz.prog 175 #[.slice none 0 cap] w fun v w' => v = .slice none 0 cap ∧ Bel w w' := by
  refine ret_of_W Tryz.func175 rfl (Nat.le_of_ble_eq_true rfl) (res1 rfl) ?_
  have hB := Gr.refl (fun _ => False) w
  refine W.seq ?_
  refine W.region ?_
  refine L.val (x_as (v := .slice _ _ _) rfl) rfl ?_
  refine L.nil ?_
  refine thn_n ?_
  refine W.seq ?_
  refine W.seq ?_
  refine W.region ?_
  refine L.val (x_mv (v := .slice _ _ _) rfl) rfl ?_
  refine L.val (x_len_slice Tryz.underlying22 rfl) rfl ?_
  refine L.val (x_lss rfl rfl) rfl ?_
  refine L.nil ?_
  refine thn_n ?_
  refine W.cond (b := _) rfl (fun g8 => ?_) (fun g8 => ?_)
  ·have h8 := of_decide_eq_true g8
   refine W.seq ?_
   refine W.region ?_
   refine L.val (x_mv (v := .slice _ _ _) rfl) rfl ?_
   refine L.val (x_as (v := .slice _ _ _) rfl) rfl ?_
   refine L.nil ?_
   refine thn_n ?_
   refine W.ret (thn_r (fin_mk (.inr rfl) ?_))
   exact ⟨rfl, hB⟩
  ·have h8 := dlt_f g8
   omega
theorem compact_ok (b o cap n : Nat) (T : TypeId) (hd tl : List Value) (d : Array Str) (w : World) (hR : Row S w b o T hd d tl) (hn : d.size = n) (h1 : 1 ≤ n) (hnc : n ≤ cap) (hc : n ≤ 4000000000000000000) :
    Ret Tryz.prog 175 #[.slice (some ⟨b, o, none⟩) n cap] w fun v w' => ∃ p m c, v = .slice p m c ∧ (m = n ↔ noadj d n) ∧ Gr (· = b) w w' := by
  refine ret_of_W Tryz.func175 rfl (Nat.le_of_ble_eq_true rfl) (res1 rfl) ?_
  have hB := Gr.refl (· = b) w
  refine W.seq ?_
  refine W.region ?_
  refine L.val (x_as (v := .slice _ _ _) rfl) rfl ?_
  refine L.nil ?_
  refine thn_n ?_
  refine W.seq ?_
  refine W.seq ?_
  refine W.region ?_
  refine L.val (x_mv (v := .slice _ _ _) rfl) rfl ?_
  refine L.val (x_len_slice Tryz.underlying22 rfl) rfl ?_
  refine L.val (x_lss rfl rfl) rfl ?_
  refine L.nil ?_
  refine thn_n ?_
  refine W.cond (b := _) rfl (fun g8 => ?_) (fun g8 => ?_)
  ·have h8 := of_decide_eq_true g8
   refine W.seq ?_
   refine W.region ?_
   refine L.val (x_mv (v := .slice _ _ _) rfl) rfl ?_
   refine L.val (x_as (v := .slice _ _ _) rfl) rfl ?_
   refine L.nil ?_
   refine thn_n ?_
   refine W.ret (thn_r (fin_mk (.inr rfl) ?_))
   exact ⟨_, _, _, rfl, ⟨fun _ j h2 h3 => by omega, fun _ => rfl⟩, hB⟩
  ·have h8 := dlt_f g8
   refine W.skip ?_
   refine thn_n ?_
   refine W.seq ?_
   refine W.seq ?_
   refine W.region ?_
   refine L.val (x_as (v := .int _ _) rfl) rfl ?_
   refine L.nil ?_
   refine thn_n ?_
   refine W.block ?_
   refine W.loop (fun m' E w' => ∃ (k : Nat), m' = n - k ∧ E 0 = .slice (some ⟨b, o, none⟩) n cap ∧ E 3 = .int .i64 (k : Nat) ∧ (Gr (· = b) w w') ∧ (Row S w' b o T hd d tl) ∧ (1 ≤ k ∧ k ≤ n) ∧ (noadj d k)) (n - 1) ?_ ?_
   ·exact ⟨1, by omega, by first | rfl | exact vi (by omega), by first | rfl | exact vi (by omega), (by first | assumption | omega | rfl), (by first | assumption | omega | rfl), (by omega), (by intro j h2 h3; omega)⟩
   ·rintro _ E wL10 ⟨k, em, e0, e3, hB, hR, hk, hno⟩
    rw [upd_self e0, upd_self e3]
    refine W.seq ?_
    refine W.seq ?_
    refine W.region ?_
    refine L.val (x_mv (v := .int _ _) rfl) rfl ?_
    refine L.val (x_mv (v := .slice _ _ _) rfl) rfl ?_
    refine L.val (x_len_slice Tryz.underlying22 rfl) rfl ?_
    refine L.val (x_lss rfl rfl) rfl ?_
    refine L.nil ?_
    refine thn_n ?_
    refine W.cond (b := _) rfl (fun g13 => ?_) (fun g13 => ?_)
    ·have h13 := of_decide_eq_true g13
     refine W.skip ?_
     refine thn_n ?_
     refine W.seq ?_
     refine W.block ?_
     refine W.seq ?_
     refine W.drawB kcompact_mixed (by kernel_rfl) ?_
     refine LQ.val (fun w hw => x_mv (v := .slice _ _ _) rfl) rfl ?_
     refine LQ.val (fun w hw => x_mv (v := .int _ _) rfl) rfl ?_
     refine LQ.val (fun w hw => x_ia1 (j := k) Tryz.underlying22 kcompact_sz9 rfl rfl (by omega) (by omega)) rfl ?_
     refine LQ.val (fun w hw => x_ld (v := S _) kcompact_oc9 rfl (hw.keep (hR.at (i := k) (by omega)))) rfl ?_
     refine LQ.val (fun w hw => x_mv (v := .slice _ _ _) rfl) rfl ?_
     refine LQ.val (fun w hw => x_mv (v := .int _ _) rfl) rfl ?_
     refine LQ.val (fun w hw => x_sub rfl rfl (wr64 (by omega))) rfl ?_
     refine LQ.val (fun w hw => x_ia1 (j := k - 1) Tryz.underlying22 kcompact_sz9 rfl rfl (by omega) (by omega)) rfl ?_
     refine LQ.val (fun w hw => x_ld (v := S _) kcompact_oc9 rfl (hw.keep (hR.at (i := k - 1) (by omega)))) rfl ?_
     refine LQ.val (fun w hw => x_eqs rfl rfl) rfl ?_
     refine LQ.nil ?_
     intro w16 hw
     have hB := hB.carry hw; have hR := hR.carry hw
     refine thn_n ?_
     refine W.cond (b := _) rfl (fun g25 => ?_) (fun g25 => ?_)
     ·have h25 := seq_t g25
      refine W.seq ?_
      refine W.region ?_
      refine L.val (x_mv (v := .slice _ _ _) rfl) rfl ?_
      refine L.val (x_mv (v := .int _ _) rfl) rfl ?_
      refine L.val (x_slo (j := k) Tryz.underlying22 kcompact_sz9 rfl rfl rfl (by omega) (by omega)) rfl ?_
      refine L.val (x_as (v := .slice _ _ _) rfl) rfl ?_
      refine L.nil ?_
      refine thn_n ?_
      refine W.seq ?_
      refine W.seq ?_
      refine W.region ?_
      refine L.val (x_as (v := .int _ _) rfl) rfl ?_
      refine L.nil ?_
      refine thn_n ?_
      refine W.block ?_
      refine W.loop (fun m' E w' => ∃ (k2 kk : Nat) (q : Array Str), m' = n - k2 ∧ E 0 = .slice (some ⟨b, o, none⟩) n cap ∧ E 3 = .int .i64 (kk : Nat) ∧ E 4 = .slice (some ⟨b, o + k * 1, none⟩) (n - k) (cap - k) ∧ E 5 = .int .i64 (k2 : Nat) ∧ (Gr (· = b) w w') ∧ (Row S w' b o T hd q tl) ∧ (q.size = n) ∧ (1 ≤ k2 ∧ k2 ≤ n - k ∧ kk + 1 ≤ k + k2)) (n - 1) ?_ ?_
      ·exact ⟨1, k, d, by omega, by first | rfl | exact vi (by omega), by first | rfl | exact vi (by omega), by first | rfl | exact vi (by omega), by first | rfl | exact vi (by omega), (by first | assumption | omega | rfl), (by first | assumption | omega | rfl), (by first | assumption | omega | rfl), (by omega)⟩
      ·rintro _ E wL29 ⟨k2, kk, q, em, e0, e3, e4, e5, hB, hR, hq, hk2⟩
       rw [upd_self e0, upd_self e3, upd_self e4, upd_self e5]
       refine W.seq ?_
       refine W.seq ?_
       refine W.region ?_
       refine L.val (x_mv (v := .int _ _) rfl) rfl ?_
       refine L.val (x_mv (v := .slice _ _ _) rfl) rfl ?_
       refine L.val (x_len_slice Tryz.underlying22 rfl) rfl ?_
       have hnk : ((n - k : Nat) : Int) = (n : Int) - k := by omega
       refine L.val (x_lss rfl rfl) rfl ?_
       refine L.nil ?_
       refine thn_n ?_
       refine W.cond (b := _) rfl (fun g32 => ?_) (fun g32 => ?_)
       ·have h32 := of_decide_eq_true g32
        refine W.skip ?_
        refine thn_n ?_
        refine W.seq ?_
        refine W.block ?_
        refine W.seq ?_
        refine W.drawB kcompact_mixed (by kernel_rfl) ?_
        refine LQ.val (fun w hw => x_mv (v := .slice _ _ _) rfl) rfl ?_
        refine LQ.val (fun w hw => x_mv (v := .int _ _) rfl) rfl ?_
        refine LQ.val (fun w hw => x_ia1 (j := k2) Tryz.underlying22 kcompact_sz9 rfl rfl (by omega) (by omega)) rfl ?_
        refine LQ.val (fun w hw => x_ld (v := S _) kcompact_oc9 rfl (hw.keep (by have := hR.at (i := k + k2) (by omega); rw [show o + (k + k2) = o + k * 1 + k2 by omega] at this; exact this))) rfl ?_
        refine LQ.val (fun w hw => x_mv (v := .slice _ _ _) rfl) rfl ?_
        refine LQ.val (fun w hw => x_mv (v := .int _ _) rfl) rfl ?_
        refine LQ.val (fun w hw => x_sub rfl rfl (wr64 (by omega))) rfl ?_
        refine LQ.val (fun w hw => x_ia1 (j := k2 - 1) Tryz.underlying22 kcompact_sz9 rfl rfl (by omega) (by omega)) rfl ?_
        refine LQ.val (fun w hw => x_ld (v := S _) kcompact_oc9 rfl (hw.keep (by have := hR.at (i := k + (k2 - 1)) (by omega); rw [show o + (k + (k2 - 1)) = o + k * 1 + (k2 - 1) by omega] at this; exact this))) rfl ?_
        refine LQ.val (fun w hw => x_nes rfl rfl) rfl ?_
        refine LQ.nil ?_
        intro w35 hw
        have hB := hB.carry hw; have hR := hR.carry hw
        refine thn_n ?_
        refine W.cond (b := _) rfl (fun g44 => ?_) (fun g44 => ?_)
        ·have h44 := sne_t g44
         refine W.seq ?_
         refine W.region ?_
         refine L.val (x_mv (v := .slice _ _ _) rfl) rfl ?_
         refine L.val (x_mv (v := .int _ _) rfl) rfl ?_
         refine L.val (x_mv (v := .slice _ _ _) rfl) rfl ?_
         refine L.val (x_mv (v := .int _ _) rfl) rfl ?_
         refine L.val (x_ia1 (j := k2) Tryz.underlying22 kcompact_sz9 rfl rfl (by omega) (by omega)) rfl ?_
         refine L.val (x_ld (v := S _) kcompact_oc9 rfl (by have := hR.at (i := k + k2) (by omega); rw [show o + (k + k2) = o + k * 1 + k2 by omega] at this; exact this)) rfl ?_
         refine L.val (x_ia1 (j := kk) Tryz.underlying22 kcompact_sz9 rfl rfl (by omega) (by omega)) rfl ?_
         refine L.setAt (enc := S) (j := kk) kcompact_sz9 rfl rfl rfl hR (by omega) (fun wl48 hR hsl48 hw hzl48 => ?_)
         have hB := hB.trans hw
         refine L.nil ?_
         refine thn_n ?_
         refine W.region ?_
         refine L.val (x_mv (v := .int _ _) rfl) rfl ?_
         refine L.val (x_add rfl rfl (wr64 (by omega))) rfl ?_
         refine L.val (x_as (v := .int _ _) rfl) rfl ?_
         refine L.nil ?_
         refine blk_n ?_
         refine thn_n ?_
         refine W.region ?_
         refine L.val (x_mv (v := .int _ _) rfl) rfl ?_
         refine L.val (x_add rfl rfl (wr64 (by omega))) rfl ?_
         refine L.val (x_as (v := .int _ _) rfl) rfl ?_
         refine L.nil ?_
         refine thn_n ⟨rfl, ?_⟩
         first
           | (refine ⟨_, ?_, k2 + 1, kk, q, rfl, by first | rfl | exact vi (by omega), by first | rfl | exact vi (by omega), by first | rfl | exact vi (by omega), by first | rfl | exact vi (by omega), (by first | assumption | omega | rfl), (by first | assumption | omega | rfl), (by first | exact hq | (rw [Array.size_setIfInBounds]; exact hq)), (by omega)⟩; omega)
           | (refine ⟨_, ?_, k2 + 1, kk + 1, q.setIfInBounds kk q[k + k2]!, rfl, by first | rfl | exact vi (by omega), by first | rfl | exact vi (by omega), by first | rfl | exact vi (by omega), by first | rfl | exact vi (by omega), (by first | assumption | omega | rfl), (by first | assumption | omega | rfl), (by first | exact hq | (rw [Array.size_setIfInBounds]; exact hq)), (by omega)⟩; omega)
        ·have h44 := sne_f g44
         refine W.skip ?_
         refine blk_n ?_
         refine thn_n ?_
         refine W.region ?_
         refine L.val (x_mv (v := .int _ _) rfl) rfl ?_
         refine L.val (x_add rfl rfl (wr64 (by omega))) rfl ?_
         refine L.val (x_as (v := .int _ _) rfl) rfl ?_
         refine L.nil ?_
         refine thn_n ⟨rfl, ?_⟩
         first
           | (refine ⟨_, ?_, k2 + 1, kk, q, rfl, by first | rfl | exact vi (by omega), by first | rfl | exact vi (by omega), by first | rfl | exact vi (by omega), by first | rfl | exact vi (by omega), (by first | assumption | omega | rfl), (by first | assumption | omega | rfl), (by first | exact hq | (rw [Array.size_setIfInBounds]; exact hq)), (by omega)⟩; omega)
           | (refine ⟨_, ?_, k2 + 1, kk + 1, q.setIfInBounds kk q[k + k2]!, rfl, by first | rfl | exact vi (by omega), by first | rfl | exact vi (by omega), by first | rfl | exact vi (by omega), by first | rfl | exact vi (by omega), (by first | assumption | omega | rfl), (by first | assumption | omega | rfl), (by first | exact hq | (rw [Array.size_setIfInBounds]; exact hq)), (by omega)⟩; omega)
       ·have h32 := dlt_f g32
        refine W.exit (thn_x (thn_x (blk_hit ?_)))
        refine thn_n ?_
        refine W.seq ?_
        refine W.region ?_
        refine L.val (x_mv (v := .slice _ _ _) rfl) rfl ?_
        refine L.val (x_mv (v := .int _ _) rfl) rfl ?_
        refine L.val (x_slo (j := kk) Tryz.underlying22 kcompact_sz9 rfl rfl rfl (by omega) (by omega)) rfl ?_
        refine L.clear (z := S []) Tryz.underlying22 kcompact_zr9 rfl rfl rfl (by omega) (fun j hj => ?_) (fun j hj => hR.free _) (fun w58 hw hz58 => ?_)
        · have := hR.at (i := kk + j) (by omega)
          rw [show o + (kk + j) = o + kk * 1 + j by omega] at this
          rw [this]; rfl
        have hB := hB.trans hw
        refine L.nil ?_
        refine thn_n ?_
        refine W.seq ?_
        refine W.region ?_
        refine L.val (x_mv (v := .slice _ _ _) rfl) rfl ?_
        refine L.val (x_mv (v := .int _ _) rfl) rfl ?_
        refine L.val (x_shi (j := kk) Tryz.underlying22 kcompact_sz9 rfl rfl rfl (by omega)) rfl ?_
        refine L.val (x_as (v := .slice _ _ _) rfl) rfl ?_
        refine L.nil ?_
        refine thn_n ?_
        refine W.ret (blk_r (thn_r (thn_r (blk_r (thn_r (fin_mk (.inr rfl) ?_))))))
        refine ⟨_, kk, _, rfl, ⟨fun h => by omega, fun h => ?_⟩, hB⟩
        exact absurd h25 (h k (by omega) (by omega))
     ·have h25 := seq_f g25
      refine W.skip ?_
      refine blk_n ?_
      refine thn_n ?_
      refine W.region ?_
      refine L.val (x_mv (v := .int _ _) rfl) rfl ?_
      refine L.val (x_add rfl rfl (wr64 (by omega))) rfl ?_
      refine L.val (x_as (v := .int _ _) rfl) rfl ?_
      refine L.nil ?_
      refine thn_n ⟨rfl, ?_⟩
      refine ⟨_, ?_, k + 1, rfl, by first | rfl | exact vi (by omega), by first | rfl | exact vi (by omega), (by first | assumption | omega | rfl), (by first | assumption | omega | rfl), (by omega), (by exact fun j h2 h3 => if h4 : j < k then hno j h2 h4 else (by rw [show j = k by omega]; exact h25))⟩
      omega
    ·have h13 := dlt_f g13
     refine W.exit (thn_x (thn_x (blk_hit ?_)))
     refine thn_n ?_
     refine W.seq ?_
     refine W.region ?_
     refine L.val (x_mv (v := .slice _ _ _) rfl) rfl ?_
     refine L.val (x_as (v := .slice _ _ _) rfl) rfl ?_
     refine L.nil ?_
     refine thn_n ?_
     refine W.ret (fin_mk (.inr rfl) ?_)
     exact ⟨_, _, _, rfl, ⟨fun _ => by rw [show k = n by omega] at hno; exact hno, fun _ => rfl⟩, hB⟩
theorem ltStr_anti {x y : Str} (h1 : ltStr x y = false) (h2 : ltStr y x = false) : x = y := by
  unfold ltStr at h1 h2
  have h1 := of_decide_eq_false h1
  have h2 := of_decide_eq_false h2
  exact List.le_antisymm (List.not_lt.1 h2) (List.not_lt.1 h1)
theorem noadj_nodup {d : Array Str} {n : Nat} (hn : d.size = n) (hs : SortedIn ltStr 0 n d) : noadj d n ↔ d.toList.Nodup := by
  unfold List.Nodup
  rw [List.pairwise_iff_getElem]
  have eg : ∀ i (hi : i < d.toList.length), d.toList[i] = d[i]! := fun i hi => by simp at hi ⊢; simp [hi]
  constructor
  · intro h i j hi hj hij e
    rw [eg, eg] at e
    simp only [Array.length_toList] at hj
    have h3 : d[i + 1]! = d[i]! := by
      rcases Nat.lt_or_ge (i + 1) j with hlt | hge
      · have a1 := hs i (i + 1) (by omega) (by omega) (by omega)
        have a2 := hs (i + 1) j (by omega) hlt (by omega)
        rw [← e] at a2
        exact ltStr_anti a1 a2
      · rw [show j = i + 1 by omega] at e; exact e.symm
    exact h (i + 1) (by omega) (by omega) (by rw [Nat.add_sub_cancel]; exact h3)
  · intro h j h1 h2 e
    have := h (j - 1) j (by simp; omega) (by simp; omega) (by omega)
    rw [eg, eg] at this
    exact this e.symm
theorem nodup_iff {l : List Str} : nodup l = true ↔ l.Nodup := by
  induction l with
  | nil => simp [nodup]
  | cons x l ih => simp [nodup, ih]
theorem perm_nodup {d : Array Str} {ss : List Str} (h : PermIn 0 ss.length ss.toArray d) : d.toList.Nodup ↔ ss.Nodup := by
  obtain ⟨h1, -, h3⟩ := h
  have e1 : d.extract 0 ss.length = d := by
    rw [show ss.length = d.size by rw [h1]; simp]; simp
  rw [e1] at h3
  have h3 : d.toList.Perm ss := by simpa using h3
  exact h3.nodup_iff
theorem SortedNew.carry {base : Nat} {w w' : World} {v : Value} {ss : List Str} (h : SortedNew base w v ss) (g : Bel w w') : SortedNew base w' v ss := by
  rcases h with h | ⟨b, cap, tl, d, h1, h2, h3, h4, h5, h6⟩
  · exact .inl h
  · exact .inr ⟨b, cap, tl, d, h1, h2, h3, h4, h5.carry g, h6⟩
theorem compact_new (base : Nat) (w : World) (v : Value) (ss : List Str) (hl : ss.length ≤ 400000) (h : SortedNew base w v ss) : Ret Tryz.prog 175 #[v] w fun r w' => ∃ p m c, r = .slice p m c ∧ (m = ss.length ↔ ss.Nodup) ∧ Gr (fun k => base ≤ k) w w' := by
  rcases h with ⟨rfl, rfl⟩ | ⟨b, cap, tl, d, h1, h2, h3, rfl, h5, h6, h7, h8⟩
  · exact (compact_nil 0 w).mono fun r w' ⟨a, g⟩ => ⟨_, _, _, a, by simp, g.mono fun _ _ f => f.elim⟩
  · refine (compact_ok b 0 cap ss.length _ [] tl d w h5 h6 h2 h3 (by omega)).mono ?_
    rintro r w' ⟨p, m, c, rfl, hm, g⟩
    exact ⟨p, m, c, rfl, hm.trans ((noadj_nodup h6 h8.1).trans (perm_nodup h7)), g.mono fun k _ e => by have e : k = b := e; omega⟩
theorem named_ok (A : Nat → Prop) (s : Sh) (cs : List Value) (w : World) (hs : ShC A w cs s) (hS : s.parts.length ≤ 400000) :
    Ret Tryz.prog 147 #[.agg cs.toArray] w fun v w' => v = .bool (namesOk s.names s.parts.length) ∧ Bel w w' := by
  obtain ⟨A1, hs, hU⟩ : ∃ A1 : Nat → Prop, ShC A1 w cs s ∧ (∀ k, w.heap.size ≤ k → A1 k) := ⟨_, hs.up, fun _ => .inr⟩
  obtain ⟨vn, vp, rfl, hn, hp, hof, hnm⟩ := hs.inv
  obtain ⟨p, cap, row, rfl, p1, p2, p3, hr⟩ := hp
  have hn' := hn
  obtain ⟨pn, capn, rfl, n1, n2, n3, hL, -⟩ := hn'
  have hmem : ∀ k, k < s.names.length → s.names.getD k [] ∈ s.names := fun k hk => by rw [List.getD_eq_getElem?_getD, List.getElem?_eq_getElem hk]; exact List.getElem_mem _
  refine ret_of_W Tryz.func147 rfl (Nat.le_of_ble_eq_true rfl) (res1 rfl) ?_
  have hB := Gr.refl (fun _ => False) w
  refine W.seq ?_
  refine W.region ?_
  refine L.box (cs := _) rfl rfl (fun w1 bx1 hw hz1 => ?_)
  have hB := hB.carry hw; have hn := hn.carry hw
  refine L.val (x_as (v := .bool _) rfl) rfl ?_
  refine L.nil ?_
  refine thn_n ?_
  refine W.seq ?_
  refine W.seq ?_
  refine W.region ?_
  refine L.val (x_fa kcompact_fo25_3 rfl) rfl ?_
  refine L.val (x_ld (v := .slice _ _ _) kcompact_oc22 rfl (bx1.cell0 rfl)) rfl ?_
  refine L.val (x_len_slice Tryz.underlying22 rfl) rfl ?_
  refine L.val (x_fa kcompact_fo25_4 rfl) rfl ?_
  refine L.val (x_ld (v := .slice _ _ _) kcompact_oc23 rfl (bx1.cell0 rfl)) rfl ?_
  refine L.val (x_len_slice Tryz.underlying23 rfl) rfl ?_
  refine L.val (x_neq rfl rfl) rfl ?_
  refine L.nil ?_
  refine thn_n ?_
  refine W.cond (b := _) rfl (fun g12 => ?_) (fun g12 => ?_)
  ·have h12 := dne_t g12
   refine W.seq ?_
   refine W.region ?_
   refine L.val (x_as (v := .bool _) rfl) rfl ?_
   refine L.nil ?_
   refine thn_n ?_
   refine W.ret (thn_r (fin_mk (.inr rfl) ?_))
   exact ⟨vb (by unfold namesOk; rw [show decide ((s.names.length : Int) = (s.parts.length : Int)) = false by simpa using h12]; simp), hB⟩
  ·have h12 := dne_f g12
   refine W.skip ?_
   refine thn_n ?_
   refine W.seq ?_
   refine W.seq ?_
   refine W.region ?_
   refine L.val (x_fa kcompact_fo25_3 rfl) rfl ?_
   refine L.val (x_ld (v := .slice _ _ _) kcompact_oc22 rfl (bx1.cell0 rfl)) rfl ?_
   refine L.val (x_len_slice Tryz.underlying22 rfl) rfl ?_
   refine L.val (x_mv (v := .int _ _) rfl) rfl ?_
   refine L.nil ?_
   refine thn_n ?_
   refine W.block ?_
   refine W.loop (fun m' E w' => ∃ (k : Nat), m' = s.names.length - k ∧ E 1 = .pointer (some ⟨w.heap.size, 0, none⟩) ∧ E 14 = .slice pn s.names.length capn ∧ E 15 = .int .i64 (s.names.length : Nat) ∧ E 16 = .int .i64 (k : Nat) ∧ (Bel w w') ∧ (StrsAt A1 w' (.slice pn s.names.length capn) s.names) ∧ (Box w' w.heap.size 25 [.int .i64 s.kind, S s.of, S s.name, .slice pn s.names.length capn, .slice p s.parts.length cap]) ∧ (k ≤ s.names.length) ∧ ((s.names.take k).all nameS = true)) (s.names.length) ?_ ?_
   ·exact ⟨0, by omega, by first | rfl | exact vi (by omega), by first | rfl | exact vi (by omega), by first | rfl | exact vi (by omega), by first | rfl | exact vi (by omega), (by first | assumption | omega | rfl), (by first | assumption | omega | rfl), (by first | assumption | omega | rfl), (by first | assumption | omega | rfl), (by rfl)⟩
   ·rintro _ E wL17 ⟨k, em, e1, e14, e15, e16, hB, hn, bx1, hk, ha⟩
    rw [upd_self e1, upd_self e14, upd_self e15, upd_self e16]
    refine W.seq ?_
    refine W.region ?_
    refine L.val (x_lss rfl rfl) rfl ?_
    refine L.nil ?_
    refine thn_n ?_
    refine W.seq ?_
    refine W.cond (b := _) rfl (fun g17 => ?_) (fun g17 => ?_)
    ·have h17 := of_decide_eq_true g17
     have hlt : k < s.names.length := by omega
     obtain ⟨b, o, rfl, hc⟩ := hn.elem hlt
     refine W.skip ?_
     refine thn_n ?_
     refine W.seq ?_
     refine W.block ?_
     refine W.seq ?_
     refine W.region ?_
     refine L.val (x_ia1  Tryz.underlying22 kcompact_sz9 rfl rfl rfl (by omega)) rfl ?_
     refine L.val (x_ld (v := S _) kcompact_oc9 rfl hc) rfl ?_
     refine L.val (x_as (v := S _) rfl) rfl ?_
     refine L.nil ?_
     refine thn_n ?_
     refine W.seq ?_
     refine W.region ?_
     refine L.val (x_mv (v := S _) rfl) rfl ?_
     refine L.ret (x_call kcompact_en134 rfl) rfl (nameL _ (hL _ (hmem k hlt)) _) ?_
     rintro _ w21 ⟨rfl, hw⟩
     have hB := hB.carry hw; have hn := hn.carry hw; have bx1 := bx1.carry hw
     refine L.val (x_not rfl) rfl ?_
     refine L.nil ?_
     refine thn_n ?_
     refine W.cond (b := _) rfl (fun g22 => ?_) (fun g22 => ?_)
     ·have h22 := (not_t g22)
      refine W.seq ?_
      refine W.region ?_
      refine L.val (x_as (v := .bool _) rfl) rfl ?_
      refine L.nil ?_
      refine thn_n ?_
      refine W.ret (blk_r (thn_r (thn_r (blk_r (thn_r (fin_mk (.inr rfl) ?_))))))
      exact ⟨vb (by
        have : s.names.all nameS = false := by rw [List.all_eq_false]; exact ⟨_, hmem k hlt, by rw [h22]; simp⟩
        unfold namesOk; rw [this]; rfl), hB⟩
     ·have h22 := (not_f g22)
      refine W.skip ?_
      refine blk_n ?_
      refine thn_n ?_
      refine W.region ?_
      refine L.val (x_add rfl rfl (wr64 (by omega))) rfl ?_
      refine L.val (x_mv (v := .int _ _) rfl) rfl ?_
      refine L.nil ?_
      refine thn_n ⟨rfl, ?_⟩
      refine ⟨_, ?_, k + 1, rfl, by first | rfl | exact vi (by omega), by first | rfl | exact vi (by omega), by first | rfl | exact vi (by omega), by first | rfl | exact vi (by omega), (by first | assumption | omega | rfl), (by first | assumption | omega | rfl), (by first | assumption | omega | rfl), (by first | assumption | omega | rfl), (by rw [take_snoc (d := []) hlt, List.all_append, ha]; show (true && (nameS (s.names.getD k []) && true)) = true; rw [h22]; rfl)⟩
      omega
    ·have h17 := dlt_f g17
     refine W.exit (thn_x (thn_x (blk_hit ?_)))
     refine thn_n ?_
     refine W.seq ?_
     refine W.region ?_
     refine L.val (x_fa kcompact_fo25_3 rfl) rfl ?_
     refine L.val (x_ld (v := .slice _ _ _) kcompact_oc22 rfl (bx1.cell0 rfl)) rfl ?_
     refine L.ret (x_call kcompact_en174 rfl) rfl (values_ok _ _ _ _) ?_
     rintro _ w26 ⟨rfl, bx26, hw⟩
     have hB := hB.carry hw; have hn := hn.carry hw; have bx1 := bx1.carry hw
     obtain ⟨base, hbase, hbl⟩ : ∃ base, base = w26.heap.size ∧ w.heap.size < base := ⟨_, rfl, bx1.lt⟩
     refine L.ret (x_call kcompact_en173 rfl) rfl (sorted_ok _ _ s.names _ kcompact_en196 (by omega) (fun _ h => List.Perm.of_eq h) (vals_seq A1 _ _ _ s.names _ (fun k hk => hU k (by have := hB.size; omega)) bx26.lt (bx26.cell (i := 0) rfl) hn (fun k hk => hU k (by have := hB.size; omega)))) ?_
     rintro v27 w27 ⟨hN, hw⟩
     have hB := hB.carry hw; have hn := hn.carry hw; have bx1 := bx1.carry hw
     rw [← hbase] at hN
     refine L.val (x_as (v := _) rfl) rfl ?_
     refine L.nil ?_
     refine thn_n ?_
     refine W.seq ?_
     refine W.drawS kcompact_mixed ?_
     have hB := hB.carry (bel_drew _); have bx1 := bx1.carry (bel_drew _); have hN := hN.carry (bel_drew _)
     refine LA.take (i := 0) rfl (by kernel_rfl) (by kernel_rfl) (by kernel_rfl) (fun w => x_mv (v := _) rfl) rfl ?_
     refine LA.take (i := 3) rfl (by kernel_rfl) (by kernel_rfl) (by kernel_rfl) (fun w => x_fa kcompact_fo25_3 rfl) rfl ?_
     refine LA.step (rs := [1, 4]) (by kernel_rfl) (by simp) ⟨⟨_, rfl, ?_⟩, ⟨_, rfl, ?_⟩, trivial⟩
     ·refine L.ret (x_call kcompact_en175 rfl) rfl (compact_new base _ _ s.names (by omega) hN) ?_
      rintro _ w29 ⟨p29, m29, c29, rfl, hm, hg⟩
      have hB := hB.step hg (fun i hi => by omega)
      have bx1 := bx1.carryR hg (by omega)
      refine L.nil ?_
      refine thn_n ?_
      refine LA.step (rs := [2, 4]) (by kernel_rfl) (by simp) ⟨⟨_, rfl, ?_⟩, ⟨_, rfl, ?_⟩, trivial⟩
      ·refine L.val (x_len_slice Tryz.underlying22 rfl) rfl ?_
       refine L.nil ?_
       refine thn_n ?_
       refine LA.step (rs := [4]) (by kernel_rfl) (by simp) ⟨⟨_, rfl, ?_⟩, trivial⟩
       refine L.val (x_ld (v := .slice _ _ _) kcompact_oc22 rfl (bx1.cell0 rfl)) rfl ?_
       refine L.nil ?_
       refine thn_n ?_
       refine LA.step (rs := [5]) (by kernel_rfl) (by simp) ⟨⟨_, rfl, ?_⟩, trivial⟩
       refine L.val (x_len_slice Tryz.underlying22 rfl) rfl ?_
       refine L.nil ?_
       refine thn_n ?_
       refine LA.take (i := 6) rfl (by kernel_rfl) (by kernel_rfl) (by kernel_rfl) (fun w => x_eql rfl rfl) rfl ?_
       refine LA.take (i := 7) rfl (by kernel_rfl) (by kernel_rfl) (by kernel_rfl) (fun w => x_as (v := .bool _) rfl) rfl ?_
       refine LA.done (by kernel_rfl) ?_
       refine nrm_n ?_
       refine thn_n ?_
       refine W.ret (fin_mk (.inr rfl) ?_)
       refine ⟨vb ?_, hB⟩
       rw [show k = s.names.length by omega, List.take_length] at ha
       unfold namesOk
       rw [ha, show decide ((s.names.length : Int) = (s.parts.length : Int)) = true by simpa using h12, Bool.and_true, Bool.true_and]
       rw [Bool.eq_iff_iff, nodup_iff, ← hm]; simp; omega
      ·refine L.val (x_ld (v := .slice _ _ _) kcompact_oc22 rfl (bx1.cell0 rfl)) rfl ?_
       refine L.nil ?_
       refine thn_n ?_
       refine LA.step (rs := [2, 5]) (by kernel_rfl) (by simp) ⟨⟨_, rfl, ?_⟩, ⟨_, rfl, ?_⟩, trivial⟩
       ·refine L.val (x_len_slice Tryz.underlying22 rfl) rfl ?_
        refine L.nil ?_
        refine thn_n ?_
        refine LA.step (rs := [5]) (by kernel_rfl) (by simp) ⟨⟨_, rfl, ?_⟩, trivial⟩
        refine L.val (x_len_slice Tryz.underlying22 rfl) rfl ?_
        refine L.nil ?_
        refine thn_n ?_
        refine LA.take (i := 6) rfl (by kernel_rfl) (by kernel_rfl) (by kernel_rfl) (fun w => x_eql rfl rfl) rfl ?_
        refine LA.take (i := 7) rfl (by kernel_rfl) (by kernel_rfl) (by kernel_rfl) (fun w => x_as (v := .bool _) rfl) rfl ?_
        refine LA.done (by kernel_rfl) ?_
        refine nrm_n ?_
        refine thn_n ?_
        refine W.ret (fin_mk (.inr rfl) ?_)
        refine ⟨vb ?_, hB⟩
        rw [show k = s.names.length by omega, List.take_length] at ha
        unfold namesOk
        rw [ha, show decide ((s.names.length : Int) = (s.parts.length : Int)) = true by simpa using h12, Bool.and_true, Bool.true_and]
        rw [Bool.eq_iff_iff, nodup_iff, ← hm]; simp; omega
       ·refine L.val (x_len_slice Tryz.underlying22 rfl) rfl ?_
        refine L.nil ?_
        refine thn_n ?_
        refine LA.step (rs := [2]) (by kernel_rfl) (by simp) ⟨⟨_, rfl, ?_⟩, trivial⟩
        refine L.val (x_len_slice Tryz.underlying22 rfl) rfl ?_
        refine L.nil ?_
        refine thn_n ?_
        refine LA.take (i := 6) rfl (by kernel_rfl) (by kernel_rfl) (by kernel_rfl) (fun w => x_eql rfl rfl) rfl ?_
        refine LA.take (i := 7) rfl (by kernel_rfl) (by kernel_rfl) (by kernel_rfl) (fun w => x_as (v := .bool _) rfl) rfl ?_
        refine LA.done (by kernel_rfl) ?_
        refine nrm_n ?_
        refine thn_n ?_
        refine W.ret (fin_mk (.inr rfl) ?_)
        refine ⟨vb ?_, hB⟩
        rw [show k = s.names.length by omega, List.take_length] at ha
        unfold namesOk
        rw [ha, show decide ((s.names.length : Int) = (s.parts.length : Int)) = true by simpa using h12, Bool.and_true, Bool.true_and]
        rw [Bool.eq_iff_iff, nodup_iff, ← hm]; simp; omega
     ·refine L.val (x_ld (v := .slice _ _ _) kcompact_oc22 rfl (bx1.cell0 rfl)) rfl ?_
      refine L.nil ?_
      refine thn_n ?_
      refine LA.step (rs := [1, 5]) (by kernel_rfl) (by simp) ⟨⟨_, rfl, ?_⟩, ⟨_, rfl, ?_⟩, trivial⟩
      ·refine L.ret (x_call kcompact_en175 rfl) rfl (compact_new base _ _ s.names (by omega) hN) ?_
       rintro _ w29 ⟨p29, m29, c29, rfl, hm, hg⟩
       have hB := hB.step hg (fun i hi => by omega)
       have bx1 := bx1.carryR hg (by omega)
       refine L.nil ?_
       refine thn_n ?_
       refine LA.step (rs := [2, 5]) (by kernel_rfl) (by simp) ⟨⟨_, rfl, ?_⟩, ⟨_, rfl, ?_⟩, trivial⟩
       ·refine L.val (x_len_slice Tryz.underlying22 rfl) rfl ?_
        refine L.nil ?_
        refine thn_n ?_
        refine LA.step (rs := [5]) (by kernel_rfl) (by simp) ⟨⟨_, rfl, ?_⟩, trivial⟩
        refine L.val (x_len_slice Tryz.underlying22 rfl) rfl ?_
        refine L.nil ?_
        refine thn_n ?_
        refine LA.take (i := 6) rfl (by kernel_rfl) (by kernel_rfl) (by kernel_rfl) (fun w => x_eql rfl rfl) rfl ?_
        refine LA.take (i := 7) rfl (by kernel_rfl) (by kernel_rfl) (by kernel_rfl) (fun w => x_as (v := .bool _) rfl) rfl ?_
        refine LA.done (by kernel_rfl) ?_
        refine nrm_n ?_
        refine thn_n ?_
        refine W.ret (fin_mk (.inr rfl) ?_)
        refine ⟨vb ?_, hB⟩
        rw [show k = s.names.length by omega, List.take_length] at ha
        unfold namesOk
        rw [ha, show decide ((s.names.length : Int) = (s.parts.length : Int)) = true by simpa using h12, Bool.and_true, Bool.true_and]
        rw [Bool.eq_iff_iff, nodup_iff, ← hm]; simp; omega
       ·refine L.val (x_len_slice Tryz.underlying22 rfl) rfl ?_
        refine L.nil ?_
        refine thn_n ?_
        refine LA.step (rs := [2]) (by kernel_rfl) (by simp) ⟨⟨_, rfl, ?_⟩, trivial⟩
        refine L.val (x_len_slice Tryz.underlying22 rfl) rfl ?_
        refine L.nil ?_
        refine thn_n ?_
        refine LA.take (i := 6) rfl (by kernel_rfl) (by kernel_rfl) (by kernel_rfl) (fun w => x_eql rfl rfl) rfl ?_
        refine LA.take (i := 7) rfl (by kernel_rfl) (by kernel_rfl) (by kernel_rfl) (fun w => x_as (v := .bool _) rfl) rfl ?_
        refine LA.done (by kernel_rfl) ?_
        refine nrm_n ?_
        refine thn_n ?_
        refine W.ret (fin_mk (.inr rfl) ?_)
        refine ⟨vb ?_, hB⟩
        rw [show k = s.names.length by omega, List.take_length] at ha
        unfold namesOk
        rw [ha, show decide ((s.names.length : Int) = (s.parts.length : Int)) = true by simpa using h12, Bool.and_true, Bool.true_and]
        rw [Bool.eq_iff_iff, nodup_iff, ← hm]; simp; omega
      ·refine L.val (x_len_slice Tryz.underlying22 rfl) rfl ?_
       refine L.nil ?_
       refine thn_n ?_
       refine LA.step (rs := [1]) (by kernel_rfl) (by simp) ⟨⟨_, rfl, ?_⟩, trivial⟩
       refine L.ret (x_call kcompact_en175 rfl) rfl (compact_new base _ _ s.names (by omega) hN) ?_
       rintro _ w29 ⟨p29, m29, c29, rfl, hm, hg⟩
       have hB := hB.step hg (fun i hi => by omega)
       have bx1 := bx1.carryR hg (by omega)
       refine L.nil ?_
       refine thn_n ?_
       refine LA.step (rs := [2]) (by kernel_rfl) (by simp) ⟨⟨_, rfl, ?_⟩, trivial⟩
       refine L.val (x_len_slice Tryz.underlying22 rfl) rfl ?_
       refine L.nil ?_
       refine thn_n ?_
       refine LA.take (i := 6) rfl (by kernel_rfl) (by kernel_rfl) (by kernel_rfl) (fun w => x_eql rfl rfl) rfl ?_
       refine LA.take (i := 7) rfl (by kernel_rfl) (by kernel_rfl) (by kernel_rfl) (fun w => x_as (v := .bool _) rfl) rfl ?_
       refine LA.done (by kernel_rfl) ?_
       refine nrm_n ?_
       refine thn_n ?_
       refine W.ret (fin_mk (.inr rfl) ?_)
       refine ⟨vb ?_, hB⟩
       rw [show k = s.names.length by omega, List.take_length] at ha
       unfold namesOk
       rw [ha, show decide ((s.names.length : Int) = (s.parts.length : Int)) = true by simpa using h12, Bool.and_true, Bool.true_and]
       rw [Bool.eq_iff_iff, nodup_iff, ← hm]; simp; omega
end Go.Gx
namespace Go.Gx
open Go.Proofs Go.Sort
theorem ksortf_en124 : Go.Proofs.Enters Tryz.prog 124 := Go.Proofs.enters_of Tryz.func124 (by kernel_rfl) rfl
theorem ksortf_en157 : Go.Proofs.Enters Tryz.prog 157 := Go.Proofs.enters_of Tryz.func157 (by kernel_rfl) rfl
theorem ksortf_en158 : Go.Proofs.Enters Tryz.prog 158 := Go.Proofs.enters_of Tryz.func158 (by kernel_rfl) rfl
theorem ksortf_en159 : Go.Proofs.Enters Tryz.prog 159 := Go.Proofs.enters_of Tryz.func159 (by kernel_rfl) rfl
theorem ksortf_fo25_3 : fieldOff Tryz.prog 25 3 = some 3 := by kernel_rfl
theorem ksortf_mixed : Tryz.prog.follows .mixedOrders = true := by kernel_rfl
theorem ksortf_oc22 : oneCellT Tryz.prog 22 = true := by kernel_rfl
theorem ksortf_oc9 : oneCellT Tryz.prog 9 = true := by kernel_rfl
theorem ksortf_sz9 : (Tryz.prog.info? 9).map (·.size) = some 1 := by kernel_rfl
theorem x_cmpstr {E : Env} {w : World} {x y : Operand} {ts : Array TypeId} {t : TypeId} {a b : Str} (hx : ev E x = S a) (hy : ev E y = S b) :
    X Tryz.prog (.call ⟨.value (.func 189), #[x, y], ts⟩) t E w (.int .i64 (Lib.compareBytes a b)) w := by
  have h := fun args w => run_callFunc_extern (P := Tryz.prog) (args := args) (w := w) Tryz.func189 (by kernel_rfl) (by kernel_rfl) (by kernel_rfl) (e := Extern.BytealgCompare.compare) (by kernel_rfl)
  have hv' : #[x, y].map (ev E) = #[S a, S b] := by simp [hx, hy]
  unfold X
  simp only [execOp, resolve, ev, Deferred.ofValue, hv', Sem.run_bind]
  have := h (#[] ++ #[S a, S b] ++ #[]) w
  have e : (Extern.BytealgCompare.compare (#[] ++ #[S a, S b] ++ #[])).run Tryz.prog w = .ok (.int .i64 (Lib.compareBytes a b)) w := Lib.run_compareString ⟨a.toArray⟩ ⟨b.toArray⟩ w
  rw [e] at this
  simpa [invoke] using this
theorem cmpstr0 (a b : Str) (w : World) : Ret Tryz.prog 159 #[S a, S b] w fun v w' => v = .int .i64 (Lib.compareBytes a b) ∧ Bel w w' := by
  refine ret_of_W Tryz.func159 rfl (Nat.le_of_ble_eq_true rfl) (res1 rfl) ?_
  have hB := Gr.refl (fun _ => False) w
  refine W.seq ?_
  refine W.region ?_
  refine L.val (x_as (v := .int _ _) rfl) rfl ?_
  refine L.nil ?_
  refine thn_n ?_
  refine W.seq ?_
  refine W.region ?_
  refine L.val (x_mv (v := S _) rfl) rfl ?_
  refine L.val (x_mv (v := S _) rfl) rfl ?_
  refine L.val (x_cmpstr rfl rfl) rfl ?_
  refine L.val (x_as (v := .int _ _) rfl) rfl ?_
  refine L.nil ?_
  refine thn_n ?_
  refine W.ret (fin_mk (.inr rfl) ?_)
  exact ⟨rfl, hB⟩
theorem cmpstr (a b : Str) (w : World) : Ret Tryz.prog 124 #[S a, S b] w fun v w' => v = .int .i64 (Lib.compareBytes a b) ∧ Bel w w' := by
  refine ret_of_W Tryz.func124 rfl (Nat.le_of_ble_eq_true rfl) (res1 rfl) ?_
  have hB := Gr.refl (fun _ => False) w
  refine W.seq ?_
  refine W.region ?_
  refine L.val (x_as (v := .int _ _) rfl) rfl ?_
  refine L.nil ?_
  refine thn_n ?_
  refine W.seq ?_
  refine W.region ?_
  refine L.val (x_mv (v := S _) rfl) rfl ?_
  refine L.val (x_mv (v := S _) rfl) rfl ?_
  refine L.ret (x_call ksortf_en159 rfl) rfl (cmpstr0 a b _) ?_
  rintro _ w7 ⟨rfl, hw⟩
  have hB := hB.carry hw
  refine L.val (x_as (v := .int _ _) rfl) rfl ?_
  refine L.nil ?_
  refine thn_n ?_
  refine W.ret (fin_mk (.inr rfl) ?_)
  exact ⟨rfl, hB⟩
theorem cb_lt : ∀ (a b : Str), decide (Lib.compareBytes a b < 0) = ltStr a b
  | [], [] => by simp [Lib.compareBytes, ltStr]
  | [], _ :: _ => by simp [Lib.compareBytes, ltStr]
  | _ :: _, [] => by simp [Lib.compareBytes, ltStr]
  | x :: a, y :: b => by
    have ih := cb_lt a b
    unfold ltStr at ih ⊢
    unfold Lib.compareBytes
    by_cases h1 : x < y
    · simp [h1, List.cons_lt_cons_iff]
    · by_cases h2 : y < x
      · have hne : x ≠ y := fun e => by subst e; exact h1 h2
        simp [h1, h2, List.cons_lt_cons_iff, hne]
      · have he : x = y := UInt8.le_antisymm (UInt8.not_lt.1 h2) (UInt8.not_lt.1 h1)
        subst he
        simp only [h1, if_false, List.cons_lt_cons_iff, false_or, true_and]
        exact ih
theorem clos_ok (A : Nat → Prop) (p i j : Nat) (x0 x1 x2 vn vp : Value) (ns : List Str) (w : World) (hb : Box w p 25 [x0, x1, x2, vn, vp]) (hn : StrsAt A w vn ns) (hi : i < ns.length) (hj : j < ns.length) :
    Ret Tryz.prog 123 #[.int .i64 (i : Nat), .int .i64 (j : Nat), .pointer (some ⟨p, 0, none⟩)] w fun v w' => v = .int .i64 (Lib.compareBytes (ns.getD i []) (ns.getD j [])) ∧ Bel w w' := by
  obtain ⟨pn, cap, rfl, -⟩ := id hn
  obtain ⟨b, o, rfl, -⟩ := hn.elem hi
  refine ret_of_W Tryz.func123 rfl (Nat.le_of_ble_eq_true rfl) (res1 rfl) ?_
  have hB := Gr.refl (fun _ => False) w
  refine W.seq ?_
  refine W.region ?_
  refine L.val (x_as (v := .int _ _) rfl) rfl ?_
  refine L.nil ?_
  refine thn_n ?_
  refine W.seq ?_
  refine W.drawB ksortf_mixed (by kernel_rfl) ?_
  refine LQ.val (fun w hw => x_fa ksortf_fo25_3 rfl) rfl ?_
  refine LQ.val (fun w hw => x_ld (v := .slice _ _ _) ksortf_oc22 rfl (hw.keep (hb.cell0 rfl))) rfl ?_
  refine LQ.val (fun w hw => x_mv (v := .int _ _) rfl) rfl ?_
  refine LQ.val (fun w hw => x_ia1 (j := i) Tryz.underlying22 ksortf_sz9 rfl rfl (by omega) (by omega)) rfl ?_
  refine LQ.val (fun w hw => x_ld (v := S _) ksortf_oc9 rfl (hw.keep (hn.elemAt hi))) rfl ?_
  refine LQ.val (fun w hw => x_fa ksortf_fo25_3 rfl) rfl ?_
  refine LQ.val (fun w hw => x_ld (v := .slice _ _ _) ksortf_oc22 rfl (hw.keep (hb.cell0 rfl))) rfl ?_
  refine LQ.val (fun w hw => x_mv (v := .int _ _) rfl) rfl ?_
  refine LQ.val (fun w hw => x_ia1 (j := j) Tryz.underlying22 ksortf_sz9 rfl rfl (by omega) (by omega)) rfl ?_
  refine LQ.val (fun w hw => x_ld (v := S _) ksortf_oc9 rfl (hw.keep (hn.elemAt hj))) rfl ?_
  refine LQ.ret (fun w => x_call ksortf_en124 rfl) (fun w hw => Ret.mono (cmpstr _ _ _) (fun _ _ h => ⟨h.1, Gr.trans hw h.2⟩)) rfl ?_
  refine LQ.val (fun w hw => x_as (v := .int _ _) rfl) rfl ?_
  refine LQ.nil ?_
  intro w6 hw
  have hB := hB.carry hw
  refine thn_n ?_
  refine W.ret (fin_mk (.inr rfl) ?_)
  exact ⟨rfl, hB⟩
abbrev encF (m : Nat) : Fin (m + 1) → Value := fun x => .int .i64 ((x.val : Nat) : Int)
def cfF (ns : List Str) (m : Nat) : Fin (m + 1) → Fin (m + 1) → Int := fun x y => Lib.compareBytes (ns.getD x.val []) (ns.getD y.val [])
theorem swo_F (ns : List Str) (m : Nat) : SWO (ltc (cfF ns m)) where
  irrefl x := by show decide (Lib.compareBytes _ _ < 0) = _; rw [cb_lt]; exact swo_ltStr.irrefl _
  trans x y z h1 h2 := by
    have h1 : decide (Lib.compareBytes _ _ < 0) = true := h1
    have h2 : decide (Lib.compareBytes _ _ < 0) = true := h2
    show decide (Lib.compareBytes _ _ < 0) = _
    rw [cb_lt] at h1 h2 ⊢; exact swo_ltStr.trans _ _ _ h1 h2
  ntrans x y z h1 h2 := by
    have h1 : decide (Lib.compareBytes _ _ < 0) = false := h1
    have h2 : decide (Lib.compareBytes _ _ < 0) = false := h2
    show decide (Lib.compareBytes _ _ < 0) = _
    rw [cb_lt] at h1 h2 ⊢; exact swo_ltStr.ntrans _ _ _ h1 h2
theorem sortfunc_ok {α : Type} [Inhabited α] {enc : α → Value} {gF : Nat} {cp : List Value} {cf : α → α → Int} {N0 : Nat} (eg : Enters Tryz.prog gF) (he1 : ∀ x, (enc x).oneCell' = true) (hS : SWO (ltc cf))
    (b o cap n : Nat) (T : TypeId) (hd tl : List Value) (d : Array α) (w : World) (hC : Cmp Tryz.prog enc gF cp cf b N0 w) (hR : Row enc w b o T hd d tl) (hn : d.size = n) (h1 : 1 ≤ n) (hc : n ≤ 2000000000000000000) :
    Ret Tryz.prog 122 #[.slice (some ⟨b, o, none⟩) n cap, .func (.func gF) #[] cp.toArray] w fun v w' => v = .tuple #[] ∧ Gr (· = b) w w' ∧ ∃ d', Row enc w' b o T hd d' tl ∧ PermIn 0 n d d' ∧ SortedIn (ltc cf) 0 n d' := by
  refine ret_of_W Tryz.func122 rfl (Nat.le_of_ble_eq_true rfl) (res0 rfl) ?_
  have hB := Gr.refl (fun _ => False) w
  refine W.seq ?_
  refine W.region ?_
  refine L.val (x_mv (v := .slice _ _ _) rfl) rfl ?_
  refine L.val (x_len_slice Tryz.underlying106 rfl) rfl ?_
  refine L.val (x_as (v := .int _ _) rfl) rfl ?_
  refine L.nil ?_
  refine thn_n ?_
  refine W.region ?_
  refine L.val (x_mv (v := .slice _ _ _) rfl) rfl ?_
  refine L.val (x_mv (v := .int _ _) rfl) rfl ?_
  refine L.val (x_mv (v := .int _ _) rfl) rfl ?_
  refine L.val (x_conv (k' := .u64) (by rw [Tryz.underlying3]; rfl) Tryz.underlying111 rfl (wru64 (by omega))) rfl ?_
  refine L.ret (x_call ksortf_en158 rfl) rfl (len_ok n _ h1 (by omega)) ?_
  rintro _ w11 ⟨k, rfl, k1, k2, k3, k4, hw⟩
  have hB := hB.carry hw; have hR := hR.carry hw
  refine L.val (x_mv (v := .func _ _ _) rfl) rfl ?_
  refine L.ret (x_call ksortf_en157 rfl) rfl (pdq_okC eg he1 b o cap n T hd tl hc hS (n + 1) 0 n k d _ (hC.mvB hB) (by omega) hR hn (by omega) (Nat.le_refl _) (by omega) (.inl rfl)) ?_
  rintro _ w13 ⟨rfl, hg, d', hR', p1, p2⟩
  refine L.nil ?_
  refine fin_mk (.inl rfl) ?_
  exact ⟨rfl, (hB.mono fun _ _ h => h.elim).trans hg, d', hR', p1, p2⟩
end Go.Gx
