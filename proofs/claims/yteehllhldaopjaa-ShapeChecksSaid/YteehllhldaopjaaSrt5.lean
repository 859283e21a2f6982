/- The library's sort of strings: the recursion, the whole: a sorted permutation. Conditions: none. -/
import Derived.Test.YteehllhldaopjaaSrt4
namespace Go.Gx
open Go.Proofs Go.Sort
theorem ksrt5_en164 : Go.Proofs.Enters Try.prog 164 := Go.Proofs.enters_of Try.func164 (by kernel_rfl) rfl
theorem ksrt5_en177 : Go.Proofs.Enters Try.prog 177 := Go.Proofs.enters_of Try.func177 (by kernel_rfl) rfl
theorem ksrt5_en178 : Go.Proofs.Enters Try.prog 178 := Go.Proofs.enters_of Try.func178 (by kernel_rfl) rfl
theorem ksrt5_en179 : Go.Proofs.Enters Try.prog 179 := Go.Proofs.enters_of Try.func179 (by kernel_rfl) rfl
theorem ksrt5_en180 : Go.Proofs.Enters Try.prog 180 := Go.Proofs.enters_of Try.func180 (by kernel_rfl) rfl
theorem ksrt5_en181 : Go.Proofs.Enters Try.prog 181 := Go.Proofs.enters_of Try.func181 (by kernel_rfl) rfl
theorem ksrt5_en182 : Go.Proofs.Enters Try.prog 182 := Go.Proofs.enters_of Try.func182 (by kernel_rfl) rfl
theorem ksrt5_en183 : Go.Proofs.Enters Try.prog 183 := Go.Proofs.enters_of Try.func183 (by kernel_rfl) rfl
theorem ksrt5_en184 : Go.Proofs.Enters Try.prog 184 := Go.Proofs.enters_of Try.func184 (by kernel_rfl) rfl
theorem ksrt5_en185 : Go.Proofs.Enters Try.prog 185 := Go.Proofs.enters_of Try.func185 (by kernel_rfl) rfl
theorem ksrt5_mixed : Try.prog.follows .mixedOrders = true := by kernel_rfl
theorem ksrt5_oc9 : oneCellT Try.prog 9 = true := by kernel_rfl
theorem ksrt5_sz9 : (Try.prog.info? 9).map (·.size) = some 1 := by kernel_rfl

theorem part_ok2 (b o a e q cap n : Nat) (T : TypeId) (hd tl : List Value) (d : Array Str) (w : World) (hR : Row S w b o T hd d tl) (hn : d.size = n) (hc : n ≤ 2000000000000000000) (haq : a ≤ q) (hqe : q < e) (he : e ≤ n) :
    Ret Try.prog 185 #[.slice (some ⟨b, o, none⟩) n cap, .int .i64 a, .int .i64 e, .int .i64 q] w fun v w' => ∃ mid ap g, partition ltStr d a e q = (mid, ap, g) ∧ v = .tuple #[.int .i64 (mid : Nat), .bool ap] ∧ Gr (· = b) w w' ∧ Row S w' b o T hd g tl :=
  (partition_ok b o a e q cap n T hd tl d w hR hn hc haq hqe he).mono fun _ _ ⟨h1, h2, h3⟩ => ⟨_, _, _, rfl, h1, h2, h3⟩
theorem parteq_ok2 (b o a e q cap n : Nat) (T : TypeId) (hd tl : List Value) (d : Array Str) (w : World) (hR : Row S w b o T hd d tl) (hn : d.size = n) (hc : n ≤ 2000000000000000000) (haq : a ≤ q) (hqe : q < e) (he : e ≤ n) :
    Ret Try.prog 184 #[.slice (some ⟨b, o, none⟩) n cap, .int .i64 a, .int .i64 e, .int .i64 q] w fun v w' => ∃ mid g, partitionEqual ltStr d a e q = (mid, g) ∧ v = .int .i64 (mid : Nat) ∧ Gr (· = b) w w' ∧ Row S w' b o T hd g tl :=
  (parteq_ok b o a e q cap n T hd tl d w hR hn hc haq hqe he).mono fun _ _ ⟨h1, h2, h3⟩ => ⟨_, _, rfl, h1, h2, h3⟩

/-- What the loop keeps: the row holds c; whatever sorts the part that is left sorts the whole. -/
structure PS {α : Type} [Inhabited α] (lt : α → α → Bool) (enc : α → Value) (b o n : Nat) (T : TypeId) (hd tl : List Value) (a e : Nat) (d : Array α) (w0 : World) (a1 z1 : Nat) (c : Array α) (w : World) : Prop where
  gr : Gr (· = b) w0 w
  row : Row enc w b o T hd c tl
  size : c.size = n
  lo : a ≤ a1
  mid : a1 ≤ z1
  hi : z1 ≤ e
  below : Go.Sort.Below lt a1 z1 c
  fin : ∀ c', PermIn a1 z1 c c' → SortedIn lt a1 z1 c' → PermIn a e d c' ∧ SortedIn lt a e c'
section
variable {α : Type} [Inhabited α] {lt : α → α → Bool} {enc : α → Value} {b o n : Nat} {T : TypeId} {hd tl : List Value} {a e : Nat} {d : Array α} {w0 : World} {a1 z1 : Nat} {c : Array α} {w : World}
theorem PS.carry {w' : World} (h : PS lt enc b o n T hd tl a e d w0 a1 z1 c w) (g : Bel w w') : PS lt enc b o n T hd tl a e d w0 a1 z1 c w' :=
  ⟨h.gr.carry g, h.row.carry g, h.size, h.lo, h.mid, h.hi, h.below, h.fin⟩
theorem PS.perm {w' : World} {g : Array α} (h : PS lt enc b o n T hd tl a e d w0 a1 z1 c w) (he : e ≤ n) (hg : Gr (· = b) w w') (hR : Row enc w' b o T hd g tl) (hP : PermIn a1 z1 c g) : PS lt enc b o n T hd tl a e d w0 a1 z1 g w' :=
  have hi := h.hi
  have hs := h.size
  ⟨h.gr.trans hg, hR, hP.1.trans h.size, h.lo, h.mid, h.hi, h.below.perm (by omega) hP, fun c' h1 h2 => h.fin c' (permIn_trans _ _ _ _ _ hP h1) h2⟩
end

theorem pdq_ok (b o cap n : Nat) (T : TypeId) (hd tl : List Value) (hc : n ≤ 2000000000000000000) : ∀ (N a e l : Nat) (d : Array Str) (w : World), e - a < N → Row S w b o T hd d tl → d.size = n → a ≤ e → e ≤ n → l ≤ 2000000000000000000 → Go.Sort.Below ltStr a e d →
    Ret Try.prog 164 #[.slice (some ⟨b, o, none⟩) n cap, .int .i64 a, .int .i64 e, .int .i64 l] w fun v w' => v = .tuple #[] ∧ Gr (· = b) w w' ∧ ∃ d', Row S w' b o T hd d' tl ∧ PermIn a e d d' ∧ SortedIn ltStr a e d' := by
  intro N
  induction N with
  | zero => intro a e l d w h; omega
  | succ N ih =>
    intro a e l0 d w hN hR hn hae he hl0 hBl
    refine ret_of_W Try.func164 rfl (Nat.le_of_ble_eq_true rfl) (res0 rfl) ?_
    have hps : PS ltStr S b o n T hd tl a e d w a e d w := ⟨Gr.refl _ _, hR, hn, Nat.le_refl _, hae, Nat.le_refl _, hBl, fun c' h1 h2 => ⟨h1, h2⟩⟩
    refine W.seq ?_
    refine W.region ?_
    refine L.val (x_as (v := .bool _) rfl) rfl ?_
    refine L.nil ?_
    refine thn_n ?_
    refine W.seq ?_
    refine W.region ?_
    refine L.val (x_as (v := .bool _) rfl) rfl ?_
    refine L.nil ?_
    refine thn_n ?_
    refine W.block ?_
    refine W.loop (fun m' E w' => ∃ (a1 z1 l : Nat) (wb wp : Bool) (c : Array Str), m' = z1 - a1 ∧ E 0 = .slice (some ⟨b, o, none⟩) n cap ∧ E 1 = .int .i64 (a1 : Nat) ∧ E 2 = .int .i64 (z1 : Nat) ∧ E 3 = .int .i64 (l : Nat) ∧ E 8 = .bool wb ∧ E 9 = .bool wp ∧ (l ≤ 2000000000000000000) ∧ (PS ltStr S b o n T hd tl a e d w a1 z1 c w')) (e - a) ?_ ?_
    ·exact ⟨a, e, l0, true, true, d, by omega, by first | rfl | exact vi (by omega) | exact vs (by first | assumption | (rw [hst]; done) | (rw [hst]; simp only [List.append_assoc])), by first | rfl | exact vi (by omega) | exact vs (by first | assumption | (rw [hst]; done) | (rw [hst]; simp only [List.append_assoc])), by first | rfl | exact vi (by omega) | exact vs (by first | assumption | (rw [hst]; done) | (rw [hst]; simp only [List.append_assoc])), by first | rfl | exact vi (by omega) | exact vs (by first | assumption | (rw [hst]; done) | (rw [hst]; simp only [List.append_assoc])), by first | rfl | exact vi (by omega) | exact vs (by first | assumption | (rw [hst]; done) | (rw [hst]; simp only [List.append_assoc])), by first | rfl | exact vi (by omega) | exact vs (by first | assumption | (rw [hst]; done) | (rw [hst]; simp only [List.append_assoc])), (by first | assumption | omega | rfl), (by first | assumption | omega | rfl)⟩
    ·rintro _ E wL19 ⟨a1, z1, l, wb, wp, c, em, e0, e1, e2, e3, e8, e9, hl, hps⟩
     rw [upd_self e0, upd_self e1, upd_self e2, upd_self e3, upd_self e8, upd_self e9]
     refine W.block ?_
     refine W.seq ?_
     refine W.region ?_
     have q1 := hps.lo
     have q2 := hps.mid
     have q3 := hps.hi
     have q4 := hps.size
     refine L.val (x_mv (v := .int _ _) rfl) rfl ?_
     refine L.val (x_mv (v := .int _ _) rfl) rfl ?_
     refine L.val (x_sub rfl rfl (wr64 (by omega))) rfl ?_
     refine L.val (x_as (v := .int _ _) rfl) rfl ?_
     refine L.nil ?_
     refine thn_n ?_
     refine W.seq ?_
     refine W.seq ?_
     refine W.region ?_
     refine L.val (x_mv (v := .int _ _) rfl) rfl ?_
     refine L.val (x_leq rfl rfl) rfl ?_
     refine L.nil ?_
     refine thn_n ?_
     refine W.cond (b := _) rfl (fun g23 => ?_) (fun g23 => ?_)
     ·have h23 := of_decide_eq_true g23
      refine W.seq ?_
      refine W.region ?_
      refine L.val (x_mv (v := .slice _ _ _) rfl) rfl ?_
      refine L.val (x_mv (v := .int _ _) rfl) rfl ?_
      refine L.val (x_mv (v := .int _ _) rfl) rfl ?_
      refine L.ret (x_call ksrt5_en177 rfl) rfl (insertion_ok b o a1 z1 cap n T hd tl c _ hps.row hps.size (by omega) hps.mid (by omega)) ?_
      rintro _ w27 ⟨rfl, hg, hR⟩
      refine L.nil ?_
      refine thn_n ?_
      refine W.ret (thn_r (blk_r (thn_r (blk_r (fin_mk (.inr rfl) ?_)))))
      obtain ⟨h1, h2⟩ := insertionSort_holds swo_ltStr c a1 z1 hps.mid (by omega)
      exact ⟨rfl, hps.gr.trans hg, _, hR, hps.fin _ h1 h2⟩
     ·have h23 := dle_f g23
      refine W.skip ?_
      refine thn_n ?_
      refine W.seq ?_
      refine W.seq ?_
      refine W.region ?_
      refine L.val (x_mv (v := .int _ _) rfl) rfl ?_
      refine L.val (x_eql rfl rfl) rfl ?_
      refine L.nil ?_
      refine thn_n ?_
      refine W.cond (b := _) rfl (fun g29 => ?_) (fun g29 => ?_)
      ·have h29 := of_decide_eq_true g29
       refine W.seq ?_
       refine W.region ?_
       refine L.val (x_mv (v := .slice _ _ _) rfl) rfl ?_
       refine L.val (x_mv (v := .int _ _) rfl) rfl ?_
       refine L.val (x_mv (v := .int _ _) rfl) rfl ?_
       refine L.ret (x_call ksrt5_en178 rfl) rfl (heap_ok b o a1 z1 cap n T hd tl c _ hps.row hps.size hc (by omega) (by omega)) ?_
       rintro _ w33 ⟨rfl, hg, hR⟩
       refine L.nil ?_
       refine thn_n ?_
       refine W.ret (thn_r (blk_r (thn_r (blk_r (fin_mk (.inr rfl) ?_)))))
       obtain ⟨h1, h2⟩ := heapSort_holds swo_ltStr c a1 z1 hps.mid (by omega)
       exact ⟨rfl, hps.gr.trans hg, _, hR, hps.fin _ h1 h2⟩
      ·have h29 := of_decide_eq_false g29
       refine W.skip ?_
       refine thn_n ?_
       refine W.cut (fun D' E' w' => D' = [] ∧ ∃ (l : Nat) (c : Array Str), E' 0 = .slice (some ⟨b, o, none⟩) n cap ∧ E' 1 = .int .i64 (a1 : Nat) ∧ E' 2 = .int .i64 (z1 : Nat) ∧ E' 3 = .int .i64 (l : Nat) ∧ E' 8 = .bool wb ∧ E' 9 = .bool wp ∧ E' 10 = .int .i64 ((z1 : Nat) - (a1 : Nat)) ∧ l ≤ 2000000000000000000 ∧ PS ltStr S b o n T hd tl a e d w a1 z1 c w') ?_ ?_
       ·refine W.seq ?_
        refine W.region ?_
        refine L.val (x_mv (v := .bool _) rfl) rfl ?_
        refine L.val (x_not rfl) rfl ?_
        refine L.nil ?_
        refine thn_n ?_
        refine W.cond (b := _) rfl (fun g35 => ?_) (fun g35 => ?_)
        ·have h35 := (not_t g35)
         refine W.seq ?_
         refine W.region ?_
         refine L.val (x_mv (v := .slice _ _ _) rfl) rfl ?_
         refine L.val (x_mv (v := .int _ _) rfl) rfl ?_
         refine L.val (x_mv (v := .int _ _) rfl) rfl ?_
         refine L.ret (x_call ksrt5_en179 rfl) rfl (break_ok b o a1 z1 cap n T hd tl c _ hps.row hps.size hc (by omega) (by omega)) ?_
         rintro _ w39 ⟨rfl, hg, c1, hR, hP⟩
         have hps := hps.perm he hg hR hP
         refine L.nil ?_
         refine thn_n ?_
         refine W.region ?_
         refine L.val (x_mv (v := .int _ _) rfl) rfl ?_
         refine L.val (x_sub rfl rfl (wr64 (by omega))) rfl ?_
         refine L.val (x_as (v := .int _ _) rfl) rfl ?_
         refine L.nil ?_
         refine thn_n ?_
         first
           | exact ⟨rfl, l, c, rfl, rfl, rfl, rfl, rfl, rfl, rfl, hl, hps⟩
           | exact ⟨rfl, l - 1, c1, rfl, rfl, rfl, vi (by omega), rfl, rfl, rfl, by omega, hps⟩
        ·have h35 := (not_f g35)
         refine W.skip ?_
         refine thn_n ?_
         first
           | exact ⟨rfl, l, c, rfl, rfl, rfl, rfl, rfl, rfl, rfl, hl, hps⟩
           | exact ⟨rfl, l - 1, c1, rfl, rfl, rfl, vi (by omega), rfl, rfl, rfl, by omega, hps⟩
       ·rintro D E w43 ⟨rfl, l, c, e0, y1q, e2, e3, e8, e9, e10, hl, hps⟩
        rw [upd_self e0, upd_self y1q, upd_self e2, upd_self e3, upd_self e8, upd_self e9, upd_self e10]
        have q4 := hps.size
        refine W.seq ?_
        refine W.region ?_
        refine L.val (x_mv (v := .slice _ _ _) rfl) rfl ?_
        refine L.val (x_mv (v := .int _ _) rfl) rfl ?_
        refine L.val (x_mv (v := .int _ _) rfl) rfl ?_
        refine L.ret (x_call ksrt5_en180 rfl) rfl (pivot_ok b o a1 z1 cap n T hd tl c _ hps.row hps.size hc (by omega) (by omega)) ?_
        rintro _ w46 ⟨pv, ht, rfl, v1, v2, hw⟩
        have hps := hps.carry hw
        refine L.val (x_mv (v := _) rfl) rfl ?_
        refine L.val (x_ext (v := .int _ _) rfl rfl) rfl ?_
        refine L.val (x_ext (v := .int _ _) rfl rfl) rfl ?_
        refine L.val (x_as (v := .int _ _) rfl) rfl ?_
        refine L.val (x_as (v := .int _ _) rfl) rfl ?_
        refine L.nil ?_
        refine thn_n ?_
        refine W.cut (fun D' E' w' => D' = [] ∧ ∃ (pv ht : Nat) (c : Array Str), E' 0 = .slice (some ⟨b, o, none⟩) n cap ∧ E' 1 = .int .i64 (a1 : Nat) ∧ E' 2 = .int .i64 (z1 : Nat) ∧ E' 3 = .int .i64 (l : Nat) ∧ E' 8 = .bool wb ∧ E' 9 = .bool wp ∧ E' 10 = .int .i64 ((z1 : Nat) - (a1 : Nat)) ∧ E' 11 = .int .i64 (pv : Nat) ∧ E' 12 = .int .i64 (ht : Nat) ∧ a1 ≤ pv ∧ pv < z1 ∧ PS ltStr S b o n T hd tl a e d w a1 z1 c w') ?_ ?_
        ·refine W.seq ?_
         refine W.region ?_
         refine L.val (x_mv (v := .int _ _) rfl) rfl ?_
         refine L.val (x_eql rfl rfl) rfl ?_
         refine L.nil ?_
         refine thn_n ?_
         refine W.cond (b := _) rfl (fun g50 => ?_) (fun g50 => ?_)
         ·have h50 := of_decide_eq_true g50
          refine W.seq ?_
          refine W.region ?_
          refine L.val (x_mv (v := .slice _ _ _) rfl) rfl ?_
          refine L.val (x_mv (v := .int _ _) rfl) rfl ?_
          refine L.val (x_mv (v := .int _ _) rfl) rfl ?_
          refine L.ret (x_call ksrt5_en181 rfl) rfl (reverse_ok b o a1 z1 cap n T hd tl c _ hps.row hps.size (by omega) (by omega) (by omega)) ?_
          rintro _ w54 ⟨rfl, hg, hR⟩
          have hps := hps.perm he hg hR (reverseRange_holds c a1 z1 (by omega) (by omega))
          refine L.nil ?_
          refine thn_n ?_
          refine W.seq ?_
          refine W.region ?_
          refine L.val (x_mv (v := .int _ _) rfl) rfl ?_
          refine L.val (x_sub rfl rfl (wr64 (by omega))) rfl ?_
          refine L.val (x_mv (v := .int _ _) rfl) rfl ?_
          refine L.val (x_mv (v := .int _ _) rfl) rfl ?_
          refine L.val (x_sub rfl rfl (wr64 (by omega))) rfl ?_
          refine L.val (x_sub rfl rfl (wr64 (by omega))) rfl ?_
          refine L.val (x_as (v := .int _ _) rfl) rfl ?_
          refine L.nil ?_
          refine thn_n ?_
          refine W.region ?_
          refine L.val (x_as (v := .int _ _) rfl) rfl ?_
          refine L.nil ?_
          refine thn_n ?_
          first
            | exact ⟨rfl, pv, ht, c, rfl, rfl, rfl, rfl, rfl, rfl, rfl, rfl, rfl, v1, v2, hps⟩
            | exact ⟨rfl, (z1 - 1) - (pv - a1), 1, _, rfl, rfl, rfl, rfl, rfl, rfl, rfl, vi (by omega), rfl, by omega, by omega, hps⟩
         ·have h50 := of_decide_eq_false g50
          refine W.skip ?_
          refine thn_n ?_
          first
            | exact ⟨rfl, pv, ht, c, rfl, rfl, rfl, rfl, rfl, rfl, rfl, rfl, rfl, v1, v2, hps⟩
            | exact ⟨rfl, (z1 - 1) - (pv - a1), 1, _, rfl, rfl, rfl, rfl, rfl, rfl, rfl, vi (by omega), rfl, by omega, by omega, hps⟩
        ·rintro D E w61 ⟨rfl, pv, ht, c, e0, y1q, e2, e3, e8, e9, e10, e11, e12, v1, v2, hps⟩
         rw [upd_self e0, upd_self y1q, upd_self e2, upd_self e3, upd_self e8, upd_self e9, upd_self e10, upd_self e11, upd_self e12]
         have q4 := hps.size
         refine W.cut (fun D' E' w' => D' = [] ∧ ∃ (c : Array Str), E' 0 = .slice (some ⟨b, o, none⟩) n cap ∧ E' 1 = .int .i64 (a1 : Nat) ∧ E' 2 = .int .i64 (z1 : Nat) ∧ E' 3 = .int .i64 (l : Nat) ∧ E' 8 = .bool wb ∧ E' 9 = .bool wp ∧ E' 10 = .int .i64 ((z1 : Nat) - (a1 : Nat)) ∧ E' 11 = .int .i64 (pv : Nat) ∧ PS ltStr S b o n T hd tl a e d w a1 z1 c w') ?_ ?_
         ·refine W.seq ?_
          refine W.region ?_
          refine L.val (x_mv (v := .bool _) rfl) rfl ?_
          refine L.val (x_mv (v := .bool _) rfl) rfl ?_
          refine' L.group0 1 63 63 63 62 true rfl ?_ ?_ ?_
          rotate_left 1
          ·intro g62
           have h62 := g62
           refine L.gyes' (dj := 62) (b := _) rfl rfl g62 ?_
           refine L.val (x_mv (v := .bool _) rfl) rfl ?_
           refine L.nil ?_
           refine thn_n ⟨rfl, rfl, ?_, rfl⟩
           repeat (first | exact jeq.refl _ _ _ | refine jeq.upd rfl ?_ | refine jeq.jk rfl rfl ?_)
          ·intro g62
           refine L.gno (dj := 62) (b := _) rfl rfl g62 rfl ?_
           refine L.nil (thn_n ⟨rfl, rfl, ?_⟩)
           repeat (first | exact jeq.refl _ _ _ | refine jeq.upd rfl ?_ | refine jeq.jk rfl rfl ?_)
          intro J62 j62
          refine L.val (x_and rfl j62) rfl ?_
          refine L.val (x_mv (v := .bool _) rfl) rfl ?_
          refine' L.group0 2 66 67 67 65 true rfl ?_ ?_ ?_
          rotate_left 1
          ·intro g65
           have h65 := g65
           refine L.gyes' (dj := 65) (b := _) rfl rfl g65 ?_
           refine L.val (x_mv (v := .int _ _) rfl) rfl ?_
           refine L.gyes' (dj := 65) (b := _) rfl rfl g65 ?_
           refine L.val (x_eql rfl rfl) rfl ?_
           refine L.nil ?_
           refine thn_n ⟨rfl, rfl, ?_, rfl⟩
           repeat (first | exact jeq.refl _ _ _ | refine jeq.upd rfl ?_ | refine jeq.jk rfl rfl ?_)
          ·intro g65
           refine L.gno (dj := 65) (b := _) rfl rfl g65 rfl ?_
           refine L.gno (dj := 65) (b := _) rfl rfl g65 rfl ?_
           refine L.nil (thn_n ⟨rfl, rfl, ?_⟩)
           repeat (first | exact jeq.refl _ _ _ | refine jeq.upd rfl ?_ | refine jeq.jk rfl rfl ?_)
          intro J65 j65
          refine L.val (x_and rfl j65) rfl ?_
          refine L.nil ?_
          refine thn_n ?_
          refine W.cond (b := _) rfl (fun g68 => ?_) (fun g68 => ?_)
          ·have h68 := g68
           refine W.seq ?_
           refine W.region ?_
           refine L.val (x_mv (v := .slice _ _ _) rfl) rfl ?_
           refine L.val (x_mv (v := .int _ _) rfl) rfl ?_
           refine L.val (x_mv (v := .int _ _) rfl) rfl ?_
           refine L.ret (x_call ksrt5_en182 rfl) rfl (partial_ok b o a1 z1 cap n T hd tl c _ hps.row hps.size hc (by omega) (by omega)) ?_
           rintro _ w72 ⟨rfl, hg, hR⟩
           obtain ⟨p1, p2⟩ := partialInsertionSort_holds swo_ltStr c a1 z1 (by omega) (by omega) hps.below
           have hps0 := hps
           have hps := hps.perm he hg hR p1
           refine L.nil ?_
           refine thn_n ?_
           refine W.cond (b := _) rfl (fun g72 => ?_) (fun g72 => ?_)
           ·have h72 := g72
            refine W.ret (thn_r (blk_r (thn_r (blk_r (fin_mk (.inr rfl) ?_)))))
            exact ⟨rfl, hps.gr, _, hps.row, hps0.fin _ p1 (p2 h72)⟩
           ·have h72 := g72
            refine W.skip ?_
            refine thn_n ?_
            first
              | exact ⟨rfl, c, rfl, rfl, rfl, rfl, rfl, rfl, rfl, rfl, hps⟩
              | exact ⟨rfl, _, rfl, rfl, rfl, rfl, rfl, rfl, rfl, rfl, hps⟩
          ·have h68 := g68
           refine W.skip ?_
           refine thn_n ?_
           first
             | exact ⟨rfl, c, rfl, rfl, rfl, rfl, rfl, rfl, rfl, rfl, hps⟩
             | exact ⟨rfl, _, rfl, rfl, rfl, rfl, rfl, rfl, rfl, rfl, hps⟩
         ·rintro D E w73 ⟨rfl, c, e0, y1q, e2, e3, e8, e9, e10, e11, hps⟩
          rw [upd_self e0, upd_self y1q, upd_self e2, upd_self e3, upd_self e8, upd_self e9, upd_self e10, upd_self e11]
          have q4 := hps.size
          refine W.seq ?_
          refine W.seq ?_
          refine W.drawB ksrt5_mixed (by kernel_rfl) ?_
          refine LQ.val (fun w hw => x_mv (v := .int _ _) rfl) rfl ?_
          refine LQ.val (fun w hw => x_gtr rfl rfl) rfl ?_
          refine LQ.val (fun w hw => x_mv (v := .bool _) rfl) rfl ?_
          refine' LQ.group 11 76 86 86 75 true rfl ?_ ?_ ?_
          rotate_left 1
          ·intro g75
           have h75 := of_decide_eq_true g75
           refine LQ.gyes' (dj := 75) (b := _) rfl rfl g75 ?_
           refine LQ.val (fun w hw => x_mv (v := .slice _ _ _) rfl) rfl ?_
           refine LQ.gyes' (dj := 75) (b := _) rfl rfl g75 ?_
           refine LQ.val (fun w hw => x_mv (v := .int _ _) rfl) rfl ?_
           refine LQ.gyes' (dj := 75) (b := _) rfl rfl g75 ?_
           refine LQ.val (fun w hw => x_sub rfl rfl (wr64 (by omega))) rfl ?_
           refine LQ.gyes' (dj := 75) (b := _) rfl rfl g75 ?_
           refine LQ.val (fun w hw => x_ia1 (j := a1 - 1) Try.underlying22 ksrt5_sz9 rfl rfl (by omega) (by omega)) rfl ?_
           refine LQ.gyes' (dj := 75) (b := _) rfl rfl g75 ?_
           refine LQ.val (fun w hw => x_ld (v := S _) ksrt5_oc9 rfl (hw.keep (hps.row.at (i := a1 - 1) (by omega)))) rfl ?_
           refine LQ.gyes' (dj := 75) (b := _) rfl rfl g75 ?_
           refine LQ.val (fun w hw => x_mv (v := .slice _ _ _) rfl) rfl ?_
           refine LQ.gyes' (dj := 75) (b := _) rfl rfl g75 ?_
           refine LQ.val (fun w hw => x_mv (v := .int _ _) rfl) rfl ?_
           refine LQ.gyes' (dj := 75) (b := _) rfl rfl g75 ?_
           refine LQ.val (fun w hw => x_ia1 (j := pv) Try.underlying22 ksrt5_sz9 rfl rfl (by omega) (by omega)) rfl ?_
           refine LQ.gyes' (dj := 75) (b := _) rfl rfl g75 ?_
           refine LQ.val (fun w hw => x_ld (v := S _) ksrt5_oc9 rfl (hw.keep (hps.row.at (i := pv) (by omega)))) rfl ?_
           refine LQ.gyes' (dj := 75) (b := _) rfl rfl g75 ?_
           refine LQ.ret (fun w => x_call ksrt5_en183 rfl) (fun w hw => Ret.mono (less_ok _ _ _) (fun _ _ h => ⟨h.1, Gr.trans hw h.2⟩)) rfl ?_
           refine LQ.gyes' (dj := 75) (b := _) rfl rfl g75 ?_
           refine LQ.val (fun w hw => x_not rfl) rfl ?_
           refine LQ.nil ?_
           refine ⟨?_, rfl⟩
           repeat (first | exact jeq.refl _ _ _ | refine jeq.upd rfl ?_ | refine jeq.jk rfl rfl ?_)
          ·intro g75
           refine LQ.gno (dj := 75) (b := _) rfl rfl g75 rfl ?_
           refine LQ.gno (dj := 75) (b := _) rfl rfl g75 rfl ?_
           refine LQ.gno (dj := 75) (b := _) rfl rfl g75 rfl ?_
           refine LQ.gno (dj := 75) (b := _) rfl rfl g75 rfl ?_
           refine LQ.gno (dj := 75) (b := _) rfl rfl g75 rfl ?_
           refine LQ.gno (dj := 75) (b := _) rfl rfl g75 rfl ?_
           refine LQ.gno (dj := 75) (b := _) rfl rfl g75 rfl ?_
           refine LQ.gno (dj := 75) (b := _) rfl rfl g75 rfl ?_
           refine LQ.gno (dj := 75) (b := _) rfl rfl g75 rfl ?_
           refine LQ.gno (dj := 75) (b := _) rfl rfl g75 rfl ?_
           refine LQ.gno (dj := 75) (b := _) rfl rfl g75 rfl ?_
           refine LQ.nil ?_
           repeat (first | exact jeq.refl _ _ _ | refine jeq.upd rfl ?_ | refine jeq.jk rfl rfl ?_)
          intro J75 j75
          refine LQ.val (fun w hw => x_and rfl j75) rfl ?_
          refine LQ.nil ?_
          intro w73 hw
          have hps := hps.carry hw
          refine thn_n ?_
          refine W.cond (b := _) rfl (fun g87 => ?_) (fun g87 => ?_)
          ·have h87 := g87
           refine W.seq ?_
           refine W.region ?_
           refine L.val (x_mv (v := .slice _ _ _) rfl) rfl ?_
           refine L.val (x_mv (v := .int _ _) rfl) rfl ?_
           refine L.val (x_mv (v := .int _ _) rfl) rfl ?_
           refine L.val (x_mv (v := .int _ _) rfl) rfl ?_
           refine L.ret (x_call ksrt5_en184 rfl) rfl (parteq_ok2 b o a1 z1 pv cap n T hd tl c _ hps.row hps.size hc v1 v2 (by omega)) ?_
           rintro _ w92 ⟨mid, g, hx, rfl, hg, hR⟩
           obtain ⟨r1, r2, r3, r4, r5⟩ := round_eq swo_ltStr (partitionEqual_holds _) (by have := and1 h87; omega) v1 v2 (by omega) hps.below (by have := and2 h87; simpa using this) hx
           have hps : PS ltStr S b o n T hd tl a e d w mid z1 g w92 := ⟨hps.gr.trans hg, hR, r3.trans hps.size, by omega, r2, hps.hi, r4, fun c' h1 h2 => hps.fin c' (r5 c' h1 h2).1 (r5 c' h1 h2).2⟩
           refine L.val (x_as (v := .int _ _) rfl) rfl ?_
           refine L.nil ?_
           refine thn_n ?_
           refine W.seq ?_
           refine W.region ?_
           refine L.val (x_mv (v := .int _ _) rfl) rfl ?_
           refine L.val (x_as (v := .int _ _) rfl) rfl ?_
           refine L.nil ?_
           refine thn_n ?_
           refine W.exit (thn_x (blk_hit ?_))
           refine thn_n ⟨rfl, ?_⟩
           first
             | (refine ⟨_, ?_, mid, z1, l, wb, wp, g, rfl, by first | rfl | exact vi (by omega) | exact vs (by first | assumption | (rw [hst]; done) | (rw [hst]; simp only [List.append_assoc])), by first | rfl | exact vi (by omega) | exact vs (by first | assumption | (rw [hst]; done) | (rw [hst]; simp only [List.append_assoc])), by first | rfl | exact vi (by omega) | exact vs (by first | assumption | (rw [hst]; done) | (rw [hst]; simp only [List.append_assoc])), by first | rfl | exact vi (by omega) | exact vs (by first | assumption | (rw [hst]; done) | (rw [hst]; simp only [List.append_assoc])), by first | rfl | exact vi (by omega) | exact vs (by first | assumption | (rw [hst]; done) | (rw [hst]; simp only [List.append_assoc])), by first | rfl | exact vi (by omega) | exact vs (by first | assumption | (rw [hst]; done) | (rw [hst]; simp only [List.append_assoc])), (by first | assumption | omega | rfl), (by first | assumption | omega | rfl)⟩; omega)
             | (refine ⟨_, ?_, mid + 1, z1, l, _, _, L1, rfl, by first | rfl | exact vi (by omega) | exact vs (by first | assumption | (rw [hst]; done) | (rw [hst]; simp only [List.append_assoc])), by first | rfl | exact vi (by omega) | exact vs (by first | assumption | (rw [hst]; done) | (rw [hst]; simp only [List.append_assoc])), by first | rfl | exact vi (by omega) | exact vs (by first | assumption | (rw [hst]; done) | (rw [hst]; simp only [List.append_assoc])), by first | rfl | exact vi (by omega) | exact vs (by first | assumption | (rw [hst]; done) | (rw [hst]; simp only [List.append_assoc])), by first | rfl | exact vi (by omega) | exact vs (by first | assumption | (rw [hst]; done) | (rw [hst]; simp only [List.append_assoc])), by first | rfl | exact vi (by omega) | exact vs (by first | assumption | (rw [hst]; done) | (rw [hst]; simp only [List.append_assoc])), (by first | assumption | omega | rfl), (by first | assumption | omega | rfl)⟩; omega)
             | (refine ⟨_, ?_, a1, mid, l, _, _, L1, rfl, by first | rfl | exact vi (by omega) | exact vs (by first | assumption | (rw [hst]; done) | (rw [hst]; simp only [List.append_assoc])), by first | rfl | exact vi (by omega) | exact vs (by first | assumption | (rw [hst]; done) | (rw [hst]; simp only [List.append_assoc])), by first | rfl | exact vi (by omega) | exact vs (by first | assumption | (rw [hst]; done) | (rw [hst]; simp only [List.append_assoc])), by first | rfl | exact vi (by omega) | exact vs (by first | assumption | (rw [hst]; done) | (rw [hst]; simp only [List.append_assoc])), by first | rfl | exact vi (by omega) | exact vs (by first | assumption | (rw [hst]; done) | (rw [hst]; simp only [List.append_assoc])), by first | rfl | exact vi (by omega) | exact vs (by first | assumption | (rw [hst]; done) | (rw [hst]; simp only [List.append_assoc])), (by first | assumption | omega | rfl), (by first | assumption | omega | rfl)⟩; omega)
          ·have h87 := g87
           refine W.skip ?_
           refine thn_n ?_
           refine W.seq ?_
           refine W.region ?_
           refine L.val (x_mv (v := .slice _ _ _) rfl) rfl ?_
           refine L.val (x_mv (v := .int _ _) rfl) rfl ?_
           refine L.val (x_mv (v := .int _ _) rfl) rfl ?_
           refine L.val (x_mv (v := .int _ _) rfl) rfl ?_
           refine L.ret (x_call ksrt5_en185 rfl) rfl (part_ok2 b o a1 z1 pv cap n T hd tl c _ hps.row hps.size hc v1 v2 (by omega)) ?_
           rintro _ w99 ⟨mid, ap, g, hx, rfl, hg, hR⟩
           obtain ⟨r1, r2, r3, rA, rB, rL, rR⟩ := round_part swo_ltStr (partition_holds _) v1 v2 (by omega) hps.below hx
           refine L.val (x_mv (v := _) rfl) rfl ?_
           refine L.val (x_ext (v := .int _ _) rfl rfl) rfl ?_
           refine L.val (x_ext (v := .bool _) rfl rfl) rfl ?_
           refine L.val (x_as (v := .int _ _) rfl) rfl ?_
           refine L.val (x_as (v := .bool _) rfl) rfl ?_
           refine L.nil ?_
           refine thn_n ?_
           refine W.seq ?_
           refine W.region ?_
           refine L.val (x_mv (v := .bool _) rfl) rfl ?_
           refine L.val (x_as (v := .bool _) rfl) rfl ?_
           refine L.nil ?_
           refine thn_n ?_
           refine W.seq ?_
           refine W.region ?_
           refine L.val (x_mv (v := .int _ _) rfl) rfl ?_
           refine L.val (x_mv (v := .int _ _) rfl) rfl ?_
           refine L.val (x_sub rfl rfl (wr64 (by omega))) rfl ?_
           refine L.val (x_mv (v := .int _ _) rfl) rfl ?_
           refine L.val (x_mv (v := .int _ _) rfl) rfl ?_
           refine L.val (x_sub rfl rfl (wr64 (by omega))) rfl ?_
           refine L.val (x_as (v := .int _ _) rfl) rfl ?_
           refine L.val (x_as (v := .int _ _) rfl) rfl ?_
           refine L.nil ?_
           refine thn_n ?_
           refine W.seq ?_
           refine W.region ?_
           refine L.val (x_mv (v := .int _ _) rfl) rfl ?_
           refine L.val (x_quo rfl rfl (by decide) (wq64 (by omega) (by decide))) rfl ?_
           refine L.val (x_as (v := .int _ _) rfl) rfl ?_
           refine L.nil ?_
           refine thn_n ?_
           refine W.seq ?_
           refine W.region ?_
           refine L.val (x_mv (v := .int _ _) rfl) rfl ?_
           refine L.val (x_mv (v := .int _ _) rfl) rfl ?_
           refine L.val (x_lss rfl rfl) rfl ?_
           refine L.nil ?_
           refine thn_n ?_
           refine W.cond (b := _) rfl (fun g113 => ?_) (fun g113 => ?_)
           ·have h113 := of_decide_eq_true g113
            refine W.seq ?_
            refine W.region ?_
            refine L.val (x_mv (v := .int _ _) rfl) rfl ?_
            refine L.val (x_mv (v := .int _ _) rfl) rfl ?_
            refine L.val (x_geq rfl rfl) rfl ?_
            refine L.val (x_as (v := .bool _) rfl) rfl ?_
            refine L.nil ?_
            refine thn_n ?_
            refine W.seq ?_
            refine W.region ?_
            refine L.val (x_mv (v := .slice _ _ _) rfl) rfl ?_
            refine L.val (x_mv (v := .int _ _) rfl) rfl ?_
            refine L.val (x_mv (v := .int _ _) rfl) rfl ?_
            refine L.val (x_mv (v := .int _ _) rfl) rfl ?_
            refine L.ret (x_call ksrt5_en164 rfl) rfl (ih a1 mid l g _ (by omega) hR (r3.trans hps.size) r1 (by omega) hl rA) ?_
            rintro _ w121 ⟨rfl, hg2, L1, hRL, l1, l2⟩
            obtain ⟨hBL, hfin⟩ := rL L1 l1 l2
            have hps : PS ltStr S b o n T hd tl a e d w (mid + 1) z1 L1 w121 := ⟨(hps.gr.trans hg).trans hg2, hRL, l1.1.trans (r3.trans hps.size), by omega, by omega, hps.hi, hBL, fun c' h1 h2 => hps.fin c' (hfin c' h1 h2).1 (hfin c' h1 h2).2⟩
            refine L.nil ?_
            refine thn_n ?_
            refine W.region ?_
            refine L.val (x_mv (v := .int _ _) rfl) rfl ?_
            refine L.val (x_add rfl rfl (wr64 (by omega))) rfl ?_
            refine L.val (x_as (v := .int _ _) rfl) rfl ?_
            refine L.nil ?_
            refine blk_n ?_
            refine thn_n ⟨rfl, ?_⟩
            first
              | (refine ⟨_, ?_, mid, z1, l, wb, wp, g, rfl, by first | rfl | exact vi (by omega) | exact vs (by first | assumption | (rw [hst]; done) | (rw [hst]; simp only [List.append_assoc])), by first | rfl | exact vi (by omega) | exact vs (by first | assumption | (rw [hst]; done) | (rw [hst]; simp only [List.append_assoc])), by first | rfl | exact vi (by omega) | exact vs (by first | assumption | (rw [hst]; done) | (rw [hst]; simp only [List.append_assoc])), by first | rfl | exact vi (by omega) | exact vs (by first | assumption | (rw [hst]; done) | (rw [hst]; simp only [List.append_assoc])), by first | rfl | exact vi (by omega) | exact vs (by first | assumption | (rw [hst]; done) | (rw [hst]; simp only [List.append_assoc])), by first | rfl | exact vi (by omega) | exact vs (by first | assumption | (rw [hst]; done) | (rw [hst]; simp only [List.append_assoc])), (by first | assumption | omega | rfl), (by first | assumption | omega | rfl)⟩; omega)
              | (refine ⟨_, ?_, mid + 1, z1, l, _, _, L1, rfl, by first | rfl | exact vi (by omega) | exact vs (by first | assumption | (rw [hst]; done) | (rw [hst]; simp only [List.append_assoc])), by first | rfl | exact vi (by omega) | exact vs (by first | assumption | (rw [hst]; done) | (rw [hst]; simp only [List.append_assoc])), by first | rfl | exact vi (by omega) | exact vs (by first | assumption | (rw [hst]; done) | (rw [hst]; simp only [List.append_assoc])), by first | rfl | exact vi (by omega) | exact vs (by first | assumption | (rw [hst]; done) | (rw [hst]; simp only [List.append_assoc])), by first | rfl | exact vi (by omega) | exact vs (by first | assumption | (rw [hst]; done) | (rw [hst]; simp only [List.append_assoc])), by first | rfl | exact vi (by omega) | exact vs (by first | assumption | (rw [hst]; done) | (rw [hst]; simp only [List.append_assoc])), (by first | assumption | omega | rfl), (by first | assumption | omega | rfl)⟩; omega)
              | (refine ⟨_, ?_, a1, mid, l, _, _, L1, rfl, by first | rfl | exact vi (by omega) | exact vs (by first | assumption | (rw [hst]; done) | (rw [hst]; simp only [List.append_assoc])), by first | rfl | exact vi (by omega) | exact vs (by first | assumption | (rw [hst]; done) | (rw [hst]; simp only [List.append_assoc])), by first | rfl | exact vi (by omega) | exact vs (by first | assumption | (rw [hst]; done) | (rw [hst]; simp only [List.append_assoc])), by first | rfl | exact vi (by omega) | exact vs (by first | assumption | (rw [hst]; done) | (rw [hst]; simp only [List.append_assoc])), by first | rfl | exact vi (by omega) | exact vs (by first | assumption | (rw [hst]; done) | (rw [hst]; simp only [List.append_assoc])), by first | rfl | exact vi (by omega) | exact vs (by first | assumption | (rw [hst]; done) | (rw [hst]; simp only [List.append_assoc])), (by first | assumption | omega | rfl), (by first | assumption | omega | rfl)⟩; omega)
           ·have h113 := dlt_f g113
            refine W.seq ?_
            refine W.region ?_
            refine L.val (x_mv (v := .int _ _) rfl) rfl ?_
            refine L.val (x_mv (v := .int _ _) rfl) rfl ?_
            refine L.val (x_geq rfl rfl) rfl ?_
            refine L.val (x_as (v := .bool _) rfl) rfl ?_
            refine L.nil ?_
            refine thn_n ?_
            refine W.seq ?_
            refine W.region ?_
            refine L.val (x_mv (v := .slice _ _ _) rfl) rfl ?_
            refine L.val (x_mv (v := .int _ _) rfl) rfl ?_
            refine L.val (x_add rfl rfl (wr64 (by omega))) rfl ?_
            refine L.val (x_mv (v := .int _ _) rfl) rfl ?_
            refine L.val (x_mv (v := .int _ _) rfl) rfl ?_
            have hm1 : ((mid : Nat) : Int) + 1 = ((mid + 1 : Nat) : Int) := by omega
            rw [hm1]
            refine L.ret (x_call ksrt5_en164 rfl) rfl (ih (mid + 1) z1 l g _ (by omega) hR (r3.trans hps.size) (by omega) (by omega) hl rB) ?_
            rintro _ w132 ⟨rfl, hg2, L1, hRL, l1, l2⟩
            obtain ⟨hBL, hfin⟩ := rR L1 l1 l2
            have hps : PS ltStr S b o n T hd tl a e d w a1 mid L1 w132 := ⟨(hps.gr.trans hg).trans hg2, hRL, l1.1.trans (r3.trans hps.size), by omega, by omega, by omega, hBL, fun c' h1 h2 => hps.fin c' (hfin c' h1 h2).1 (hfin c' h1 h2).2⟩
            refine L.nil ?_
            refine thn_n ?_
            refine W.region ?_
            refine L.val (x_mv (v := .int _ _) rfl) rfl ?_
            refine L.val (x_as (v := .int _ _) rfl) rfl ?_
            refine L.nil ?_
            refine blk_n ?_
            refine thn_n ⟨rfl, ?_⟩
            first
              | (refine ⟨_, ?_, mid, z1, l, wb, wp, g, rfl, by first | rfl | exact vi (by omega) | exact vs (by first | assumption | (rw [hst]; done) | (rw [hst]; simp only [List.append_assoc])), by first | rfl | exact vi (by omega) | exact vs (by first | assumption | (rw [hst]; done) | (rw [hst]; simp only [List.append_assoc])), by first | rfl | exact vi (by omega) | exact vs (by first | assumption | (rw [hst]; done) | (rw [hst]; simp only [List.append_assoc])), by first | rfl | exact vi (by omega) | exact vs (by first | assumption | (rw [hst]; done) | (rw [hst]; simp only [List.append_assoc])), by first | rfl | exact vi (by omega) | exact vs (by first | assumption | (rw [hst]; done) | (rw [hst]; simp only [List.append_assoc])), by first | rfl | exact vi (by omega) | exact vs (by first | assumption | (rw [hst]; done) | (rw [hst]; simp only [List.append_assoc])), (by first | assumption | omega | rfl), (by first | assumption | omega | rfl)⟩; omega)
              | (refine ⟨_, ?_, mid + 1, z1, l, _, _, L1, rfl, by first | rfl | exact vi (by omega) | exact vs (by first | assumption | (rw [hst]; done) | (rw [hst]; simp only [List.append_assoc])), by first | rfl | exact vi (by omega) | exact vs (by first | assumption | (rw [hst]; done) | (rw [hst]; simp only [List.append_assoc])), by first | rfl | exact vi (by omega) | exact vs (by first | assumption | (rw [hst]; done) | (rw [hst]; simp only [List.append_assoc])), by first | rfl | exact vi (by omega) | exact vs (by first | assumption | (rw [hst]; done) | (rw [hst]; simp only [List.append_assoc])), by first | rfl | exact vi (by omega) | exact vs (by first | assumption | (rw [hst]; done) | (rw [hst]; simp only [List.append_assoc])), by first | rfl | exact vi (by omega) | exact vs (by first | assumption | (rw [hst]; done) | (rw [hst]; simp only [List.append_assoc])), (by first | assumption | omega | rfl), (by first | assumption | omega | rfl)⟩; omega)
              | (refine ⟨_, ?_, a1, mid, l, _, _, L1, rfl, by first | rfl | exact vi (by omega) | exact vs (by first | assumption | (rw [hst]; done) | (rw [hst]; simp only [List.append_assoc])), by first | rfl | exact vi (by omega) | exact vs (by first | assumption | (rw [hst]; done) | (rw [hst]; simp only [List.append_assoc])), by first | rfl | exact vi (by omega) | exact vs (by first | assumption | (rw [hst]; done) | (rw [hst]; simp only [List.append_assoc])), by first | rfl | exact vi (by omega) | exact vs (by first | assumption | (rw [hst]; done) | (rw [hst]; simp only [List.append_assoc])), by first | rfl | exact vi (by omega) | exact vs (by first | assumption | (rw [hst]; done) | (rw [hst]; simp only [List.append_assoc])), by first | rfl | exact vi (by omega) | exact vs (by first | assumption | (rw [hst]; done) | (rw [hst]; simp only [List.append_assoc])), (by first | assumption | omega | rfl), (by first | assumption | omega | rfl)⟩; omega)
end Go.Gx

