/- Names in a record or a sum: all well formed, none twice: sorted, made compact, counted. Conditions: none. -/
import Derived.Test.YteehllhldaopjaaGdColl
import Derived.Test.YteehllhldaopjaaGdSrtK
namespace Go.Gx
open Go.Proofs Go.Sort
theorem knamed_en139 : Go.Proofs.Enters Try.prog 139 := Go.Proofs.enters_of Try.func139 (by kernel_rfl) rfl
theorem knamed_en140 : Go.Proofs.Enters Try.prog 140 := Go.Proofs.enters_of Try.func140 (by kernel_rfl) rfl
theorem knamed_en163 : Go.Proofs.Enters Try.prog 163 := Go.Proofs.enters_of Try.func163 (by kernel_rfl) rfl
theorem values_ok (p : Option Addr) (n cap : Nat) (w : World) : Ret Try.prog 117 #[.slice p n cap] w fun r w' => r = .func (.func 141) #[] #[.pointer (some ⟨w.heap.size, 0, none⟩)] ∧ Box w' w.heap.size 22 [.slice p n cap] ∧ Bel w w' := by
  refine ret_of_W Try.func117 rfl (Nat.le_of_ble_eq_true rfl) (res1 rfl) ?_
  have hB := Gr.refl (fun _ => False) w
  refine W.seq ?_
  refine W.region ?_
  refine L.box (cs := [.slice p n cap]) rfl rfl (fun w1 bx1 hw hz1 => ?_)
  have hB := hB.carry hw
  refine L.val (x_as (v := _) rfl) rfl ?_
  refine L.nil ?_
  refine thn_n ?_
  refine W.seq ?_
  refine W.region ?_
  refine L.val (x_mkfn rfl rfl) rfl ?_
  refine L.val (x_as (v := _) rfl) rfl ?_
  refine L.nil ?_
  refine thn_n ?_
  refine W.ret (fin_mk (.inr rfl) ?_)
  exact ⟨rfl, bx1, hB⟩
theorem collect_ok (gf : Nat) (lb : Array Value) (ss : List Str) (w : World) (eg : Go.Proofs.Enters Try.prog gf) (hl : ss.length ≤ 100000000000)
    (hseq : SeqStopsK Fence.wide 1 Try.prog gf lb (fun x : Str => #[S x]) (RowKit.Below w.heap.size) (fun xs => xs = ss) (fun _ => True) ss.length w) :
    Ret Try.prog 139 #[.func (.func gf) #[] lb] w fun v w' => Own w' (w.heap.size + 1) 9 1 v ss.length (ss.map S) ∧ (ss = [] → v = .slice none 0 0) ∧ Bel w w' := by
  refine ret_of_W Try.func139 rfl (Nat.le_of_ble_eq_true rfl) (res1 rfl) ?_
  have hB := Gr.refl (fun _ => False) w
  refine W.seq ?_
  refine W.region ?_
  refine L.val (x_as (v := _) rfl) rfl ?_
  refine L.nil ?_
  refine thn_n ?_
  refine W.seq ?_
  refine W.region ?_
  refine L.val (x_mv (v := .func _ _ _) rfl) rfl ?_
  refine L.ret (x_call knamed_en163 rfl) rfl (seq_ok gf lb ss _ eg hl hseq) ?_
  rintro v w4 ⟨hO, hz, hw⟩
  have hB := hB.carry hw
  refine L.val (x_as (v := _) rfl) rfl ?_
  refine L.nil ?_
  refine thn_n ?_
  refine W.ret (fin_mk (.inr rfl) ?_)
  exact ⟨hO, hz, hB⟩
def SortedNew (base : Nat) (w : World) (v : Value) (ss : List Str) : Prop :=
  (ss = [] ∧ v = .slice none 0 0) ∨ ∃ b cap tl d, base ≤ b ∧ 1 ≤ ss.length ∧ ss.length ≤ cap ∧ v = .slice (some ⟨b, 0, none⟩) ss.length cap ∧ Row S w b 0 9 [] d tl ∧ d.size = ss.length ∧ PermIn 0 ss.length ss.toArray d ∧ SortedIn ltStr 0 ss.length d
theorem sorted_ok (gf : Nat) (lb : Array Value) (ss : List Str) (w : World) (eg : Go.Proofs.Enters Try.prog gf) (hl : ss.length ≤ 100000000000)
    (hseq : SeqStopsK Fence.wide 1 Try.prog gf lb (fun x : Str => #[S x]) (RowKit.Below w.heap.size) (fun xs => xs = ss) (fun _ => True) ss.length w) :
    Ret Try.prog 116 #[.func (.func gf) #[] lb] w fun v w' => SortedNew w.heap.size w' v ss ∧ Bel w w' := by
  refine ret_of_W Try.func116 rfl (Nat.le_of_ble_eq_true rfl) (res1 rfl) ?_
  have hB := Gr.refl (fun _ => False) w
  refine W.seq ?_
  refine W.region ?_
  refine L.val (x_as (v := _) rfl) rfl ?_
  refine L.nil ?_
  refine thn_n ?_
  refine W.seq ?_
  refine W.region ?_
  refine L.val (x_mv (v := .func _ _ _) rfl) rfl ?_
  refine L.ret (x_call knamed_en139 rfl) rfl (collect_ok gf lb ss _ eg hl hseq) ?_
  rintro v w5 ⟨hO, hz0, hw⟩
  have hB := hB.carry hw
  suffices hs : Ret Try.prog 140 #[v] w5 (fun r w' => r = .tuple #[] ∧ SortedNew w.heap.size w' v ss ∧ Bel w w') from ?_
  rotate_left 1
  · rcases hO.open with ⟨rfl, hk, -⟩ | ⟨b, cap, tl, rfl, hb, hcap, -, hbx⟩
    · exact (sort_nil 0 w5).mono fun r w' ⟨h1, h2⟩ => ⟨h1, .inl ⟨List.eq_nil_of_length_eq_zero hk, rfl⟩, hB.carry h2⟩
    · by_cases hz : ss.length = 0
      · have := hz0 (List.eq_nil_of_length_eq_zero hz); cases this
      · have hR : Row S w5 b 0 9 [] ss.toArray tl := ⟨rfl, by simpa using hbx⟩
        refine (sort_ok b 0 cap ss.length _ [] tl ss.toArray w5 hR (by simp) (by omega) (by omega)).mono ?_
        rintro r w' ⟨h1, hg, d, hd, p1, p2⟩
        exact ⟨h1, .inr ⟨b, cap, tl, d, by omega, by omega, hcap, rfl, hd, by rw [p1.1]; simp, p1, p2⟩, hB.set hg (by omega)⟩
  refine L.val (x_as (v := _) rfl) rfl ?_
  refine L.nil ?_
  refine thn_n ?_
  refine W.seq ?_
  refine W.region ?_
  refine L.val (x_mv (v := _) rfl) rfl ?_
  refine L.ret (x_call knamed_en140 rfl) rfl (hs) ?_
  rintro _ w7 ⟨rfl, hN, hw⟩
  refine L.nil ?_
  refine thn_n ?_
  refine W.seq ?_
  refine W.region ?_
  refine L.val (x_mv (v := _) rfl) rfl ?_
  refine L.val (x_as (v := _) rfl) rfl ?_
  refine L.nil ?_
  refine thn_n ?_
  refine W.ret (fin_mk (.inr rfl) ?_)
  exact ⟨hN, hw⟩
end Go.Gx
