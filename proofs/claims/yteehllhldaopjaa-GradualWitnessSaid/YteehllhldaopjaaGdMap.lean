/- Maps whose keys are strings: made, set, looked up. Conditions: none. -/
import Derived.WideMake
import Derived.MapKept
import Derived.Test.YteehllhldaopjaaGdOwn
import Derived.Test.YteehllhldaopjaaGdTake
import Derived.Test.YteehllhldaopjaaGdGrad
namespace Go.Gx
open Go.Proofs
variable {P : Program} {n : Nat} {Q : Post} {D : List Deferred} {E : Env} {w : World}
def idxM (x : Str) : List (Str × Value) → Nat
  | [] => 0
  | y :: l => if y.1 = x then 0 else idxM x l + 1
def valM (l : List (Str × Value)) (i : Nat) : Value := (l.map (·.2)).getD i undef
def putM (l : List (Str × Value)) (x : Str) (v : Value) : List (Str × Value) := if idxM x l < l.length then l.set (idxM x l) (x, v) else l ++ [(x, v)]
def kvM (e : MapEntry) : Value × Value := (e.key, e.val)
def MapAt (w : World) (b : Nat) (l : List (Str × Value)) : Prop := ∃ es clock, w.heap[b]? = some (.map es clock) ∧ es.toList.map kvM = l.map fun x => (S x.1, x.2)
theorem MapAt.lt {b : Nat} {l : List (Str × Value)} (h : MapAt w b l) : b < w.heap.size := by
  obtain ⟨es, c, h, -⟩ := h
  exact (Array.getElem?_eq_some_iff.1 h).1
theorem MapAt.carryR {R : Nat → Prop} {w' : World} {b : Nat} {l : List (Str × Value)} (h : MapAt w b l) (g : Gr R w w') (hn : ¬ R b) : MapAt w' b l := by
  have hlt := h.lt
  obtain ⟨es, c, h, hm⟩ := h
  exact ⟨es, c, (g.block b hlt hn).trans h, hm⟩
theorem MapAt.carry {w' : World} {b : Nat} {l : List (Str × Value)} (h : MapAt w b l) (g : Bel w w') : MapAt w' b l := h.carryR g fun f => f
theorem same_str (a b : Str) : Instr.sameNow .string (S a) (S b) = some (decide (b = a)) := by
  show some ((⟨a.toArray⟩ : ByteArray) == ⟨b.toArray⟩) = _
  have h : ((⟨a.toArray⟩ : ByteArray) == ⟨b.toArray⟩) = (a.toArray == b.toArray) := rfl
  rw [h, Option.some.injEq, Bool.eq_iff_iff, beq_iff_eq, decide_eq_true_eq]
  exact ⟨fun e => (by simpa using congrArg Array.toList e.symm), fun e => by rw [e]⟩
theorem find_str {x : Str} : ∀ {es : List MapEntry} {l : List (Str × Value)} (i : Nat), es.map kvM = l.map (fun x => (S x.1, x.2)) →
    Instr.findNow .string (S x) es i = some (if idxM x l < l.length then some (i + idxM x l, valM l (idxM x l)) else none)
  | [], [], i, _ => rfl
  | [], y :: l, i, h => by simp at h
  | e :: es, [], i, h => by simp at h
  | e :: es, y :: l, i, h => by
    simp only [List.map_cons, List.cons.injEq, kvM, Prod.mk.injEq] at h
    obtain ⟨⟨hk, hv⟩, ht⟩ := h
    have ih := find_str (x := x) (i + 1) ht
    unfold Instr.findNow
    rw [hk, same_str]
    by_cases hy : y.1 = x
    · rw [show idxM x (y :: l) = 0 by rw [idxM, if_pos hy]]
      simp [hy, valM, hv]
    · rw [show idxM x (y :: l) = idxM x l + 1 by rw [idxM, if_neg hy]]
      simp only [hy, decide_false, ih, List.length_cons]
      by_cases hl : idxM x l < l.length
      · rw [if_pos hl, if_pos (by omega)]
        simp [valM]; omega
      · rw [if_neg hl, if_neg (by omega)]
section
variable {t kt et : TypeId}
theorem check_str (e : Bool) (x : Str) (w : World) (hk : P.underlying kt = some .string) : (Instr.checkKey e 10000 kt (S x)).run P w = .ok () w := MapKept.run_checkKey (k := S x) hk (by simp [MapKept.IsKey, S]) e 9999
theorem x_lookup {m x : Operand} {ty : TypeId} {b : Nat} {l : List (Str × Value)} {k : Str} {z : Value} (hm : P.underlying t = some (.map kt et)) (hk : P.underlying kt = some .string) (hz : (P.info? et).bind (·.zero) = some z)
    (hx : ev E m = .map (some b)) (hy : ev E x = S k) (hl : MapAt w b l) : X P (.lookup t m x true) ty E w (.tuple #[if idxM k l < l.length then valM l (idxM k l) else z, .bool (decide (idxM k l < l.length))]) w := by
  obtain ⟨es, c, hb, hes⟩ := hl
  have hf := find_str (x := k) 0 hes
  have hzr : ∀ w, (zeroValue et).run P w = .ok z w := fun w => by
    cases hi : P.info? et with
    | none => simp [hi] at hz
    | some i =>
      simp [hi] at hz
      simp [zeroValue, typeInfo, hi, hz]
  unfold X
  by_cases h : idxM k l < l.length
  · rw [if_pos h] at hf
    simp [execOp, hx, hy, Instr.lookup, run_underlying hm, MapKept.run_getObj_map hb, check_str _ k w hk, MapKept.run_findKey hk hf, h, Result.andThen]
  · rw [if_neg h] at hf
    simp [execOp, hx, hy, Instr.lookup, run_underlying hm, MapKept.run_getObj_map hb, check_str _ k w hk, MapKept.run_findKey hk hf, h, hzr, Result.andThen]
theorem L.mkmap {t kt et ty : TypeId} {ops : Array Oper} {r : List Oper} {d : Nat} {x : Operand} {p : String} {af : Array Edge} {k : IntKind} {i : Int} (hm : P.underlying t = some (.map kt et)) (hx : ev E x = .int k i) (hd : Nat.blt d n = true)
    (kk : ∀ w1, MapAt w1 w.heap.size [] → Bel w w1 → w1.heap.size = w.heap.size + 1 → L P n ops Q r D (upd E d (.map (some w.heap.size))) w1) :
    L P n ops Q (⟨some d, .makeMap t (some x), ty, p, af, none⟩ :: r) D E w := by
  have hX : X P (.makeMap t (some x)) ty E w (.map (some w.heap.size)) (w.alloc (.map #[] 0)) := by
    unfold X
    simp [execOp, hx, Instr.makeMap, run_underlying hm, asInt, asIntOf, Result.andThen]
  refine L.val hX hd (kk _ ⟨#[], 0, by rw [← World.alloc_eq]; simp, rfl⟩ (gr_of (row := none) (World.grownBy_alloc w _ none) |>.mono (fun _ _ h => by cases h)) (by simp))
theorem sameBits_str (a : Str) : Instr.sameBits 10000 (S a) (S a) = true := by
  show ((⟨a.toArray⟩ : ByteArray) == ⟨a.toArray⟩) = true
  have h : ((⟨a.toArray⟩ : ByteArray) == ⟨a.toArray⟩) = (a.toArray == a.toArray) := rfl
  rw [h, beq_iff_eq]
theorem set_kv {es : List MapEntry} {l : List (Str × Value)} {i : Nat} {x : Str} {v : Value} (h : es.map kvM = l.map fun x => (S x.1, x.2)) :
    (es.modify i fun e => { e with key := S x, val := v }).map kvM = (l.set i (x, v)).map fun x => (S x.1, x.2) := by
  induction es generalizing l i with
  | nil => cases l with
    | nil => simp
    | cons => simp at h
  | cons e es ih => cases l with
    | nil => simp at h
    | cons y l =>
      simp only [List.map_cons, List.cons.injEq] at h
      cases i with
      | zero => simp [kvM, h.2]
      | succ i => simp only [List.modify_succ_cons, List.set_cons_succ, List.map_cons, h.1, ih h.2]
theorem L.mapset {t kt et ty : TypeId} {ops : Array Oper} {r : List Oper} {m x y : Operand} {p : String} {af : Array Edge} {b : Nat} {l : List (Str × Value)} {k : Str} {v : Value} (hm : P.underlying t = some (.map kt et)) (hk : P.underlying kt = some .string)
    (hx : ev E m = .map (some b)) (hy : ev E x = S k) (hv : ev E y = v) (hl : MapAt w b l)
    (kk : ∀ w1, MapAt w1 b (putM l k v) → Gr (· = b) w w1 → w1.heap.size = w.heap.size → L P n ops Q r D E w1) :
    L P n ops Q (⟨none, .mapUpdate t m x y, ty, p, af, none⟩ :: r) D E w := by
  have hlt := hl.lt
  obtain ⟨es, c, hb, hes⟩ := hl
  have hf := find_str (x := k) 0 hes
  have hkeep : ∀ w o, Gr (· = b) w { w with heap := w.heap.setIfInBounds b o } := fun w o =>
    ⟨rfl, rfl, rfl, by simp, fun i _ hi => by simp [Ne.symm hi]⟩
  by_cases h : idxM k l < l.length
  · rw [if_pos h, Nat.zero_add] at hf
    have hkey : ((es[idxM k l]?).map (·.key)).getD (S k) = S k := by
      have hg := congrArg (fun q : List (Value × Value) => q[idxM k l]?) hes
      simp only [List.getElem?_map] at hg
      rw [List.getElem?_eq_getElem h] at hg
      have hes2 : es[idxM k l]? = es.toList[idxM k l]? := by simp
      rw [hes2]
      cases hq : es.toList[idxM k l]? with
      | none => simp
      | some e =>
        rw [hq] at hg
        simp only [Option.map_some, Option.some.injEq, kvM, Prod.mk.injEq] at hg
        simp only [Option.map_some, Option.getD_some, hg.1]
        congr 1
        have : ∀ (l : List (Str × Value)) (h : idxM k l < l.length), (l[idxM k l]).1 = k := by
          intro l
          induction l with
          | nil => intro h; simp at h
          | cons y l ih =>
            intro h
            by_cases hy : y.1 = k
            · simp [idxM, hy]
            · have h2 : idxM k l < l.length := by rw [idxM, if_neg hy] at h; simpa using h
              simpa [idxM, hy] using ih h2
        exact this l h
    refine L.skip (w' := { w with heap := w.heap.setIfInBounds b (.map (es.modify (idxM k l) fun e => { e with key := S k, val := v }) c) }) ?_ (kk _ ⟨es.modify (idxM k l) fun e => { e with key := S k, val := v }, c, by simp [hlt], ?_⟩ (hkeep _ _) (by simp))
    · unfold Xs; simp [execOp, hx, hy, hv, Instr.mapUpdate, run_underlying hm, MapKept.run_getObj_map hb, check_str _ k w hk, MapKept.run_findKey hk hf, Instr.keyThatStays, hkey, sameBits_str, MapKept.run_setObj_map _ hb, Result.andThen]
    · unfold putM
      rw [if_pos h, Array.toList_modify]
      exact set_kv hes
  · rw [if_neg h] at hf
    refine L.skip (w' := { w with heap := w.heap.setIfInBounds b (.map (es.push { key := S k, val := v, born := c }) (c + 1)) }) ?_ (kk _ ⟨es.push { key := S k, val := v, born := c }, c + 1, by simp [hlt], ?_⟩ (hkeep _ _) (by simp))
    · unfold Xs; simp [execOp, hx, hy, hv, Instr.mapUpdate, run_underlying hm, MapKept.run_getObj_map hb, check_str _ k w hk, MapKept.run_findKey hk hf, MapKept.run_setObj_map _ hb, Result.andThen]
    · unfold putM
      rw [if_neg h, Array.toList_push, List.map_append, hes]
      simp [kvM]
end
def fieldsF : Nat → List Str → List (Str × Value)
  | _, [] => []
  | n, x :: l => (x, .int .i64 (n : Nat)) :: fieldsF (n + 1) l
theorem fieldsF_len : ∀ {l : List Str} {n : Nat}, (fieldsF n l).length = l.length
  | [], _ => rfl
  | x :: l, n => by simp [fieldsF, fieldsF_len]
theorem fieldsF_idx {x : Str} : ∀ {l : List Str} {n : Nat}, idxM x (fieldsF n l) = idxS x l
  | [], _ => rfl
  | y :: l, n => by simp [fieldsF, idxM, idxS, fieldsF_idx]
theorem fieldsF_val : ∀ {l : List Str} {n i : Nat}, i < l.length → valM (fieldsF n l) i = .int .i64 ((n + i : Nat) : Int)
  | [], _, _, h => by simp at h
  | y :: l, n, 0, _ => by simp [fieldsF, valM]
  | y :: l, n, i + 1, h => by
    have := fieldsF_val (l := l) (n := n + 1) (i := i) (by simpa using h)
    unfold valM at this ⊢
    simp only [fieldsF, List.map_cons, List.getD_cons_succ, this]
    congr 1; omega
theorem fieldsF_snoc {x : Str} : ∀ {l : List Str} {n : Nat}, fieldsF n (l ++ [x]) = fieldsF n l ++ [(x, .int .i64 ((n + l.length : Nat) : Int))]
  | [], n => by simp [fieldsF]
  | y :: l, n => by
    simp only [List.cons_append, fieldsF, fieldsF_snoc, List.length_cons]
    congr 5; omega
def FieldsAt (w : World) (b : Nat) (l : List Str) : Prop := MapAt w b (fieldsF 0 l)
theorem FieldsAt.carryR {R : Nat → Prop} {w' : World} {b : Nat} {l : List Str} (h : FieldsAt w b l) (g : Gr R w w') (hn : ¬ R b) : FieldsAt w' b l := MapAt.carryR h g hn
theorem FieldsAt.carry {w' : World} {b : Nat} {l : List Str} (h : FieldsAt w b l) (g : Bel w w') : FieldsAt w' b l := MapAt.carry h g
theorem FieldsAt.lt {b : Nat} {l : List Str} (h : FieldsAt w b l) : b < w.heap.size := MapAt.lt h
theorem fields_put {l : List Str} {k : Nat} (hd : l.Nodup) (hk : k < l.length) : putM (fieldsF 0 (l.take k)) (l.getD k []) (.int .i64 (k : Nat)) = fieldsF 0 (l.take (k + 1)) := by
  have hno : ¬ idxS (l.getD k []) (l.take k) < (l.take k).length := by
    rw [idxS_lt]
    intro h
    obtain ⟨i, hi, e⟩ := List.getElem_of_mem h
    rw [List.getElem_take] at e
    have hik : i < k := by simp at hi; omega
    have e2 : l.getD k [] = l[k] := by rw [List.getD_eq_getElem?_getD, List.getElem?_eq_getElem hk]; rfl
    rw [e2] at e
    exact (List.pairwise_iff_getElem.1 hd) i k (by omega) hk hik e
  unfold putM
  rw [fieldsF_idx, fieldsF_len, if_neg hno, List.take_succ_eq_append_getElem hk, fieldsF_snoc]
  have e2 : l.getD k [] = l[k] := by rw [List.getD_eq_getElem?_getD, List.getElem?_eq_getElem hk]; rfl
  rw [e2]
  simp; omega
theorem x_lookF {t kt et : TypeId} {m x : Operand} {ty : TypeId} {b : Nat} {l : List Str} {k : Str} (hm : P.underlying t = some (.map kt et)) (hk : P.underlying kt = some .string) (hz : (P.info? et).bind (·.zero) = some (Value.int .i64 0))
    (hx : ev E m = .map (some b)) (hy : ev E x = S k) (hl : FieldsAt w b l) : X P (.lookup t m x true) ty E w (.tuple #[.int .i64 (if idxS k l < l.length then (idxS k l : Nat) else 0 : Int), .bool (decide (idxS k l < l.length))]) w := by
  have h := x_lookup (ty := ty) hm hk hz hx hy hl
  rw [fieldsF_idx, fieldsF_len] at h
  by_cases hi : idxS k l < l.length
  · rw [if_pos hi, fieldsF_val hi] at h
    rw [if_pos hi]
    simpa using h
  · rw [if_neg hi] at h
    rw [if_neg hi]
    exact h
end Go.Gx
