/- One equation an operation, over a frame told by a function. Conditions: none. -/
import Derived.Test.YteehllhldaopjaaGdWp
namespace Go.Gx
open Go.RowKit
abbrev Str := List UInt8
def S (l : Str) : Value := .string ⟨l.toArray⟩
theorem S_size (l : Str) : (⟨l.toArray⟩ : ByteArray).size = l.length := by simp [ByteArray.size]
theorem vb {a b : Bool} (h : a = b) : Value.bool a = Value.bool b := congrArg _ h
theorem vi {k : IntKind} {a b : Int} (h : a = b) : Value.int k a = Value.int k b := congrArg _ h
theorem vs {a b : Str} (h : a = b) : S a = S b := congrArg _ h
theorem not_t {b : Bool} (h : (!b) = true) : b = false := by simpa using h
theorem not_f {b : Bool} (h : (!b) = false) : b = true := by simpa using h
theorem dlt_f {a b : Int} (h : decide (a < b) = false) : b ≤ a := Int.not_lt.1 (of_decide_eq_false h)
theorem dle_f {a b : Int} (h : decide (a ≤ b) = false) : b < a := Int.not_le.1 (of_decide_eq_false h)
theorem dne_t {a b : Int} (h : (!decide (a = b)) = true) : a ≠ b := by simpa using h
theorem dne_f {a b : Int} (h : (!decide (a = b)) = false) : a = b := by simpa using h
theorem seq_t {a b : Str} (h : (a == b) = true) : a = b := by simpa using h
theorem seq_f {a b : Str} (h : (a == b) = false) : a ≠ b := by simpa using h
theorem sne_t {a b : Str} (h : (!(a == b)) = true) : a ≠ b := by simpa using h
theorem sne_f {a b : Str} (h : (!(a == b)) = false) : a = b := by simpa using h
section
variable {P : Program} {E : Env} {w : World}
theorem x_mv {x : Operand} {t : TypeId} {v : Value} (h : ev E x = v) : X P (.move x) t E w v w := by rw [← h]; rfl
theorem x_as {x : Operand} {t : TypeId} {v : Value} (h : ev E x = v) : X P (.assign x) t E w v w := by rw [← h]; rfl
theorem x_pick_t {c a b : Operand} {t : TypeId} {v : Value} (hc : ev E c = .bool true) (h : ev E a = v) : X P (.pick c a b) t E w v w := by
  unfold X; simp [execOp, hc, h, asBool, go_sem]
theorem x_pick_f {c a b : Operand} {t : TypeId} {v : Value} (hc : ev E c = .bool false) (h : ev E b = v) : X P (.pick c a b) t E w v w := by
  unfold X; simp [execOp, hc, h, asBool, go_sem]
theorem x_len_slice {x : Operand} {t s e : TypeId} {p : Option Addr} {n c : Nat} (hu : P.underlying s = some (.slice e)) (h : ev E x = .slice p n c) :
    X P (.call ⟨.builtin .len, #[x], #[s]⟩) t E w (.int .i64 n) w := by
  unfold X
  simp [execOp, resolve, invoke, builtin, Builtin.len_, h, run_underlying hu, goInt]
theorem x_len_str {x : Operand} {t s : TypeId} {l : Str} (hu : P.underlying s = some .string) (h : ev E x = S l) :
    X P (.call ⟨.builtin .len, #[x], #[s]⟩) t E w (.int .i64 l.length) w := by
  unfold X
  simp [execOp, resolve, invoke, builtin, h, S, run_len_string w s t _ hu, goInt, S_size]
theorem x_add {x y : Operand} {t u z : TypeId} {k : IntKind} {a b c : Int} (hx : ev E x = .int k a) (hy : ev E y = .int k b) (hc : k.wrap (a + b) = c) :
    X P (.binOp .add u x y z) t E w (.int k c) w := by
  unfold X; simp [execOp, hx, hy, go_sem, Op.intArith, ← hc]
theorem x_sub {x y : Operand} {t u z : TypeId} {k : IntKind} {a b c : Int} (hx : ev E x = .int k a) (hy : ev E y = .int k b) (hc : k.wrap (a - b) = c) :
    X P (.binOp .sub u x y z) t E w (.int k c) w := by
  unfold X; simp [execOp, hx, hy, go_sem, Op.intArith, ← hc]
theorem x_mul {x y : Operand} {t u z : TypeId} {k : IntKind} {a b c : Int} (hx : ev E x = .int k a) (hy : ev E y = .int k b) (hc : k.wrap (a * b) = c) :
    X P (.binOp .mul u x y z) t E w (.int k c) w := by
  unfold X; simp [execOp, hx, hy, go_sem, Op.intArith, ← hc]
theorem wr64 {n : Int} (h : -9223372036854775808 ≤ n ∧ n ≤ 9223372036854775807) : IntKind.i64.wrap n = n := IntWalk.i64_in n h
theorem wru8 {n : Int} (h : 0 ≤ n ∧ n ≤ 255) : IntKind.u8.wrap n = n := IntWalk.u8_in n h
theorem wru64 {n : Int} (h : 0 ≤ n ∧ n ≤ 18446744073709551615) : IntKind.u64.wrap n = n := IntWalk.u64_in n h
theorem x_lss {x y : Operand} {t u z : TypeId} {k : IntKind} {a b : Int} (hx : ev E x = .int k a) (hy : ev E y = .int k b) : X P (.binOp .lss u x y z) t E w (.bool (decide (a < b))) w := by
  unfold X; simp [execOp, hx, hy, go_sem]
theorem x_leq {x y : Operand} {t u z : TypeId} {k : IntKind} {a b : Int} (hx : ev E x = .int k a) (hy : ev E y = .int k b) : X P (.binOp .leq u x y z) t E w (.bool (decide (a ≤ b))) w := by
  unfold X; simp [execOp, hx, hy, go_sem]
theorem x_gtr {x y : Operand} {t u z : TypeId} {k : IntKind} {a b : Int} (hx : ev E x = .int k a) (hy : ev E y = .int k b) : X P (.binOp .gtr u x y z) t E w (.bool (decide (b < a))) w := by
  unfold X; simp [execOp, hx, hy, go_sem]
theorem x_geq {x y : Operand} {t u z : TypeId} {k : IntKind} {a b : Int} (hx : ev E x = .int k a) (hy : ev E y = .int k b) : X P (.binOp .geq u x y z) t E w (.bool (decide (b ≤ a))) w := by
  unfold X; simp [execOp, hx, hy, go_sem]
theorem x_eql {x y : Operand} {t u z : TypeId} {k : IntKind} {a b : Int} (hx : ev E x = .int k a) (hy : ev E y = .int k b) : X P (.binOp .eql u x y z) t E w (.bool (decide (a = b))) w := by
  unfold X
  have : (a == b) = decide (a = b) := by rw [Bool.eq_iff_iff]; simp
  simp [execOp, hx, hy, go_sem, this]
theorem x_neq {x y : Operand} {t u z : TypeId} {k : IntKind} {a b : Int} (hx : ev E x = .int k a) (hy : ev E y = .int k b) : X P (.binOp .neq u x y z) t E w (.bool (!decide (a = b))) w := by
  unfold X
  have : (a != b) = !decide (a = b) := by rw [Bool.eq_iff_iff]; simp
  simp [execOp, hx, hy, go_sem, this]
theorem x_eqs {x y : Operand} {t u z : TypeId} {a b : Str} (hx : ev E x = S a) (hy : ev E y = S b) : X P (.binOp .eql u x y z) t E w (.bool (a == b)) w := by
  unfold X; simp [execOp, hx, hy, S, eqGuard, binOp_string_eql]
theorem x_nes {x y : Operand} {t u z : TypeId} {a b : Str} (hx : ev E x = S a) (hy : ev E y = S b) : X P (.binOp .neq u x y z) t E w (.bool (!(a == b))) w := by
  unfold X; simp [execOp, hx, hy, S, eqGuard, binOp_string_neq]
theorem x_ixs {x y : Operand} {t s : TypeId} {a : Str} {k : IntKind} {i : Int} {j : Nat} (hu : P.underlying s = some .string) (hx : ev E x = S a) (hy : ev E y = .int k i) (hi : i = (j : Nat)) (hj : j < a.length) :
    X P (.index s x y) t E w (.int .u8 ((a.getD j 0).toNat : Int)) w := by
  unfold X
  subst hi
  have h1 : (0 : Int) ≤ (j : Int) ∧ (j : Int) < ((⟨a.toArray⟩ : ByteArray).size : Int) := by rw [S_size]; omega
  simp only [execOp, hx, hy, S, Sem.run_bind, run_index_string w s _ k j hu]
  rw [dif_pos h1, List.getD_eq_getElem?_getD, List.getElem?_eq_getElem hj]
  simp
  rfl
theorem x_not {x : Operand} {t u : TypeId} {b : Bool} (hx : ev E x = .bool b) : X P (.unOp .not u x) t E w (.bool (!b)) w := by
  unfold X; simp [execOp, hx, Op.unary]
theorem x_eqb {x y : Operand} {t u z : TypeId} {a b : Bool} (hu : P.underlying u = some .bool) (hx : ev E x = .bool a) (hy : ev E y = .bool b) : X P (.binOp .eql u x y z) t E w (.bool (a == b)) w := by
  unfold X; simp [execOp, hx, hy, eqGuard, run_eql_bool _ _ _ _ hu]
def fieldOff (P : Program) (s : TypeId) (f : Nat) : Option Nat :=
  match P.underlying s with
  | some (.struct fs) => match fs[f]? with
    | some fl => match P.info? fl.type with
      | some i => if i.size = 0 then none else some fl.offset
      | none => none
    | none => none
  | _ => none
theorem x_fa {x : Operand} {t s : TypeId} {f b o off : Nat} (hf : fieldOff P s f = some off) (hx : ev E x = .pointer (some ⟨b, o, none⟩)) :
    X P (.fieldAddr s x f) t E w (.pointer (some ⟨b, o + off, none⟩)) w := by
  unfold X
  unfold fieldOff at hf
  cases hu : P.underlying s with
  | none => simp [hu] at hf
  | some ud =>
    cases ud <;> simp only [hu] at hf <;> try cases hf
    rename_i fs
    cases hfl : fs[f]? with
    | none => simp [hfl] at hf
    | some fl =>
      simp only [hfl] at hf
      cases hi : P.info? fl.type with
      | none => simp [hi] at hf
      | some inf =>
        simp only [hi] at hf
        by_cases h0 : inf.size = 0
        · simp [h0] at hf
        · simp only [h0, if_false, Option.some.injEq] at hf
          simp [execOp, hx, Instr.fieldAt, run_underlying hu, hfl, Instr.sureAddr, fieldPlace, sizeOf, typeInfo, hi, h0, hf, Addr.add]
theorem x_ia {x y : Operand} {t s e : TypeId} {b o n c : Nat} {k : IntKind} {i : Int} {j sz : Nat} (hu : P.underlying s = some (.slice e)) (hs : (P.info? e).map (·.size) = some sz)
    (hx : ev E x = .slice (some ⟨b, o, none⟩) n c) (hy : ev E y = .int k i) (hi : i = (j : Nat)) (hj : j < n) :
    X P (.indexAddr s x y) t E w (.pointer (some ⟨b, o + j * sz, none⟩)) w := by
  unfold X
  subst hi
  cases hi : P.info? e with
  | none => simp [hi] at hs
  | some inf =>
    simp only [hi, Option.map_some, Option.some.injEq] at hs
    simp [execOp, hx, hy, Instr.indexAt, asIntOf, run_underlying hu, sizeOf, typeInfo, hi, hs, Addr.add, hj]
theorem x_ia1 {x y : Operand} {t s e : TypeId} {b o n c : Nat} {k : IntKind} {i : Int} {j : Nat} (hu : P.underlying s = some (.slice e)) (hs : (P.info? e).map (·.size) = some 1)
    (hx : ev E x = .slice (some ⟨b, o, none⟩) n c) (hy : ev E y = .int k i) (hi : i = (j : Nat)) (hj : j < n) :
    X P (.indexAddr s x y) t E w (.pointer (some ⟨b, o + j, none⟩)) w := by
  have := x_ia (P := P) (E := E) (w := w) (t := t) hu hs hx hy hi hj
  rwa [Nat.mul_one] at this
def oneCellT (P : Program) (t : TypeId) : Bool :=
  match P.underlying t with
  | some (.struct _) | some (.array _ _) | none => false
  | _ => true
def aggT (P : Program) (t : TypeId) (k : Nat) : Bool :=
  (match P.underlying t with
  | some (.struct _) | some (.array _ _) => true
  | _ => false) && (P.info? t).map (·.size) == some k
theorem x_ld {x : Operand} {t s : TypeId} {a : Addr} {v : Value} (ht : oneCellT P s = true) (hx : ev E x = .pointer (some a)) (hc : w.cell? a = some v) :
    X P (.load s x) t E w v w := by
  unfold X
  have hb : ∀ w, (isAgg s).run P w = .ok false w := by
    unfold oneCellT at ht
    cases hu : P.underlying s with
    | none => simp [hu] at ht
    | some d =>
      intro w
      refine Go.Proofs.run_isAgg_plain hu ?_ w
      cases d <;> simp_all
  simp [execOp, hx, Instr.loadAt, Instr.sureAddr, loadVar, hb, hc]
theorem x_ldn {x : Operand} {t s : TypeId} {b o k : Nat} {vs : List Value} (ht : aggT P s k = true) (hx : ev E x = .pointer (some ⟨b, o, none⟩)) (hl : vs.length = k)
    (hc : ∀ j, j < k → w.cell? ⟨b, o + j, none⟩ = vs[j]?) :
    X P (.load s x) t E w (.agg vs.toArray) w := by
  unfold X
  subst hl
  unfold aggT at ht
  simp only [Bool.and_eq_true, beq_iff_eq] at ht
  obtain ⟨h1, h2⟩ := ht
  have hb : ∀ w, (isAgg s).run P w = .ok true w := by
    cases hu : P.underlying s with
    | none => simp [hu] at h1
    | some d => intro w; cases d <;> simp_all [isAgg, run_underlying hu]
  have hz : ∀ w, (sizeOf s).run P w = .ok vs.length w := by
    cases hi : P.info? s with
    | none => simp [hi] at h2
    | some i => intro w; simp [hi] at h2; simp [sizeOf, typeInfo, hi, h2]
  have hl := run_loadCells_list (P := P) w ⟨b, o, none⟩ vs (fun j v hv => by
    obtain ⟨hj, hv'⟩ := List.getElem?_eq_some_iff.1 hv
    rw [show (⟨b, o, none⟩ : Addr).add j = ⟨b, o + j, none⟩ by unfold Addr.add; split <;> simp_all]
    rw [hc j hj]; exact hv)
  simp [execOp, hx, Instr.loadAt, Instr.sureAddr, loadVar, hb, hz, hl]
theorem x_ext {x : Operand} {t : TypeId} {i : Nat} {vs : Array Value} {v : Value} (hx : ev E x = .tuple vs) (hv : vs[i]? = some v) : X P (.extract x i) t E w v w := by
  unfold X
  simp [execOp, hx, Instr.extract, hv]
theorem x_st {x y : Operand} {t s : TypeId} {a : Addr} {v u : Value} (hs : (P.info? s).map (·.size) = some 1) (hx : ev E x = .pointer (some a)) (hy : ev E y = v) (h1 : v.oneCell' = true)
    (hc : w.cell? a = some u) (hf : w.frozen? a = false) : Xs P (.store s x y) t E w (w.setCell a v) := by
  unfold Xs
  have hcells : v.cells = #[v] := by cases v <;> simp_all [Value.cells, Value.oneCell']
  have hz : ∀ w, (sizeOf s).run P w = .ok 1 w := by
    cases hi : P.info? s with
    | none => simp [hi] at hs
    | some i => intro w; simp [hi] at hs; simp [sizeOf, typeInfo, hi, hs]
  simp [execOp, hx, hy, Instr.storeAt, Instr.sureAddr, storeVar, hz, hcells, storeCells, Addr.add, run_store P w a v .plain h1, hc, hf]
theorem x_box {x : Operand} {t s : TypeId} {v : Value} (hx : ev E x = v) : X P (.box s x) t E w (.pointer (some ⟨w.heap.size, 0, none⟩)) (w.alloc (.cells v.cells s)) := by
  unfold X
  simp [execOp, hx, Instr.box, newVar, newRow]
theorem x_alloc {t s : TypeId} {z : Value} (hz : (P.info? s).bind (·.zero) = some z) : X P (.alloc s) t E w (.pointer (some ⟨w.heap.size, 0, none⟩)) (w.alloc (.cells z.cells s)) := by
  unfold X
  cases hi : P.info? s with
  | none => simp [hi] at hz
  | some i =>
    simp [hi] at hz
    simp [execOp, Instr.alloc, zeroValue, typeInfo, hi, hz, newVar, newRow]
theorem x_call {f : FuncId} {xs : Array Operand} {ts : Array TypeId} {t : TypeId} {vs : List Value} (he : Go.Proofs.Enters P f) (hv : xs.toList.map (ev E) = vs) : Xc P (.call ⟨.value (.func f), xs, ts⟩) t E w f vs.toArray := by
  unfold Xc
  have hv' : xs.map (ev E) = vs.toArray := by apply Array.ext'; simpa using hv
  simp only [execOp, resolve, ev, Deferred.ofValue, hv', Sem.run_bind]
  have := he (#[] ++ vs.toArray ++ #[]) w
  simpa [invoke] using this
theorem x_callv {x : Operand} {f : FuncId} {xs : Array Operand} {ts : Array TypeId} {t : TypeId} {vs first cap : List Value} (he : Go.Proofs.Enters P f) (hx : ev E x = .func (.func f) first.toArray cap.toArray) (hv : first ++ xs.toList.map (ev E) ++ cap = vs) :
    Xc P (.call ⟨.value x, xs, ts⟩) t E w f vs.toArray := by
  unfold Xc
  have hv' : first.toArray ++ xs.map (ev E) ++ cap.toArray = vs.toArray := by apply Array.ext'; simpa using hv
  simp only [execOp, resolve, hx, Deferred.ofValue, Sem.run_bind]
  have := he (first.toArray ++ xs.map (ev E) ++ cap.toArray) w
  rw [hv'] at this
  simpa [invoke, ← hv'] using this
end
end Go.Gx
