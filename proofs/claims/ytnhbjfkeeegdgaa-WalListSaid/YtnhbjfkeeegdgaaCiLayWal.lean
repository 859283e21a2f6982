/- The library's contracts strings_Repeat, Builder_String_any, bits_Len64: the kit's, laid at this program. Conditions: none. -/
import Derived.Shelf.Strings.Repeat
import Derived.Shelf.Small.Bits
import Derived.Shelf.Strconv.Itoa0
import Derived.Test.YtnhbjfkeeegdgaaProg
import Derived.Lib.Builder
import Derived.Lib.AppendStr
import Derived.Laws.Externs
import Derived.Test.YtnhbjfkeeegdgaaCiRcs
namespace Go.Proofs
open Go.Shelf
def Try.lays169_ren : Go.Shelf.Ren := ⟨fun | 169 => 71 | n => n, fun | 70 => 128 | 9 => 9 | 0 => 0 | 72 => 131 | 37 => 129 | 127 => 168 | 3 => 3 | 5 => 5 | n => n, fun | n => n⟩
theorem Try.lays169 : Go.Proofs.Lays.n169 Try.prog Try.lays169_ren := {
  mixed := by kernel_rfl
  f169 := Try.func71.trans (congrArg some (by kernel_rfl))
  t0 := Try.underlying0
  a0 := Try.isAgg0
  z0 := Try.sizeOf0
  v0 := Try.zeroValue0
  t3 := Try.underlying3
  a3 := Try.isAgg3
  z3 := Try.sizeOf3
  v3 := Try.zeroValue3
  t9 := Try.underlying9
  a9 := Try.isAgg9
  z9 := Try.sizeOf9
  v9 := Try.zeroValue9
  t37 := Try.underlying129
  a37 := Try.isAgg129
  z37 := Try.sizeOf129
  v37 := Try.zeroValue129
  t70 := Try.underlying128
  a70 := Try.isAgg128
  z70 := Try.sizeOf128
  v70 := Try.zeroValue128
  t72 := Try.underlying131
  a72 := Try.isAgg131
  z72 := Try.sizeOf131
  v72 := Try.zeroValue131
  t127 := Try.underlying168
  a127 := Try.isAgg168
  z127 := Try.sizeOf168
  v127 := Try.zeroValue168 }
theorem Try.Builder_Extra_169 : Builder.Extra Try.prog Try.lays169_ren := {
  sizeBuilder := by kernel_rfl
  liesBuilder := by kernel_rfl
  t5 := Try.underlying5
  a5 := Try.isAgg5
  z5 := Try.sizeOf5
  v5 := Try.zeroValue5
  infoByte := by kernel_rfl
  cellsByte := by kernel_rfl
  sizeByte := by kernel_rfl
  neB5 := by decide }
open Go.RowKit in
theorem Try.Builder_String_any (B b : Nat) (l : List UInt8) (w : World) (h : Lib.IsBuilder 131 5 B b (Lib.byteCells l) w) (hBw : B ≤ w.heap.size) :
    Calls Try.prog 71 #[.pointer (some ⟨b, 0, none⟩)] w fun e w' => e = .returned (.string ⟨l.toArray⟩) ∧ Below B w w' := Any.Builder_String_any Try.lays169 Try.Builder_Extra_169 B b l w h hBw
def Try.lays129_ren : Go.Shelf.Ren := ⟨fun | 129 => 126 | n => n, fun | 53 => 53 | 3 => 3 | 4 => 4 | 46 => 176 | 5 => 5 | 9 => 9 | n => n, fun | n => n⟩
theorem Try.lays129 : Go.Proofs.Lays.n129 Try.prog Try.lays129_ren := {
  mixed := by kernel_rfl
  f129 := Try.func126.trans (congrArg some (by kernel_rfl))
  t3 := Try.underlying3
  a3 := Try.isAgg3
  z3 := Try.sizeOf3
  v3 := Try.zeroValue3
  t4 := Try.underlying4
  a4 := Try.isAgg4
  z4 := Try.sizeOf4
  v4 := Try.zeroValue4
  t5 := Try.underlying5
  a5 := Try.isAgg5
  z5 := Try.sizeOf5
  v5 := Try.zeroValue5
  t9 := Try.underlying9
  a9 := Try.isAgg9
  z9 := Try.sizeOf9
  v9 := Try.zeroValue9
  t46 := Try.underlying176
  a46 := Try.isAgg176
  z46 := Try.sizeOf176
  v46 := Try.zeroValue176
  t53 := Try.underlying53
  a53 := Try.isAgg53
  z53 := Try.sizeOf53
  v53 := Try.zeroValue53 }
theorem Try.bits_Len64 (x : Int) (w : World) (h0 : 0 ≤ x) (h1 : x ≤ 18446744073709551615) :
    Calls Try.prog 126 #[.int .u64 x] w fun e w' => e = .returned (.int .i64 (Lib.bitLen x.toNat)) ∧ w' = w := Any.bits_Len64 Try.lays129 x w h0 h1
def Try.lays105_ren : Go.Shelf.Ren := ⟨fun | 105 => 96 | 212 => 110 | 99 => 59 | 165 => 111 | 166 => 70 | 170 => 112 | 169 => 71 | 263 => 131 | 264 => 132 | 206 => 87 | 240 => 97 | 241 => 133 | 276 => 113 | 277 => 142 | n => n, fun | 9 => 9 | 3 => 3 | 4 => 4 | 20 => 20 | 0 => 0 | 46 => 176 | 109 => 182 | 5 => 5 | 72 => 131 | 76 => 135 | 51 => 177 | 146 => 202 | 53 => 53 | 148 => 204 | 70 => 128 | 37 => 129 | 75 => 134 | 127 => 168 | 164 => 185 | 80 => 137 | n => n, fun | n => n⟩
theorem Try.lays105 : Go.Proofs.Lays.n105 Try.prog Try.lays105_ren := {
  mixed := by kernel_rfl
  f99 := Try.func59.trans (congrArg some (by kernel_rfl))
  f105 := Try.func96.trans (congrArg some (by kernel_rfl))
  f165 := Try.func111.trans (congrArg some (by kernel_rfl))
  f166 := Try.func70.trans (congrArg some (by kernel_rfl))
  f169 := Try.func71.trans (congrArg some (by kernel_rfl))
  f170 := Try.func112.trans (congrArg some (by kernel_rfl))
  f206 := Try.func87.trans (congrArg some (by kernel_rfl))
  f212 := Try.func110.trans (congrArg some (by kernel_rfl))
  f240 := Try.func97.trans (congrArg some (by kernel_rfl))
  f241 := Try.func133.trans (congrArg some (by kernel_rfl))
  f263 := Try.func131.trans (congrArg some (by kernel_rfl))
  f264 := Try.func132.trans (congrArg some (by kernel_rfl))
  f276 := Try.func113.trans (congrArg some (by kernel_rfl))
  f277 := Try.func142.trans (congrArg some (by kernel_rfl))
  t0 := Try.underlying0
  a0 := Try.isAgg0
  z0 := Try.sizeOf0
  v0 := Try.zeroValue0
  t3 := Try.underlying3
  a3 := Try.isAgg3
  z3 := Try.sizeOf3
  v3 := Try.zeroValue3
  t4 := Try.underlying4
  a4 := Try.isAgg4
  z4 := Try.sizeOf4
  v4 := Try.zeroValue4
  t5 := Try.underlying5
  a5 := Try.isAgg5
  z5 := Try.sizeOf5
  v5 := Try.zeroValue5
  t9 := Try.underlying9
  a9 := Try.isAgg9
  z9 := Try.sizeOf9
  v9 := Try.zeroValue9
  t20 := Try.underlying20
  a20 := Try.isAgg20
  z20 := Try.sizeOf20
  v20 := Try.zeroValue20
  t37 := Try.underlying129
  a37 := Try.isAgg129
  z37 := Try.sizeOf129
  v37 := Try.zeroValue129
  t46 := Try.underlying176
  a46 := Try.isAgg176
  z46 := Try.sizeOf176
  v46 := Try.zeroValue176
  t51 := Try.underlying177
  a51 := Try.isAgg177
  z51 := Try.sizeOf177
  v51 := Try.zeroValue177
  t53 := Try.underlying53
  a53 := Try.isAgg53
  z53 := Try.sizeOf53
  v53 := Try.zeroValue53
  t70 := Try.underlying128
  a70 := Try.isAgg128
  z70 := Try.sizeOf128
  v70 := Try.zeroValue128
  t72 := Try.underlying131
  a72 := Try.isAgg131
  z72 := Try.sizeOf131
  v72 := Try.zeroValue131
  t75 := Try.underlying134
  a75 := Try.isAgg134
  z75 := Try.sizeOf134
  v75 := Try.zeroValue134
  t76 := Try.underlying135
  a76 := Try.isAgg135
  z76 := Try.sizeOf135
  v76 := Try.zeroValue135
  t109 := Try.underlying182
  a109 := Try.isAgg182
  z109 := Try.sizeOf182
  v109 := Try.zeroValue182
  t127 := Try.underlying168
  a127 := Try.isAgg168
  z127 := Try.sizeOf168
  v127 := Try.zeroValue168
  t146 := Try.underlying202
  a146 := Try.isAgg202
  z146 := Try.sizeOf202
  v146 := Try.zeroValue202
  t148 := Try.underlying204
  a148 := Try.isAgg204
  z148 := Try.sizeOf204
  v148 := Try.zeroValue204
  t164 := Try.underlying185
  a164 := Try.isAgg185
  z164 := Try.sizeOf185
  v164 := Try.zeroValue185 }
theorem Try.Builder_Extra_105 : Builder.Extra Try.prog Try.lays105_ren := {
  sizeBuilder := by kernel_rfl
  liesBuilder := by kernel_rfl
  t5 := Try.underlying5
  a5 := Try.isAgg5
  z5 := Try.sizeOf5
  v5 := Try.zeroValue5
  infoByte := by kernel_rfl
  cellsByte := by kernel_rfl
  sizeByte := by kernel_rfl
  neB5 := by decide }
open Go.RowKit Go.Lib in
theorem Try.strings_Repeat (s : ByteArray) (c : Nat) (w : World) (hc : c ≤ 9223372036854775807) (hlen : s.size * c ≤ 140737488355328) :
    Calls Try.prog 96 #[.string s, .int .i64 c] w fun e w' => e = .returned (.string ⟨(Lib.repeatL s.data.toList c).toArray⟩) ∧ Below w.heap.size w w' := Any.strings_Repeat Try.lays105 Try.Builder_Extra_105 s c w hc hlen
end Go.Proofs
namespace Go.Gx
open Go.Proofs
theorem koct1_el5 : elT Try.prog 5 1 = true := by kernel_rfl
theorem koct1_en96 : Go.Proofs.Enters Try.prog 96 := Go.Proofs.enters_of Try.func96 (by kernel_rfl) rfl
theorem koct1_en97 : Go.Proofs.Enters Try.prog 97 := Go.Proofs.enters_of Try.func97 (by kernel_rfl) rfl
theorem koct1_fo131_0 : fieldOff Try.prog 131 0 = some 0 := by kernel_rfl
theorem koct1_fo131_1 : fieldOff Try.prog 131 1 = some 1 := by kernel_rfl
theorem koct1_oc128 : oneCellT Try.prog 128 = true := by kernel_rfl
theorem koct1_oc129 : oneCellT Try.prog 129 = true := by kernel_rfl
theorem koct1_sz128 : (Try.prog.info? 128).map (·.size) = some 1 := by kernel_rfl
theorem koct1_sz129 : (Try.prog.info? 129).map (·.size) = some 1 := by kernel_rfl
theorem gr_below {n₀ : Nat} {a b : World} (h : RowKit.Below n₀ a b) : Gr (fun k => n₀ ≤ k) a b := ⟨h.os, h.tape, h.output, h.size, fun k _ hn => h.block k (by omega)⟩
def zeros (n : Nat) : Str := List.replicate n 0
theorem zeros_len (n : Nat) : (zeros n).length = n := List.length_replicate
theorem repeatL_zero (n : Nat) : Lib.repeatL [(0 : UInt8)] n = zeros n := by
  induction n with
  | zero => rfl
  | succ n ih =>
    have : Lib.repeatL [(0 : UInt8)] (n + 1) = [0] ++ Lib.repeatL [0] n := rfl
    rw [this, ih]; rfl
theorem repeat_ok (n : Nat) (hn : n ≤ 1000000) (w : World) : Ret Try.prog 96 #[S [0], .int .i64 (n : Nat)] w fun v w' => v = S (zeros n) ∧ Bel w w' := by
  refine Calls.mono (Try.strings_Repeat ⟨#[0]⟩ n w (by omega) (by show 1 * n ≤ _; omega)) fun e w' ⟨he, hw⟩ => ⟨_, he, ?_, bel_of hw⟩
  have : (⟨#[0]⟩ : ByteArray).data.toList = [0] := rfl
  rw [this, repeatL_zero]; rfl
def BuilderIs (w : World) (b : Nat) (l : Str) : Prop :=
  ∃ p v, (p = .pointer none ∨ p = .pointer (some ⟨b, 0, none⟩)) ∧ Box w b 131 [p, v] ∧ Own w b 5 1 v l.length (l.map B8) ∧ v.ownBlock ≠ some b
theorem BuilderIs.lt {w : World} {b : Nat} {l : Str} (h : BuilderIs w b l) : b < w.heap.size := by obtain ⟨p, v, -, h, -⟩ := h; exact h.lt
theorem BuilderIs.carryR {R : Nat → Prop} {w w' : World} {b : Nat} {l : Str} (h : BuilderIs w b l) (g : Gr R w w') (hR : ∀ k, b ≤ k → ¬ R k) : BuilderIs w' b l := by
  obtain ⟨p, v, h1, h2, h3, h4⟩ := h
  exact ⟨p, v, h1, h2.carryR g (hR b (Nat.le_refl _)), Own.carryR h3 g (fun j hj => hR j (Own.lt h3 hj).1), h4⟩
theorem BuilderIs.carry {w w' : World} {b : Nat} {l : Str} (h : BuilderIs w b l) (g : Bel w w') : BuilderIs w' b l := h.carryR g (fun _ _ f => f)
theorem builder_new {w : World} {b : Nat} (h : Box w b 131 [.pointer none, .slice none 0 0]) : BuilderIs w b [] := ⟨_, _, .inl rfl, h, own_nil, by simp [Value.ownBlock]⟩
theorem bstr_ok (b : Nat) (l : Str) (w : World) (h : BuilderIs w b l) : Ret Try.prog 71 #[.pointer (some ⟨b, 0, none⟩)] w fun v w' => v = S l ∧ Gr (fun k => b ≤ k) w w' := by
  have hlt := h.lt
  obtain ⟨p, v, hp, hb, ho, hn⟩ := h
  have hA : ∀ q, p = q → Lib.BuilderAt 131 5 b b q (Lib.byteCells l) w := fun q e => ⟨Nat.le_refl _, v, by rw [← e]; exact hb, by rw [Lib.byteCells_length]; exact ho, hn⟩
  have hI : Lib.IsBuilder 131 5 b b (Lib.byteCells l) w := hp.imp (hA _) (hA _)
  exact Calls.mono (Try.Builder_String_any b b l w hI (by omega)) fun e w' ⟨he, hw⟩ => ⟨_, he, rfl, gr_below hw⟩
theorem sh_box {w : World} {b : Nat} {t : TypeId} {cs : List Value} (h : Box w b t cs) : w.shape? b = some (t, cs.length) := by
  unfold Box at h
  simp [World.shape?, h]
theorem x_toUns {x : Operand} {s d t e : TypeId} {ty : TypeId} {E : Env} {w : World} {a : Addr} {cells : Nat} (hs : (Try.prog).underlying s = some (.pointer t)) (hd : (Try.prog).underlying d = some .unsafePointer) (ht : ((Try.prog).info? t).map (fun i => decide (i.size ≠ 0)) = some true) (hx : ev E x = .pointer (some a)) (hsh : w.shape? a.block = some (e, cells)) (hoff : a.off < cells) : X (Try.prog) (.convert s d x) ty E w (.pointer (some a)) w := by
  cases hi : (Try.prog).info? t with
  | none => simp [hi] at ht
  | some j =>
    have hj : j.size ≠ 0 := by simpa [hi] using ht
    unfold X
    simp [execOp, hx, Lib.run_to_unsafe (P := Try.prog) w a hs hd hi hj hsh hoff]
theorem x_fromUns {x : Operand} {s d u e : TypeId} {ty : TypeId} {E : Env} {w : World} {a : Addr} {cells : Nat} (hs : (Try.prog).underlying s = some .unsafePointer) (hd : (Try.prog).underlying d = some (.pointer u)) (hu : ((Try.prog).info? u).isSome = true) (hx : ev E x = .pointer (some a)) (hsh : w.shape? a.block = some (e, cells)) (hlies : liesAt (Try.prog) (Try.prog).depth e (cells / (Try.prog).cellsOf e) a.off u 1 = true) : X (Try.prog) (.convert s d x) ty E w (.pointer (some a)) w := by
  obtain ⟨j, hj⟩ := Option.isSome_iff_exists.1 hu
  unfold X
  simp [execOp, hx, Lib.run_from_unsafe (P := Try.prog) w a hs hd hj hsh hlies]
theorem x_nepS {x y : Operand} {t u z e : TypeId} {E : Env} {w : World} {a : Addr} (hu : (Try.prog).underlying u = some (.pointer e)) (he : ((Try.prog).info? e).isSome = true) (hx : ev E x = .pointer (some a)) (hy : ev E y = .pointer (some a)) : X (Try.prog) (.binOp .neq u x y z) t E w (.bool false) w := by
  obtain ⟨j, hj⟩ := Option.isSome_iff_exists.1 he
  have hg : ∀ d : Nat, (Op.eqGuardIn (d + 1) u (.pointer (some a)) (.pointer (some a))).run (Try.prog) w = .ok false w := fun d => by simp [Op.eqGuardIn, run_underlying hu]
  unfold X
  simp [execOp, hx, hy, eqGuard, Lib.run_neq_ptr_same (P := Try.prog) w a hu hj, hg]
theorem L.appS {P : Program} {n : Nat} {Q : Post} {D : List Deferred} {E : Env} {w : World} {ops : Array Oper} {r : List Oper} {d : Nat} {x y : Operand} {T U t e : TypeId} {p : String} {af : Array Edge} {base k : Nat} {v : Value} {xs : List Value} {l : Str}
    (hu : P.underlying T = some (.slice e)) (hU : P.underlying U = some .string) (he : elT P e 1 = true) (hz : (P.info? e).bind (·.zero) = some (.int .u8 0)) (hby : (P.info? e).map (·.bytes) = some 1) (hx : ev E x = v) (hy : ev E y = S l) (hd : Nat.blt d n = true) (h : Own w base e 1 v k xs)
    (hk : k + l.length ≤ 140737488355328) (hb : base ≤ w.heap.size)
    (kk : ∀ v' w', Own w' base e 1 v' (k + l.length) (xs ++ l.map B8) → Gr (fun j => some j = v.ownBlock) w w' → L P n ops Q r D (upd E d v') w') :
    L P n ops Q (⟨some d, .call ⟨.builtin .append, #[x, y], #[T, U]⟩, t, p, af, none⟩ :: r) D E w := by
  obtain ⟨i, z, hi, hz', hs, -⟩ := elT_spec he
  have hz2 : i.zero = some (.int .u8 0) := by simpa [hi] using hz
  have hb2 : i.bytes = 1 := by simpa [hi] using hby
  obtain ⟨v', w', hr, h1, h2, -⟩ := Lib.run_append_own_string (P := P) w base T U t e i hu hU hi hz2 hs hb2 v k xs h ⟨l.toArray⟩ (by show k + l.length ≤ _; simp only [maxLen]; omega) hk hb
  refine L.val (v := v') (w' := w') ?_ hd (kk v' w' h1 ⟨h2.os, h2.tape, h2.output, h2.size, fun j hj hn => h2.block j hj (fun e => hn e)⟩)
  unfold X
  simp only [S] at hy
  simp [execOp, resolve, invoke, builtin, hx, hy, hr, Result.andThen]
theorem ccheck_ok (b : Nat) (l : Str) (w : World) (h : BuilderIs w b l) : Ret Try.prog 97 #[.pointer (some ⟨b, 0, none⟩)] w fun _ w' => (∃ v, Box w' b 131 [.pointer (some ⟨b, 0, none⟩), v] ∧ Own w' b 5 1 v l.length (l.map B8) ∧ v.ownBlock ≠ some b) ∧ Gr (fun k => b ≤ k) w w' := by
  have hlt := h.lt
  obtain ⟨p, v, hp, hb, ho, hn⟩ := h
  rcases hp with rfl | rfl
  · have hlt0 := hlt
    refine ret_of_W Try.func97 rfl (Nat.le_of_ble_eq_true rfl) (res0 rfl) ?_
    refine W.seq ?_
    refine W.region ?_
    refine L.val (x_mv (v := .pointer _) rfl) rfl ?_
    refine L.val (x_nil rfl) rfl ?_
    refine L.val (x_fa koct1_fo131_0 rfl) rfl ?_
    refine L.val (x_ld (v := .pointer _) koct1_oc128 rfl (hb.cell0 rfl)) rfl ?_
    refine L.val (x_eqp0 Try.underlying128 rfl rfl) rfl ?_
    refine L.nil ?_
    refine thn_n ?_
    refine W.cond (b := _) rfl (fun g6 => ?_) (fun g6 => ?_)
    ·have h6 := g6
     refine W.region ?_
     refine L.val (x_mv (v := .pointer _) rfl) rfl ?_
     refine L.val (x_mv (v := .pointer _) rfl) rfl ?_
     refine L.val (x_toUns Try.underlying128 Try.underlying185 (by kernel_rfl) rfl (sh_box hb) (by simp)) rfl ?_
     refine L.val (x_extn (e := Extern.AbiNoEscape.same) Try.func113 (by kernel_rfl) (by kernel_rfl) (by kernel_rfl) (by kernel_rfl) rfl (Lib.run_noEscape _ _)) rfl ?_
     refine L.val (x_fromUns Try.underlying185 Try.underlying128 (by kernel_rfl) rfl (sh_box hb) (by kernel_rfl)) rfl ?_
     refine L.val (x_nil rfl) rfl ?_
     refine L.val (x_fa koct1_fo131_0 rfl) rfl ?_
     refine L.set (v := .pointer _) koct1_sz128 rfl rfl rfl hb rfl (fun wl13 hb hw hzl13 => ?_)
     have ho := Own.carryR ho hw (fun j hj e => by have e : j = b := e; rw [e] at hj; exact hn hj.symm)
     refine L.nil ?_
     refine fin_mk (.inl rfl) ?_
     exact ⟨⟨v, hb, ho, hn⟩, hw.mono (fun k _ e => by have e : k = b := e; omega)⟩
    ·have h6 := g6
     cases g6
  · have hlt0 := hlt
    refine ret_of_W Try.func97 rfl (Nat.le_of_ble_eq_true rfl) (res0 rfl) ?_
    refine W.seq ?_
    refine W.region ?_
    refine L.val (x_mv (v := .pointer _) rfl) rfl ?_
    refine L.val (x_nil rfl) rfl ?_
    refine L.val (x_fa koct1_fo131_0 rfl) rfl ?_
    refine L.val (x_ld (v := .pointer _) koct1_oc128 rfl (hb.cell0 rfl)) rfl ?_
    refine L.val (x_eqp0 Try.underlying128 rfl rfl) rfl ?_
    refine L.nil ?_
    refine thn_n ?_
    refine W.cond (b := _) rfl (fun g6 => ?_) (fun g6 => ?_)
    ·have h6 := g6
     cases g6
    ·have h6 := g6
     refine W.seq ?_
     refine W.region ?_
     refine L.val (x_mv (v := .pointer _) rfl) rfl ?_
     refine L.val (x_nil rfl) rfl ?_
     refine L.val (x_fa koct1_fo131_0 rfl) rfl ?_
     refine L.val (x_ld (v := .pointer _) koct1_oc128 rfl (hb.cell0 rfl)) rfl ?_
     refine L.val (x_mv (v := .pointer _) rfl) rfl ?_
     refine L.val (x_nepS Try.underlying128 (by kernel_rfl) rfl rfl) rfl ?_
     refine L.nil ?_
     refine thn_n ?_
     refine W.cond (b := _) rfl (fun g19 => ?_) (fun g19 => ?_)
     ·have h19 := g19
      cases g19
     ·have h19 := g19
      refine W.skip ?_
      refine fin_mk (.inl rfl) ?_
      exact ⟨⟨v, hb, ho, hn⟩, Gr.refl _ _⟩
theorem wstr_ok (b : Nat) (l s : Str) (w : World) (h : BuilderIs w b l) (hl : l.length + s.length ≤ 100000000) : Ret Try.prog 70 #[.pointer (some ⟨b, 0, none⟩), S s] w fun _ w' => BuilderIs w' b (l ++ s) ∧ Gr (fun k => b ≤ k) w w' := by
  refine ret_of_W Try.func70 rfl (Nat.le_of_ble_eq_true rfl) (res2 rfl) ?_
  refine W.seq ?_
  refine W.region ?_
  refine L.val (x_as (v := .int _ _) rfl) rfl ?_
  refine L.val (x_as (v := _) rfl) rfl ?_
  refine L.nil ?_
  refine thn_n ?_
  refine W.seq ?_
  refine W.region ?_
  refine L.val (x_mv (v := .pointer _) rfl) rfl ?_
  refine L.ret (x_call koct1_en97 rfl) rfl (ccheck_ok b l _ h) ?_
  rintro _ w7 ⟨⟨v7, hb, ho, hn⟩, hG⟩
  refine L.nil ?_
  refine thn_n ?_
  refine W.seq ?_
  refine W.region ?_
  have hlt := hb.lt
  obtain ⟨a7, c7, e7, -⟩ := own_shape ho
  subst e7
  refine L.val (x_mv (v := .pointer _) rfl) rfl ?_
  refine L.val (x_mv (v := .pointer _) rfl) rfl ?_
  refine L.val (x_nil rfl) rfl ?_
  refine L.val (x_fa koct1_fo131_1 rfl) rfl ?_
  refine L.val (x_ld (v := .slice _ _ _) koct1_oc129 rfl (hb.cell0 rfl)) rfl ?_
  refine L.val (x_mv (v := S _) rfl) rfl ?_
  refine L.appS Try.underlying129 Try.underlying9 koct1_el5 (by kernel_rfl) (by kernel_rfl) rfl rfl rfl ho (by omega) (by omega) (fun v14 w14 hO14 hg => ?_)
  have hb := hb.carryR hg (fun e => hn e.symm)
  have hn2 := own_box_ne hO14 hb (by decide)
  obtain ⟨a14, c14, e14, -⟩ := own_shape hO14
  subst e14
  refine L.val (x_nil rfl) rfl ?_
  refine L.val (x_fa koct1_fo131_1 rfl) rfl ?_
  refine L.set (v := .slice _ _ _) koct1_sz129 rfl rfl rfl hb rfl (fun wl14 hb hw hzl14 => ?_)
  have hO := Own.carryR hO14 hw (fun j hj e => by have e : j = b := e; rw [e] at hj; exact hn2 hj)
  refine L.nil ?_
  refine thn_n ?_
  refine W.seq ?_
  refine W.region ?_
  refine L.val (x_mv (v := S _) rfl) rfl ?_
  refine L.val (x_len_str Try.underlying9 rfl) rfl ?_
  refine L.val (x_as (v := .int _ _) rfl) rfl ?_
  refine L.val (x_as (v := _) rfl) rfl ?_
  refine L.nil ?_
  refine thn_n ?_
  refine W.ret (fin_mk (.inr rfl) ?_)
  refine ⟨⟨_, _, .inr rfl, hb, ?_, fun e => hn2 e.symm⟩, (hG.trans (hg.mono fun k _ e => (Own.lt ho e).1)).trans (hw.mono fun k _ e => by have e : k = b := e; omega)⟩
  simpa using hO
theorem padded_ok (s : Str) (hs : s.length ≤ 64) (w : World) : Ret Try.prog 68 #[S s] w fun v w' => v = S (s ++ zeros (64 - s.length)) ∧ Bel w w' := by
  refine ret_of_W Try.func68 rfl (Nat.le_of_ble_eq_true rfl) (res1 rfl) ?_
  have hB := Gr.refl (fun _ => False) w
  refine W.seq ?_
  refine W.region ?_
  refine L.val (x_as (v := S _) rfl) rfl ?_
  refine L.nil ?_
  refine thn_n ?_
  refine W.seq ?_
  refine W.region ?_
  refine L.val (x_mv (v := S _) rfl) rfl ?_
  refine L.val (x_mv (v := S _) rfl) rfl ?_
  refine L.val (x_len_str Try.underlying9 rfl) rfl ?_
  refine L.val (x_sub rfl rfl (wr64 (by omega))) rfl ?_
  refine L.ret (x_call koct1_en96 rfl) rfl ((by have := repeat_ok (64 - s.length) (by omega) w; rwa [show ((64 - s.length : Nat) : Int) = 64 - (s.length : Int) by omega] at this)) ?_
  rintro _ w7 ⟨rfl, hw⟩
  have hB := hB.carry hw
  refine L.val (x_cat rfl rfl (by rw [zeros_len]; omega)) rfl ?_
  refine L.val (x_as (v := S _) rfl) rfl ?_
  refine L.nil ?_
  refine thn_n ?_
  refine W.ret (fin_mk (.inr rfl) ?_)
  exact ⟨rfl, hB⟩
end Go.Gx
namespace Go.Gx
open Go.Proofs
theorem koct2_el5 : elT Try.prog 5 1 = true := by kernel_rfl
theorem koct2_en104 : Go.Proofs.Enters Try.prog 104 := Go.Proofs.enters_of Try.func104 (by kernel_rfl) rfl
theorem koct2_en126 : Go.Proofs.Enters Try.prog 126 := Go.Proofs.enters_of Try.func126 (by kernel_rfl) rfl
theorem koct2_en127 : Go.Proofs.Enters Try.prog 127 := Go.Proofs.enters_of Try.func127 (by kernel_rfl) rfl
theorem koct2_en128 : Go.Proofs.Enters Try.prog 128 := Go.Proofs.enters_of Try.func128 (by kernel_rfl) rfl
theorem koct2_en141 : Go.Proofs.Enters Try.prog 141 := Go.Proofs.enters_of Try.func141 (by kernel_rfl) rfl
theorem koct2_oc9 : oneCellT Try.prog 9 = true := by kernel_rfl
theorem koct2_sz5 : (Try.prog.info? 5).map (·.size) = some 1 := by kernel_rfl
theorem koct2_sz9 : (Try.prog.info? 9).map (·.size) = some 1 := by kernel_rfl
def widN (n : Nat) : Nat := (Lib.bitLen n + 7) / 8
def beN (k n : Nat) : Str := (List.range k).map fun i => lowB ((n : Int) / 2 ^ (8 * (k - 1 - i)))
def numB (n : Nat) : Str := if n < 248 then [lowB (n : Nat)] else lowB (247 + (widN n : Nat)) :: beN (widN n) n
def textB (s : Str) : Str := numB s.length ++ s
theorem beN_len (k n : Nat) : (beN k n).length = k := by simp [beN]
theorem beN_take {k n j : Nat} (hj : j < k) : (beN k n).take (j + 1) = (beN k n).take j ++ [lowB ((n : Int) / 2 ^ (8 * (k - 1 - j)))] := by
  rw [List.take_add_one, List.getElem?_eq_getElem (by rw [beN_len]; exact hj)]
  simp [beN]
theorem width_ok (n : Nat) (hn : n < 18446744073709551616) (w : World) : Ret Try.prog 127 #[.int .u64 (n : Nat)] w fun v w' => v = .int .i64 (widN n : Nat) ∧ w' = w := by
  have hL : Ret Try.prog 126 #[.int .u64 (n : Nat)] w fun v w' => v = .int .i64 (Lib.bitLen n : Nat) ∧ w' = w :=
    Calls.mono (Try.bits_Len64 (n : Nat) w (by omega) (by omega)) fun e w' ⟨he, hw⟩ => ⟨_, he, by simp, hw⟩
  have hb := Lib.bitLen_le n 64 (by omega) hn
  refine ret_of_W Try.func127 rfl (Nat.le_of_ble_eq_true rfl) (res1 rfl) ?_
  refine W.seq ?_
  refine W.region ?_
  refine L.val (x_as (v := .int _ _) rfl) rfl ?_
  refine L.nil ?_
  refine thn_n ?_
  refine W.seq ?_
  refine W.region ?_
  refine L.val (x_mv (v := .int _ _) rfl) rfl ?_
  refine L.ret (x_call koct2_en126 rfl) rfl (hL) ?_
  rintro _ w4 ⟨rfl, rfl⟩
  refine L.val (x_add rfl rfl (wr64 (by omega))) rfl ?_
  refine L.val (x_quo rfl rfl (by decide) (wq64 (by omega) (by decide))) rfl ?_
  refine L.val (x_as (v := .int _ _) rfl) rfl ?_
  refine L.nil ?_
  refine thn_n ?_
  refine W.ret (fin_mk (.inr rfl) ?_)
  refine ⟨?_, rfl⟩
  unfold widN
  show Value.int .i64 _ = _
  congr 1
theorem widN_le {n : Nat} (hn : n < 18446744073709551616) : widN n ≤ 8 := by
  have hb := Lib.bitLen_le n 64 (by omega) hn
  unfold widN; omega
theorem own_of_boxT {w : World} {b k cap : Nat} {e : TypeId} {cs xs : List Value} (h : Box w b e cs) (hl : cs.length = cap) (hx : cs.take k = xs) (hk : k ≤ cap) (hm : cap ≤ 9223372036854775807) : Own w b e 1 (.slice (some ⟨b, 0, none⟩) k cap) k xs := by
  refine ⟨?_, .inr ⟨b, cap, cs.toArray, rfl, Nat.le_refl _, h, hk, by simp only [maxLen]; omega, by simpa using hl, by simpa using hx⟩⟩
  rw [← hx, List.length_take]; omega
theorem own_cells {w : World} {base b k c : Nat} {e : TypeId} {l : Str} (h : Own w base e 1 (.slice (some ⟨b, 0, none⟩) k c) k (l.map B8)) : ∀ j, j < l.length → w.cell? ⟨b, 0 + j, none⟩ = (l.map B8)[j]? := fun j hj => by
  rcases Own.open h with ⟨e1, -⟩ | ⟨b', cap, tl, e1, -, -, -, hb⟩
  · cases e1
  · cases e1
    have hj' : j < (l.map B8).length := by simpa using hj
    rw [List.getElem?_eq_getElem hj']
    exact hb.cell0 (by rw [List.getElem?_append_left hj', List.getElem?_eq_getElem hj'])
theorem number_ok (n : Nat) (hn : n < 18446744073709551616) (w : World) : Ret Try.prog 104 #[.int .u64 (n : Nat)] w fun v w' => v = S (numB n) ∧ Bel w w' := by
  have hw8 := widN_le hn
  refine ret_of_W Try.func104 rfl (Nat.le_of_ble_eq_true rfl) (res1 rfl) ?_
  have hB := Gr.refl (fun _ => False) w
  refine W.seq ?_
  refine W.region ?_
  refine L.val (x_as (v := S _) rfl) rfl ?_
  refine L.nil ?_
  refine thn_n ?_
  refine W.seq ?_
  refine W.seq ?_
  refine W.region ?_
  refine L.val (x_mv (v := .int _ _) rfl) rfl ?_
  refine L.val (x_lss rfl rfl) rfl ?_
  refine L.nil ?_
  refine thn_n ?_
  refine W.cond (b := _) rfl (fun g7 => ?_) (fun g7 => ?_)
  ·have h7 := of_decide_eq_true g7
   have hlt : n < 248 := by omega
   refine W.seq ?_
   refine W.region ?_
   refine L.val (x_mv (v := .int _ _) rfl) rfl ?_
   refine L.val (x_convB (by rw [Try.underlying53]; rfl) Try.underlying5 rfl) rfl ?_
   refine L.bs (sz := 1) (cells := [B8 (lowB (n : Nat))]) Try.underlying129 koct2_el5 rfl rfl rfl rfl (fun w10 bx10 hw hz10 => ?_)
   have hB := hB.carry hw
   refine L.val (x_b2s (l := [lowB (n : Nat)]) Try.underlying129 Try.underlying5 Try.underlying9 rfl rfl (fun j hj => bx10.row rfl j hj)) rfl ?_
   refine L.val (x_as (v := S _) rfl) rfl ?_
   refine L.nil ?_
   refine thn_n ?_
   refine W.ret (thn_r (fin_mk (.inr rfl) ?_))
   unfold numB
   rw [if_pos hlt]
   exact ⟨rfl, hB⟩
  ·have h7 := dlt_f g7
   have hge : ¬ n < 248 := by omega
   refine W.skip ?_
   refine thn_n ?_
   refine W.seq ?_
   refine W.region ?_
   refine L.val (x_mv (v := .int _ _) rfl) rfl ?_
   refine L.ret (x_call koct2_en127 rfl) rfl (width_ok n hn _) ?_
   rintro _ w13 ⟨rfl, hq13⟩
   rw [hq13]
   refine L.val (x_as (v := .int _ _) rfl) rfl ?_
   refine L.nil ?_
   refine thn_n ?_
   refine W.seq ?_
   refine W.region ?_
   refine L.mkkc (z := .int .u8 0) 1 9 Try.underlying129 koct2_el5 (by kernel_rfl) rfl rfl rfl (by omega) (by omega) rfl (fun w14 bx14 _ hw hz14 => ?_)
   have hB := hB.carry hw
   refine L.val (x_as (v := .slice _ _ _) rfl) rfl ?_
   refine L.nil ?_
   refine thn_n ?_
   refine W.seq ?_
   refine W.region ?_
   refine L.val (x_mv (v := .slice _ _ _) rfl) rfl ?_
   refine L.val (x_mv (v := .int _ _) rfl) rfl ?_
   refine L.val (x_add rfl rfl (wr64 (by omega))) rfl ?_
   refine L.val (x_convB (by rw [Try.underlying3]; rfl) Try.underlying5 rfl) rfl ?_
   refine L.val (x_ia1 (j := 0) Try.underlying129 koct2_sz5 rfl rfl rfl (by omega)) rfl ?_
   refine L.set (v := B8 (lowB (247 + (widN n : Nat)))) (i := 0 + 0) koct2_sz5 rfl rfl rfl bx14 rfl (fun wl19 bxN hw hzl19 => ?_)
   have hsB := hB.size
   have hB := hB.set hw (by omega)
   have hO0 := own_of_boxT (k := 1) (cap := 9) bxN rfl rfl (by omega) (by omega)
   refine L.nil ?_
   refine thn_n ?_
   refine W.seq ?_
   refine W.seq ?_
   refine W.region ?_
   refine L.val (x_mv (v := .int _ _) rfl) rfl ?_
   refine L.val (x_sub rfl rfl (wr64 (by omega))) rfl ?_
   refine L.val (x_as (v := .int _ _) rfl) rfl ?_
   refine L.nil ?_
   refine thn_n ?_
   refine W.block ?_
   refine W.loop (fun m' E w' => ∃ (j : Nat) (v4 : Value), m' = j ∧ E 0 = .int .u64 (n : Nat) ∧ E 4 = v4 ∧ E 5 = .int .i64 ((j : Nat) - 1) ∧ (j ≤ widN n) ∧ (Bel w w') ∧ (Own w' w.heap.size 5 1 v4 (1 + (widN n - j)) ((lowB (247 + (widN n : Nat)) :: (beN (widN n) n).take (widN n - j)).map B8))) (widN n) ?_ ?_
   ·exact ⟨widN n, _, by omega, by first | rfl | exact vi (by omega), by first | rfl | exact vi (by omega), by first | rfl | exact vi (by omega), (by first | assumption | omega | rfl), (by first | assumption | omega | rfl), (by rw [Nat.sub_self]; exact hO0)⟩
   ·rintro _ E wL22 ⟨j, v4, em, e0, e4, e5, hj, hB, hO⟩
    rw [upd_self e0, upd_self e4, upd_self e5]
    refine W.seq ?_
    refine W.seq ?_
    refine W.region ?_
    refine L.val (x_mv (v := .int _ _) rfl) rfl ?_
    refine L.val (x_geq rfl rfl) rfl ?_
    refine L.nil ?_
    refine thn_n ?_
    refine W.cond (b := _) rfl (fun g23 => ?_) (fun g23 => ?_)
    ·have h23 := of_decide_eq_true g23
     have hj1 : 1 ≤ j := by omega
     obtain ⟨a4, c4, e4, -⟩ := own_shape hO
     subst e4
     have hsk := hB.size
     have hlt := fun i (e : some i = _) => (Own.lt hO (j := i) e).1
     have eS : (8 * ((j : Int) - 1)).toNat = 8 * (widN n - 1 - (widN n - j)) := by omega
     refine W.skip ?_
     refine thn_n ?_
     refine W.seq ?_
     refine W.block ?_
     refine W.region ?_
     refine L.val (x_mv (v := .slice _ _ _) rfl) rfl ?_
     refine L.val (x_mv (v := .int _ _) rfl) rfl ?_
     refine L.val (x_mv (v := .int _ _) rfl) rfl ?_
     refine L.val (x_mul rfl rfl (wr64 (by omega))) rfl ?_
     refine L.val (x_conv (k' := .u64) (by rw [Try.underlying3]; rfl) Try.underlying176 rfl (wru64 (by omega))) rfl ?_
     refine L.val (x_shr rfl rfl (by omega) (by show _ ≤ ((64 : Nat) : Int); omega)) rfl ?_
     refine L.val (x_convB (by rw [Try.underlying53]; rfl) Try.underlying5 rfl) rfl ?_
     refine L.bs (sz := 1) (cells := [B8 (lowB ((n : Int) / 2 ^ (8 * ((j : Int) - 1)).toNat))]) Try.underlying129 koct2_el5 rfl rfl rfl rfl (fun w33 bx33 hw hz33 => ?_)
     have hB := hB.carry hw; have hO := hO.carry hw
     refine L.appendN (m := 1) Try.underlying129 koct2_el5 rfl rfl rfl hO rfl (holdsN_box bx33) (B8_one [_]) (by omega) (by have := hB.size; omega) (fun v34 w34 hO34 hg hob34 => ?_)
     have hB := hB.step hg (fun i hi e => by have := hlt i e; omega)
     have hO2 : Own w34 w.heap.size 5 1 v34 (1 + (widN n - (j - 1))) ((lowB (247 + (widN n : Nat)) :: (beN (widN n) n).take (widN n - (j - 1))).map B8) := by
       have e1 : widN n - (j - 1) = widN n - j + 1 := by omega
       rw [e1, beN_take (by omega), ← eS]
       simpa [Nat.add_assoc] using hO34
     obtain ⟨a34, c34, e34, -⟩ := own_shape hO34
     subst e34
     refine L.val (x_as (v := .slice _ _ _) rfl) rfl ?_
     refine L.nil ?_
     refine blk_n ?_
     refine thn_n ?_
     refine W.region ?_
     refine L.val (x_mv (v := .int _ _) rfl) rfl ?_
     refine L.val (x_sub rfl rfl (wr64 (by omega))) rfl ?_
     refine L.val (x_as (v := .int _ _) rfl) rfl ?_
     refine L.nil ?_
     refine thn_n ⟨rfl, ?_⟩
     refine ⟨_, ?_, j - 1, _, rfl, by first | rfl | exact vi (by omega), by first | rfl | exact vi (by omega), by first | rfl | exact vi (by omega), (by first | assumption | omega | rfl), (by first | assumption | omega | rfl), (by exact hO2)⟩
     omega
    ·have h23 := dle_f g23
     have hj0 : j = 0 := by omega
     subst hj0
     rw [Nat.sub_zero, List.take_of_length_le (by rw [beN_len]; exact Nat.le_refl _)] at hO
     rw [Nat.add_comm 1 (widN n)] at hO
     obtain ⟨b4, c4, e4⟩ := own_form hO
     subst e4
     refine W.exit (thn_x (thn_x (blk_hit ?_)))
     refine thn_n ?_
     refine W.seq ?_
     refine W.region ?_
     refine L.val (x_mv (v := .slice _ _ _) rfl) rfl ?_
     refine L.val (x_b2s (l := lowB (247 + (widN n : Nat)) :: beN (widN n) n) Try.underlying129 Try.underlying5 Try.underlying9 rfl (by simp [beN_len]) (own_cells hO)) rfl ?_
     refine L.val (x_as (v := S _) rfl) rfl ?_
     refine L.nil ?_
     refine thn_n ?_
     refine W.ret (fin_mk (.inr rfl) ?_)
     unfold numB
     rw [if_neg hge]
     exact ⟨rfl, hB⟩
theorem numB_len {n : Nat} (hn : n < 18446744073709551616) : (numB n).length ≤ 9 := by
  unfold numB
  have := widN_le hn
  split <;> simp [beN_len]; omega
theorem text_ok (s : Str) (hs : s.length ≤ 100000000) (w : World) : Ret Try.prog 88 #[S s] w fun v w' => v = S (textB s) ∧ Bel w w' := by
  have hl := numB_len (n := s.length) (by omega)
  refine ret_of_W Try.func88 rfl (Nat.le_of_ble_eq_true rfl) (res1 rfl) ?_
  refine W.seq ?_
  refine W.region ?_
  refine L.val (x_as (v := S _) rfl) rfl ?_
  refine L.nil ?_
  refine thn_n ?_
  refine W.seq ?_
  refine W.region ?_
  refine L.val (x_mv (v := S _) rfl) rfl ?_
  refine L.val (x_len_str Try.underlying9 rfl) rfl ?_
  refine L.val (x_conv (k' := .u64) (by rw [Try.underlying3]; rfl) Try.underlying53 rfl (wru64 (by omega))) rfl ?_
  refine L.ret (x_call koct2_en104 rfl) rfl (number_ok s.length (by omega) _) ?_
  rintro _ w6 ⟨rfl, hB⟩
  refine L.val (x_mv (v := S _) rfl) rfl ?_
  refine L.val (x_cat rfl rfl (by first | omega | (simp only [List.length_append, List.length_cons, List.length_nil]; omega))) rfl ?_
  refine L.val (x_as (v := S _) rfl) rfl ?_
  refine L.nil ?_
  refine thn_n ?_
  refine W.ret (fin_mk (.inr rfl) ?_)
  exact ⟨rfl, hB⟩
def stepC1 (r : Int) : Int := bits .xor .u32 (r / 2 ^ (1 : Int).toNat) (bits .and .u32 2197175160 (IntKind.u32.wrap (0 - bits .and .u32 r 1)))
def stepC : Nat → Int → Int
  | 0, r => r
  | k + 1, r => stepC1 (stepC k r)
def cplC (r : Int) : Int := bits .xor .u32 IntKind.u32.max r
def moreR (r : Int) (s : Str) : Int := s.foldl (fun r b => stepC 8 (bits .xor .u32 r (b.toNat : Nat))) r
def moreC (sum : Int) (s : Str) : Int := cplC (moreR (cplC sum) s)
theorem step_crc (r : Int) (w : World) : Ret Try.prog 141 #[.int .u32 r] w fun v w' => v = .int .u32 (stepC 8 r) ∧ w' = w := by
  refine ret_of_W Try.func141 rfl (Nat.le_of_ble_eq_true rfl) (res1 rfl) ?_
  refine W.seq ?_
  refine W.region ?_
  refine L.val (x_as (v := .int _ _) rfl) rfl ?_
  refine L.nil ?_
  refine thn_n ?_
  refine W.seq ?_
  refine W.seq ?_
  refine W.region ?_
  refine L.val (x_mv (v := .int _ _) rfl) rfl ?_
  refine L.nil ?_
  refine thn_n ?_
  refine W.block ?_
  refine W.loop (fun m' E w' => ∃ (k : Nat), m' = 8 - k ∧ E 0 = .int .u32 (stepC k r) ∧ E 4 = .int .i64 (k : Nat) ∧ (k ≤ 8) ∧ (w' = w)) (8) ?_ ?_
  ·exact ⟨0, by omega, by first | rfl | exact vi (by omega), by first | rfl | exact vi (by omega), (by first | assumption | omega | rfl), (by first | assumption | omega | rfl)⟩
  ·rintro _ E wL5 ⟨k, em, e0, e4, hk, hw0⟩
   rw [upd_self e0, upd_self e4]
   refine W.seq ?_
   refine W.region ?_
   refine L.val (x_lss rfl rfl) rfl ?_
   refine L.nil ?_
   refine thn_n ?_
   refine W.seq ?_
   refine W.cond (b := _) rfl (fun g5 => ?_) (fun g5 => ?_)
   ·have h5 := of_decide_eq_true g5
    refine W.skip ?_
    refine thn_n ?_
    refine W.seq ?_
    refine W.block ?_
    refine W.seq ?_
    refine W.region ?_
    refine L.val (x_mv (v := .int _ _) rfl) rfl ?_
    refine L.val (x_band rfl rfl) rfl ?_
    refine L.val (x_as (v := .int _ _) rfl) rfl ?_
    refine L.nil ?_
    refine thn_n ?_
    refine W.region ?_
    refine L.val (x_mv (v := .int _ _) rfl) rfl ?_
    refine L.val (x_shr rfl rfl (by omega) (by show _ ≤ ((32 : Nat) : Int); omega)) rfl ?_
    refine L.val (x_mv (v := .int _ _) rfl) rfl ?_
    refine L.val (x_neg rfl rfl) rfl ?_
    refine L.val (x_band rfl rfl) rfl ?_
    refine L.val (x_bxor rfl rfl) rfl ?_
    refine L.val (x_as (v := .int _ _) rfl) rfl ?_
    refine L.nil ?_
    refine blk_n ?_
    refine thn_n ?_
    refine W.region ?_
    refine L.val (x_add rfl rfl (wr64 (by omega))) rfl ?_
    refine L.val (x_mv (v := .int _ _) rfl) rfl ?_
    refine L.nil ?_
    refine thn_n ⟨rfl, ?_⟩
    refine ⟨_, ?_, k + 1, rfl, by first | rfl | exact vi (by omega), by first | rfl | exact vi (by omega), (by first | assumption | omega | rfl), (by first | assumption | omega | rfl)⟩
    omega
   ·have h5 := dlt_f g5
    refine W.exit (thn_x (thn_x (blk_hit ?_)))
    refine thn_n ?_
    refine W.seq ?_
    refine W.region ?_
    refine L.val (x_mv (v := .int _ _) rfl) rfl ?_
    refine L.val (x_as (v := .int _ _) rfl) rfl ?_
    refine L.nil ?_
    refine thn_n ?_
    refine W.ret (fin_mk (.inr rfl) ?_)
    have : k = 8 := by omega
    subst this
    exact ⟨rfl, hw0⟩
theorem moreR_take {r : Int} {s : Str} {k : Nat} (hk : k < s.length) : moreR r (s.take (k + 1)) = stepC 8 (bits .xor .u32 (moreR r (s.take k)) ((s.getD k 0).toNat : Nat)) := by
  unfold moreR
  rw [take_snoc (d := 0) hk, List.foldl_append]
  rfl
theorem more_crc (r : Int) (s : Str) (hs : s.length ≤ 9223372036854775807) (w : World) : Ret Try.prog 128 #[.int .u32 r, S s] w fun v w' => v = .int .u32 (moreC r s) ∧ w' = w := by
  refine ret_of_W Try.func128 rfl (Nat.le_of_ble_eq_true rfl) (res1 rfl) ?_
  refine W.seq ?_
  refine W.region ?_
  refine L.val (x_as (v := .int _ _) rfl) rfl ?_
  refine L.nil ?_
  refine thn_n ?_
  refine W.seq ?_
  refine W.region ?_
  refine L.val (x_mv (v := .int _ _) rfl) rfl ?_
  refine L.val (x_cpl rfl rfl) rfl ?_
  refine L.val (x_as (v := .int _ _) rfl) rfl ?_
  refine L.nil ?_
  refine thn_n ?_
  refine W.seq ?_
  refine W.seq ?_
  refine W.region ?_
  refine L.val (x_mv (v := S _) rfl) rfl ?_
  refine L.val (x_len_str Try.underlying9 rfl) rfl ?_
  refine L.val (x_mv (v := .int _ _) rfl) rfl ?_
  refine L.nil ?_
  refine thn_n ?_
  refine W.block ?_
  refine W.loop (fun m' E w' => ∃ (k : Nat), m' = s.length - k ∧ E 1 = S s ∧ E 5 = .int .u32 (moreR (cplC r) (s.take k)) ∧ E 10 = .int .i64 (s.length : Nat) ∧ E 11 = .int .i64 (k : Nat) ∧ (k ≤ s.length) ∧ (w' = w)) (s.length) ?_ ?_
  ·exact ⟨0, by omega, by first | rfl | exact vi (by omega) | exact vs (by first | assumption | (rw [hst]; done) | (rw [hst]; simp only [List.append_assoc])), by first | rfl | exact vi (by omega) | exact vs (by first | assumption | (rw [hst]; done) | (rw [hst]; simp only [List.append_assoc])), by first | rfl | exact vi (by omega) | exact vs (by first | assumption | (rw [hst]; done) | (rw [hst]; simp only [List.append_assoc])), by first | rfl | exact vi (by omega) | exact vs (by first | assumption | (rw [hst]; done) | (rw [hst]; simp only [List.append_assoc])), (by first | assumption | omega | rfl), (by first | assumption | omega | rfl)⟩
  ·rintro _ E wL12 ⟨k, em, e1, e5, e10, e11, hk, hw0⟩
   rw [upd_self e1, upd_self e5, upd_self e10, upd_self e11]
   refine W.seq ?_
   refine W.region ?_
   refine L.val (x_lss rfl rfl) rfl ?_
   refine L.nil ?_
   refine thn_n ?_
   refine W.seq ?_
   refine W.cond (b := _) rfl (fun g12 => ?_) (fun g12 => ?_)
   ·have h12 := of_decide_eq_true g12
    have hlt : k < s.length := by omega
    rw [hw0]
    have hb8 := b8_lt (s.getD k 0)
    have hst := moreR_take (r := cplC r) hlt
    refine W.skip ?_
    refine thn_n ?_
    refine W.seq ?_
    refine W.block ?_
    refine W.seq ?_
    refine W.region ?_
    refine L.val (x_mv (v := .int _ _) rfl) rfl ?_
    refine L.val (x_as (v := .int _ _) rfl) rfl ?_
    refine L.nil ?_
    refine thn_n ?_
    refine W.region ?_
    refine L.val (x_mv (v := .int _ _) rfl) rfl ?_
    refine L.val (x_mv (v := S _) rfl) rfl ?_
    refine L.val (x_mv (v := .int _ _) rfl) rfl ?_
    refine L.val (x_ixs (j := k) Try.underlying9 rfl rfl (by omega) (by omega)) rfl ?_
    refine L.val (x_conv (k' := .u32) (by rw [Try.underlying5]; rfl) Try.underlying177 rfl (wru32 (by omega))) rfl ?_
    refine L.val (x_bxor rfl rfl) rfl ?_
    refine L.ret (x_call koct2_en141 rfl) rfl (step_crc _ _) ?_
    rintro _ w20 ⟨rfl, hq⟩
    rw [hq, ← hst]
    refine L.val (x_as (v := .int _ _) rfl) rfl ?_
    refine L.nil ?_
    refine blk_n ?_
    refine thn_n ?_
    refine W.region ?_
    refine L.val (x_add rfl rfl (wr64 (by omega))) rfl ?_
    refine L.val (x_mv (v := .int _ _) rfl) rfl ?_
    refine L.nil ?_
    refine thn_n ⟨rfl, ?_⟩
    refine ⟨_, ?_, k + 1, rfl, by first | rfl | exact vi (by omega) | exact vs (by first | assumption | (rw [hst]; done) | (rw [hst]; simp only [List.append_assoc])), by first | rfl | exact vi (by omega) | exact vs (by first | assumption | (rw [hst]; done) | (rw [hst]; simp only [List.append_assoc])), by first | rfl | exact vi (by omega) | exact vs (by first | assumption | (rw [hst]; done) | (rw [hst]; simp only [List.append_assoc])), by first | rfl | exact vi (by omega) | exact vs (by first | assumption | (rw [hst]; done) | (rw [hst]; simp only [List.append_assoc])), (by first | assumption | omega | rfl), (by first | assumption | omega | rfl)⟩
    omega
   ·have h12 := dlt_f g12
    refine W.exit (thn_x (thn_x (blk_hit ?_)))
    refine thn_n ?_
    refine W.seq ?_
    refine W.region ?_
    refine L.val (x_mv (v := .int _ _) rfl) rfl ?_
    refine L.val (x_cpl rfl rfl) rfl ?_
    refine L.val (x_as (v := .int _ _) rfl) rfl ?_
    refine L.nil ?_
    refine thn_n ?_
    refine W.ret (fin_mk (.inr rfl) ?_)
    have : k = s.length := by omega
    subst this
    rw [List.take_length]
    exact ⟨rfl, hw0⟩
def crcS (s : Str) : Int := moreC 0 s
theorem sum_crc (A : Nat → Prop) (v : Value) (s : Str) (w : World) (h : StrsAt A w v [s]) : Ret Try.prog 105 #[v] w fun r w' => r = .int .u32 (crcS s) ∧ w' = w := by
  obtain ⟨p, c, rfl, h1, h2, h3, h4, -⟩ := id h
  have hs : s.length ≤ 9223372036854775807 := h4 s (by simp)
  obtain ⟨b, o, rfl, hc⟩ := h.elem (i := 0) (by simp)
  refine ret_of_W Try.func105 rfl (Nat.le_of_ble_eq_true rfl) (res1 rfl) ?_
  refine W.seq ?_
  refine W.region ?_
  refine L.val (x_as (v := .int _ _) rfl) rfl ?_
  refine L.nil ?_
  refine thn_n ?_
  refine W.seq ?_
  refine W.region ?_
  refine L.val (x_as (v := .int _ _) rfl) rfl ?_
  refine L.nil ?_
  refine thn_n ?_
  refine W.seq ?_
  refine W.seq ?_
  refine W.region ?_
  refine L.val (x_mv (v := .slice _ _ _) rfl) rfl ?_
  refine L.val (x_len_slice Try.underlying37 rfl) rfl ?_
  refine L.val (x_mv (v := .int _ _) rfl) rfl ?_
  refine L.nil ?_
  refine thn_n ?_
  refine W.block ?_
  refine W.loop (fun m' E w' => ∃ (k : Nat), m' = 1 - k ∧ E 3 = .int .u32 (if k = 0 then 0 else crcS s) ∧ E 6 = .slice (some ⟨b, o, none⟩) 1 c ∧ E 7 = .int .i64 1 ∧ E 8 = .int .i64 (k : Nat) ∧ (k ≤ 1) ∧ (w' = w)) (1) ?_ ?_
  ·exact ⟨0, by omega, by first | rfl | exact vi (by omega), by first | rfl | exact vi (by omega), by first | rfl | exact vi (by omega), by first | rfl | exact vi (by omega), (by first | assumption | omega | rfl), (by first | assumption | omega | rfl)⟩
  ·rintro _ E wL9 ⟨k, em, e3, e6, e7, e8, hk, hw0⟩
   rw [upd_self e3, upd_self e6, upd_self e7, upd_self e8]
   refine W.seq ?_
   refine W.region ?_
   refine L.val (x_lss rfl rfl) rfl ?_
   refine L.nil ?_
   refine thn_n ?_
   refine W.seq ?_
   refine W.cond (b := _) rfl (fun g9 => ?_) (fun g9 => ?_)
   ·have h9 := of_decide_eq_true g9
    have h0 : k = 0 := by omega
    subst h0
    rw [hw0]
    refine W.skip ?_
    refine thn_n ?_
    refine W.seq ?_
    refine W.block ?_
    refine W.seq ?_
    refine W.region ?_
    refine L.val (x_ia1 (j := 0) Try.underlying37 koct2_sz9 rfl rfl (by omega) (by omega)) rfl ?_
    refine L.val (x_ld (v := S _) koct2_oc9 rfl hc) rfl ?_
    refine L.val (x_as (v := S _) rfl) rfl ?_
    refine L.nil ?_
    refine thn_n ?_
    refine W.region ?_
    refine L.val (x_mv (v := .int _ _) rfl) rfl ?_
    refine L.val (x_mv (v := S _) rfl) rfl ?_
    refine L.ret (x_call koct2_en128 rfl) rfl (more_crc _ _ hs _) ?_
    rintro _ w14 ⟨rfl, hq⟩
    rw [hq]
    refine L.val (x_as (v := .int _ _) rfl) rfl ?_
    refine L.nil ?_
    refine blk_n ?_
    refine thn_n ?_
    refine W.region ?_
    refine L.val (x_add rfl rfl (wr64 (by omega))) rfl ?_
    refine L.val (x_mv (v := .int _ _) rfl) rfl ?_
    refine L.nil ?_
    refine thn_n ⟨rfl, ?_⟩
    refine ⟨_, ?_, 1, rfl, by first | rfl | exact vi (by omega), by first | rfl | exact vi (by omega), by first | rfl | exact vi (by omega), by first | rfl | exact vi (by omega), (by first | assumption | omega | rfl), (by first | assumption | omega | rfl)⟩
    omega
   ·have h9 := dlt_f g9
    refine W.exit (thn_x (thn_x (blk_hit ?_)))
    refine thn_n ?_
    refine W.seq ?_
    refine W.region ?_
    refine L.val (x_mv (v := .int _ _) rfl) rfl ?_
    refine L.val (x_as (v := .int _ _) rfl) rfl ?_
    refine L.nil ?_
    refine thn_n ?_
    refine W.ret (fin_mk (.inr rfl) ?_)
    have : k = 1 := by omega
    subst this
    exact ⟨rfl, hw0⟩
end Go.Gx
