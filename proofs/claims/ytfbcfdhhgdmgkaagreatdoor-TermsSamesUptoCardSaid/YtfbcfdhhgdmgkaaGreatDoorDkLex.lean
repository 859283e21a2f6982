/- Names and words: what the program's and the reference's lexers tell of a text. Conditions: none. -/
import Derived.Test.YtfbcfdhhgdmgkaaGreatDoorProg
import Derived.Test.YtfbcfdhhgdmgkaaGreatDoorDkApp
namespace Go.Gx
open Go.Proofs
theorem klex_el9:elT Tryz.prog 9 1=true:=by kernel_rfl
theorem klex_en106:Go.Proofs.Enters Tryz.prog 106:=Go.Proofs.enters_of Tryz.func106 kr_ rfl
theorem klex_en107:Go.Proofs.Enters Tryz.prog 107:=Go.Proofs.enters_of Tryz.func107 kr_ rfl
theorem klex_en121:Go.Proofs.Enters Tryz.prog 121:=Go.Proofs.enters_of Tryz.func121 kr_ rfl
theorem klex_en73:Go.Proofs.Enters Tryz.prog 73:=Go.Proofs.enters_of Tryz.func73 kr_ rfl
theorem klex_en74:Go.Proofs.Enters Tryz.prog 74:=Go.Proofs.enters_of Tryz.func74 kr_ rfl
theorem klex_en75:Go.Proofs.Enters Tryz.prog 75:=Go.Proofs.enters_of Tryz.func75 kr_ rfl
theorem klex_en81:Go.Proofs.Enters Tryz.prog 81:=Go.Proofs.enters_of Tryz.func81 kr_ rfl
theorem klex_en84:Go.Proofs.Enters Tryz.prog 84:=Go.Proofs.enters_of Tryz.func84 kr_ rfl
theorem klex_en85:Go.Proofs.Enters Tryz.prog 85:=Go.Proofs.enters_of Tryz.func85 kr_ rfl
theorem klex_en86:Go.Proofs.Enters Tryz.prog 86:=Go.Proofs.enters_of Tryz.func86 kr_ rfl
theorem klex_en88:Go.Proofs.Enters Tryz.prog 88:=Go.Proofs.enters_of Tryz.func88 kr_ rfl
theorem klex_en98:Go.Proofs.Enters Tryz.prog 98:=Go.Proofs.enters_of Tryz.func98 kr_ rfl
theorem klex_oc9:oneCellT Tryz.prog 9=true:=by kernel_rfl
theorem klex_sz9:(Tryz.prog.info? 9).map (·.size)=some 1:=by kernel_rfl
def isSmall (c:UInt8):Bool:=decide ((97:Int)≤(c.toNat:Int)) && decide ((c.toNat:Int)≤122)
def isGreat (c:UInt8):Bool:=decide ((65:Int)≤(c.toNat:Int)) && decide ((c.toNat:Int)≤90)
def isDigit (c:UInt8):Bool:=decide ((48:Int)≤(c.toNat:Int)) && decide ((c.toNat:Int)≤57)
def isRest (c:UInt8):Bool:=isSmall c || isGreat c || isDigit c || decide ((c.toNat:Int)=95)
theorem small06 (c:UInt8) (w:World):Ret Tryz.prog 84 #[.int .u8 c.toNat] w fun v w'=>v=.bool (isSmall c)∧Bel w w':=by
  refine ret_of_W Tryz.func84 rfl (Nat.le_of_ble_eq_true rfl) (res1 rfl) ?_;refine W.seq (W.region (L.val (x_as (v:=.bool _) rfl) rfl ?_));refine L.nil (thn_n (W.seq (W.region (L.val (x_mv (v:=.int _ _) rfl) rfl ?_))));refine L.val (x_geq rfl rfl) rfl ?_;refine L.val (x_mv (v:=.bool _) rfl) rfl ?_;refine' L.group0 2 6 7 7 5 true rfl ?_ ?_ ?_;rotate_left 1
  ·intro g5;have h5:=of_decide_eq_true g5;refine L.gyes' (dj:=5) (b:=_) rfl rfl g5 ?_;refine L.val (x_mv (v:=.int _ _) rfl) rfl ?_;refine L.gyes' (dj:=5) (b:=_) rfl rfl g5 ?_;refine L.val (x_leq rfl rfl) rfl ?_;refine L.nil (thn_n ⟨rfl,rfl,?_,rfl⟩);repeat (first | exact jeq.refl _ _ _ | refine jeq.upd rfl ?_ | refine jeq.jk rfl rfl ?_)
  ·intro g5;refine L.gno (dj:=5) (b:=_) rfl rfl g5 rfl ?_;refine L.gno (dj:=5) (b:=_) rfl rfl g5 rfl ?_;refine L.nil (thn_n ⟨rfl,rfl,?_⟩);repeat (first | exact jeq.refl _ _ _ | refine jeq.upd rfl ?_ | refine jeq.jk rfl rfl ?_)
  intro J5 j5;refine L.val (x_and rfl j5) rfl ?_;refine L.val (x_as (v:=.bool _) rfl) rfl ?_;refine L.nil (thn_n (W.ret (fin_mk (.inr rfl) ?_)));exact ⟨rfl,Gr.refl _ _⟩
theorem great06 (c:UInt8) (w:World):Ret Tryz.prog 88 #[.int .u8 c.toNat] w fun v w'=>v=.bool (isGreat c)∧Bel w w':=by
  refine ret_of_W Tryz.func88 rfl (Nat.le_of_ble_eq_true rfl) (res1 rfl) ?_;refine W.seq (W.region (L.val (x_as (v:=.bool _) rfl) rfl ?_));refine L.nil (thn_n (W.seq (W.region (L.val (x_mv (v:=.int _ _) rfl) rfl ?_))));refine L.val (x_geq rfl rfl) rfl ?_;refine L.val (x_mv (v:=.bool _) rfl) rfl ?_;refine' L.group0 2 6 7 7 5 true rfl ?_ ?_ ?_;rotate_left 1
  ·intro g5;have h5:=of_decide_eq_true g5;refine L.gyes' (dj:=5) (b:=_) rfl rfl g5 ?_;refine L.val (x_mv (v:=.int _ _) rfl) rfl ?_;refine L.gyes' (dj:=5) (b:=_) rfl rfl g5 ?_;refine L.val (x_leq rfl rfl) rfl ?_;refine L.nil (thn_n ⟨rfl,rfl,?_,rfl⟩);repeat (first | exact jeq.refl _ _ _ | refine jeq.upd rfl ?_ | refine jeq.jk rfl rfl ?_)
  ·intro g5;refine L.gno (dj:=5) (b:=_) rfl rfl g5 rfl ?_;refine L.gno (dj:=5) (b:=_) rfl rfl g5 rfl ?_;refine L.nil (thn_n ⟨rfl,rfl,?_⟩);repeat (first | exact jeq.refl _ _ _ | refine jeq.upd rfl ?_ | refine jeq.jk rfl rfl ?_)
  intro J5 j5;refine L.val (x_and rfl j5) rfl ?_;refine L.val (x_as (v:=.bool _) rfl) rfl ?_;refine L.nil (thn_n (W.ret (fin_mk (.inr rfl) ?_)));exact ⟨rfl,Gr.refl _ _⟩
theorem digit06 (c:UInt8) (w:World):Ret Tryz.prog 106 #[.int .u8 c.toNat] w fun v w'=>v=.bool (isDigit c)∧Bel w w':=by
  refine ret_of_W Tryz.func106 rfl (Nat.le_of_ble_eq_true rfl) (res1 rfl) ?_;refine W.seq (W.region (L.val (x_as (v:=.bool _) rfl) rfl ?_));refine L.nil (thn_n (W.seq (W.region (L.val (x_mv (v:=.int _ _) rfl) rfl ?_))));refine L.val (x_geq rfl rfl) rfl ?_;refine L.val (x_mv (v:=.bool _) rfl) rfl ?_;refine' L.group0 2 6 7 7 5 true rfl ?_ ?_ ?_;rotate_left 1
  ·intro g5;have h5:=of_decide_eq_true g5;refine L.gyes' (dj:=5) (b:=_) rfl rfl g5 ?_;refine L.val (x_mv (v:=.int _ _) rfl) rfl ?_;refine L.gyes' (dj:=5) (b:=_) rfl rfl g5 ?_;refine L.val (x_leq rfl rfl) rfl ?_;refine L.nil (thn_n ⟨rfl,rfl,?_,rfl⟩);repeat (first | exact jeq.refl _ _ _ | refine jeq.upd rfl ?_ | refine jeq.jk rfl rfl ?_)
  ·intro g5;refine L.gno (dj:=5) (b:=_) rfl rfl g5 rfl ?_;refine L.gno (dj:=5) (b:=_) rfl rfl g5 rfl ?_;refine L.nil (thn_n ⟨rfl,rfl,?_⟩);repeat (first | exact jeq.refl _ _ _ | refine jeq.upd rfl ?_ | refine jeq.jk rfl rfl ?_)
  intro J5 j5;refine L.val (x_and rfl j5) rfl ?_;refine L.val (x_as (v:=.bool _) rfl) rfl ?_;refine L.nil (thn_n (W.ret (fin_mk (.inr rfl) ?_)));exact ⟨rfl,Gr.refl _ _⟩
theorem smallL (c:UInt8) (w:World):Ret Tryz.prog 74 #[.int .u8 c.toNat] w fun v w'=>v=.bool (isSmall c)∧Bel w w':=by
  refine ret_of_W Tryz.func74 rfl (Nat.le_of_ble_eq_true rfl) (res1 rfl) ?_;refine W.seq (W.region (L.val (x_as (v:=.bool _) rfl) rfl ?_));refine L.nil (thn_n (W.seq (W.region (L.val (x_mv (v:=.int _ _) rfl) rfl ?_))));refine L.val (x_geq rfl rfl) rfl ?_;refine L.val (x_mv (v:=.bool _) rfl) rfl ?_;refine' L.group0 2 6 7 7 5 true rfl ?_ ?_ ?_;rotate_left 1
  ·intro g5;have h5:=of_decide_eq_true g5;refine L.gyes' (dj:=5) (b:=_) rfl rfl g5 ?_;refine L.val (x_mv (v:=.int _ _) rfl) rfl ?_;refine L.gyes' (dj:=5) (b:=_) rfl rfl g5 ?_;refine L.val (x_leq rfl rfl) rfl ?_;refine L.nil (thn_n ⟨rfl,rfl,?_,rfl⟩);repeat (first | exact jeq.refl _ _ _ | refine jeq.upd rfl ?_ | refine jeq.jk rfl rfl ?_)
  ·intro g5;refine L.gno (dj:=5) (b:=_) rfl rfl g5 rfl ?_;refine L.gno (dj:=5) (b:=_) rfl rfl g5 rfl ?_;refine L.nil (thn_n ⟨rfl,rfl,?_⟩);repeat (first | exact jeq.refl _ _ _ | refine jeq.upd rfl ?_ | refine jeq.jk rfl rfl ?_)
  intro J5 j5;refine L.val (x_and rfl j5) rfl ?_;refine L.val (x_as (v:=.bool _) rfl) rfl ?_;refine L.nil (thn_n (W.ret (fin_mk (.inr rfl) ?_)));exact ⟨rfl,Gr.refl _ _⟩
theorem greatL (c:UInt8) (w:World):Ret Tryz.prog 81 #[.int .u8 c.toNat] w fun v w'=>v=.bool (isGreat c)∧Bel w w':=by
  refine ret_of_W Tryz.func81 rfl (Nat.le_of_ble_eq_true rfl) (res1 rfl) ?_;refine W.seq (W.region (L.val (x_as (v:=.bool _) rfl) rfl ?_));refine L.nil (thn_n (W.seq (W.region (L.val (x_mv (v:=.int _ _) rfl) rfl ?_))));refine L.val (x_geq rfl rfl) rfl ?_;refine L.val (x_mv (v:=.bool _) rfl) rfl ?_;refine' L.group0 2 6 7 7 5 true rfl ?_ ?_ ?_;rotate_left 1
  ·intro g5;have h5:=of_decide_eq_true g5;refine L.gyes' (dj:=5) (b:=_) rfl rfl g5 ?_;refine L.val (x_mv (v:=.int _ _) rfl) rfl ?_;refine L.gyes' (dj:=5) (b:=_) rfl rfl g5 ?_;refine L.val (x_leq rfl rfl) rfl ?_;refine L.nil (thn_n ⟨rfl,rfl,?_,rfl⟩);repeat (first | exact jeq.refl _ _ _ | refine jeq.upd rfl ?_ | refine jeq.jk rfl rfl ?_)
  ·intro g5;refine L.gno (dj:=5) (b:=_) rfl rfl g5 rfl ?_;refine L.gno (dj:=5) (b:=_) rfl rfl g5 rfl ?_;refine L.nil (thn_n ⟨rfl,rfl,?_⟩);repeat (first | exact jeq.refl _ _ _ | refine jeq.upd rfl ?_ | refine jeq.jk rfl rfl ?_)
  intro J5 j5;refine L.val (x_and rfl j5) rfl ?_;refine L.val (x_as (v:=.bool _) rfl) rfl ?_;refine L.nil (thn_n (W.ret (fin_mk (.inr rfl) ?_)));exact ⟨rfl,Gr.refl _ _⟩
theorem digitL (c:UInt8) (w:World):Ret Tryz.prog 121 #[.int .u8 c.toNat] w fun v w'=>v=.bool (isDigit c)∧Bel w w':=by
  refine ret_of_W Tryz.func121 rfl (Nat.le_of_ble_eq_true rfl) (res1 rfl) ?_;refine W.seq (W.region (L.val (x_as (v:=.bool _) rfl) rfl ?_));refine L.nil (thn_n (W.seq (W.region (L.val (x_mv (v:=.int _ _) rfl) rfl ?_))));refine L.val (x_geq rfl rfl) rfl ?_;refine L.val (x_mv (v:=.bool _) rfl) rfl ?_;refine' L.group0 2 6 7 7 5 true rfl ?_ ?_ ?_;rotate_left 1
  ·intro g5;have h5:=of_decide_eq_true g5;refine L.gyes' (dj:=5) (b:=_) rfl rfl g5 ?_;refine L.val (x_mv (v:=.int _ _) rfl) rfl ?_;refine L.gyes' (dj:=5) (b:=_) rfl rfl g5 ?_;refine L.val (x_leq rfl rfl) rfl ?_;refine L.nil (thn_n ⟨rfl,rfl,?_,rfl⟩);repeat (first | exact jeq.refl _ _ _ | refine jeq.upd rfl ?_ | refine jeq.jk rfl rfl ?_)
  ·intro g5;refine L.gno (dj:=5) (b:=_) rfl rfl g5 rfl ?_;refine L.gno (dj:=5) (b:=_) rfl rfl g5 rfl ?_;refine L.nil (thn_n ⟨rfl,rfl,?_⟩);repeat (first | exact jeq.refl _ _ _ | refine jeq.upd rfl ?_ | refine jeq.jk rfl rfl ?_)
  intro J5 j5;refine L.val (x_and rfl j5) rfl ?_;refine L.val (x_as (v:=.bool _) rfl) rfl ?_;refine L.nil (thn_n (W.ret (fin_mk (.inr rfl) ?_)));exact ⟨rfl,Gr.refl _ _⟩
def words:List Str:=[[109,111,100,117,108,101],[105,109,112,111,114,116],[112,105,110],[114,97,110,103,101],[116,121,112,101],[111,112,97,113,117,101],[108,101,116],[105,110],[101,120,112,111,114,116],[102,117,110],[105,102],[116,104,101,110],[101,108,115,101],[99,97,115,101],[111,102],[97,115],[110,101,119],[114,97,119],[116,114,117,101],[102,97,108,115,101]]
def wordS (s:Str):Bool:=words.contains s
def headIs (p:UInt8→Bool):Str→Bool
  | []=>false
  | c :: _=>p c
def namedS (p:UInt8→Bool) (s:Str):Bool:=headIs p s && decide (s.length≤24) && s.all isRest
def nameS (s:Str):Bool:=namedS isSmall s && !wordS s
def upperS (s:Str):Bool:=namedS isGreat s
theorem headIs_get {p:UInt8→Bool} {s:Str} (h:0<s.length):p (s.getD 0 0)=headIs p s:=by
  cases s with
  | nil=>simp at h
  | cons c s=>rfl
theorem takeWhile_is {p:UInt8→Bool} {s:Str} {k:Nat} (h:k<(s.takeWhile p).length) (hl:k<s.length):p (s.getD k 0)=true:=by
  induction s generalizing k with
  | nil=>simp at hl
  | cons c s ih=>
    rw [List.takeWhile_cons] at h;by_cases hc:p c=true
    · rw [if_pos hc] at h;cases k with
      | zero=>exact hc
      | succ k=>exact ih (by simpa using h) (by simpa using hl)
    · rw [if_neg hc] at h;simp at h
theorem takeWhile_next {p:UInt8→Bool} {s:Str} {k:Nat} (hl:k<s.length) (hk:k≤(s.takeWhile p).length) (h:p (s.getD k 0)=true):k+1≤(s.takeWhile p).length:=by
  induction s generalizing k with
  | nil=>simp at hl
  | cons c s ih=>
    rw [List.takeWhile_cons] at hk ⊢;by_cases hc:p c=true
    · rw [if_pos hc] at hk ⊢;cases k with
      | zero=>simp
      | succ k=>have:=ih (k:=k) (by simpa using hl) (by simpa using hk) (by simpa using h);simpa using this
    · rw [if_neg hc] at hk;have:k=0:=by simpa using hk
      subst this;exact absurd h hc
theorem rest06 (s:Str) (hs:s.length≤9223372036854775807) (w:World):Ret Tryz.prog 85 #[S s] w fun v w'=>v=.int .i64 ((s.takeWhile isRest).length:Nat)∧Bel w w':=by
  refine ret_of_W Tryz.func85 rfl (Nat.le_of_ble_eq_true rfl) (res1 rfl) ?_;refine W.seq (W.region (L.val (x_as (v:=.int _ _) rfl) rfl ?_));refine L.nil (thn_n (W.seq (W.region (L.val (x_as (v:=.int _ _) rfl) rfl ?_))));refine L.nil (thn_n (W.seq (W.block (W.loop (fun m E w'=>Bel w w'∧∃ k:Nat,k≤(s.takeWhile isRest).length∧m=s.length - k∧E 3=.int .i64 (k:Nat)∧E 0=S s) (s.length) ?_ ?_))))
  ·exact ⟨Gr.refl _ _,0,by omega,rfl,rfl,rfl⟩
  ·rintro m E w0 ⟨hB,k,hk,rfl,e3,e0⟩;have hk':k≤s.length:=Nat.le_trans hk (List.takeWhile_sublist _).length_le;rw [upd_self e3,upd_self e0];refine W.seq (W.seq (W.region (L.val (x_mv (v:=.int _ _) rfl) rfl ?_)));refine L.val (x_mv (v:=S _) rfl) rfl ?_;refine L.val (x_len_str Tryz.underlying9 rfl) rfl ?_;refine L.val (x_lss rfl rfl) rfl ?_;refine L.val (x_mv (v:=.bool _) rfl) rfl ?_;refine' L.group 22 9 30 30 8 true rfl ?_ ?_ ?_;rotate_left 1
   ·intro g8 hg8;have h8:=of_decide_eq_true g8;refine L.gyes' (dj:=8) (b:=_) rfl rfl g8 ?_;refine L.val (x_mv (v:=S _) rfl) rfl ?_;refine L.gyes' (dj:=8) (b:=_) rfl rfl g8 ?_;refine L.val (x_mv (v:=.int _ _) rfl) rfl ?_;refine L.gyes' (dj:=8) (b:=_) rfl rfl g8 ?_;refine L.val (x_ixs  Tryz.underlying9 rfl rfl rfl om_) rfl ?_;refine L.gyes' (dj:=8) (b:=_) rfl rfl g8 ?_;refine L.ret (x_call klex_en84 rfl) rfl (small06 _ _) ?_;rintro _ w12 ⟨rfl,hw⟩;have hB:=hB.carry hw;have hg8:=hg8.carry hw;refine L.gyes' (dj:=8) (b:=_) rfl rfl g8 ?_;refine L.val (x_mv (v:=.bool _) rfl) rfl ?_;refine' L.group 4 14 17 17 13 false rfl ?_ ?_ ?_;rotate_left 1
    ·intro g13 hg13;have h13:=g13;refine L.gyes' (dj:=13) (b:=_) rfl rfl g13 ?_;refine L.val (x_mv (v:=S _) rfl) rfl ?_;refine L.gyes' (dj:=13) (b:=_) rfl rfl g13 ?_;refine L.val (x_mv (v:=.int _ _) rfl) rfl ?_;refine L.gyes' (dj:=13) (b:=_) rfl rfl g13 ?_;refine L.val (x_ixs  Tryz.underlying9 rfl rfl rfl om_) rfl ?_;refine L.gyes' (dj:=13) (b:=_) rfl rfl g13 ?_;refine L.ret (x_call klex_en88 rfl) rfl (great06 _ _) ?_;rintro _ w17 ⟨rfl,hw⟩;have hB:=hB.carry hw;have hg8:=hg8.carry hw;have hg13:=hg13.carry hw;refine L.nil (thn_n ⟨rfl,?_,?_,fun _=>rfl⟩)
     ·exact hg13
     ·repeat (first | exact jeq.refl _ _ _ | refine jeq.upd rfl ?_ | refine jeq.jk rfl rfl ?_)
    ·intro g13;(iterate 4 refine L.gno (dj:=13) (b:=_) rfl rfl g13 rfl ?_);refine L.nil (thn_n ⟨rfl,Gr.refl _ _,?_⟩);refine ⟨?_,fun h=>h.elim⟩;repeat (first | exact jeq.refl _ _ _ | refine jeq.upd rfl ?_ | refine jeq.jk rfl rfl ?_)
    intro J13 w13 hw j13;have hB:=hB.carry hw;have hg8:=hg8.carry hw;refine L.gyes' (dj:=8) (b:=_) rfl rfl g8 ?_;refine L.val (x_or rfl j13) rfl ?_;refine L.gyes' (dj:=8) (b:=_) rfl rfl g8 ?_;refine L.val (x_mv (v:=.bool _) rfl) rfl ?_;refine' L.group 4 20 23 23 19 false rfl ?_ ?_ ?_;rotate_left 1
    ·intro g19 hg19;have h19:=g19;refine L.gyes' (dj:=19) (b:=_) rfl rfl g19 ?_;refine L.val (x_mv (v:=S _) rfl) rfl ?_;refine L.gyes' (dj:=19) (b:=_) rfl rfl g19 ?_;refine L.val (x_mv (v:=.int _ _) rfl) rfl ?_;refine L.gyes' (dj:=19) (b:=_) rfl rfl g19 ?_;refine L.val (x_ixs  Tryz.underlying9 rfl rfl rfl om_) rfl ?_;refine L.gyes' (dj:=19) (b:=_) rfl rfl g19 ?_;refine L.ret (x_call klex_en106 rfl) rfl (digit06 _ _) ?_;rintro _ w23 ⟨rfl,hw⟩;have hB:=hB.carry hw;have hg8:=hg8.carry hw;have hg19:=hg19.carry hw;refine L.nil (thn_n ⟨rfl,?_,?_,fun _=>rfl⟩)
     ·exact hg19
     ·repeat (first | exact jeq.refl _ _ _ | refine jeq.upd rfl ?_ | refine jeq.jk rfl rfl ?_)
    ·intro g19;(iterate 4 refine L.gno (dj:=19) (b:=_) rfl rfl g19 rfl ?_);refine L.nil (thn_n ⟨rfl,Gr.refl _ _,?_⟩);refine ⟨?_,fun h=>h.elim⟩;repeat (first | exact jeq.refl _ _ _ | refine jeq.upd rfl ?_ | refine jeq.jk rfl rfl ?_)
    intro J19 w19 hw j19;have hB:=hB.carry hw;have hg8:=hg8.carry hw;refine L.gyes' (dj:=8) (b:=_) rfl rfl g8 ?_;refine L.val (x_or rfl j19) rfl ?_;refine L.gyes' (dj:=8) (b:=_) rfl rfl g8 ?_;refine L.val (x_mv (v:=.bool _) rfl) rfl ?_;refine' L.group0 4 26 29 29 25 false rfl ?_ ?_ ?_;rotate_left 1
    ·intro g25;have h25:=g25;refine L.gyes' (dj:=25) (b:=_) rfl rfl g25 ?_;refine L.val (x_mv (v:=S _) rfl) rfl ?_;refine L.gyes' (dj:=25) (b:=_) rfl rfl g25 ?_;refine L.val (x_mv (v:=.int _ _) rfl) rfl ?_;refine L.gyes' (dj:=25) (b:=_) rfl rfl g25 ?_;refine L.val (x_ixs  Tryz.underlying9 rfl rfl rfl om_) rfl ?_;refine L.gyes' (dj:=25) (b:=_) rfl rfl g25 ?_;refine L.val (x_eql rfl rfl) rfl ?_;refine L.nil (thn_n ⟨rfl,rfl,?_,rfl⟩);repeat (first | exact jeq.refl _ _ _ | refine jeq.upd rfl ?_ | refine jeq.jk rfl rfl ?_)
    ·intro g25;(iterate 4 refine L.gno (dj:=25) (b:=_) rfl rfl g25 rfl ?_);refine L.nil (thn_n ⟨rfl,rfl,?_⟩);repeat (first | exact jeq.refl _ _ _ | refine jeq.upd rfl ?_ | refine jeq.jk rfl rfl ?_)
    intro J25 j25;refine L.gyes' (dj:=8) (b:=_) rfl rfl g8 ?_;refine L.val (x_or rfl j25) rfl ?_;refine L.nil (thn_n ⟨rfl,?_,?_,fun _=>rfl⟩)
    ·exact hg8
    ·repeat (first | exact jeq.refl _ _ _ | refine jeq.upd rfl ?_ | refine jeq.jk rfl rfl ?_)
   ·intro g8;(iterate 5 refine L.gno (dj:=8) (b:=_) rfl rfl g8 rfl ?_);(iterate 4 refine L.gun (dj:=13) rfl rfl rfl ?_);refine L.gno (dj:=8) (b:=_) rfl rfl g8 rfl ?_;refine L.gno (dj:=8) (b:=_) rfl rfl g8 rfl ?_;(iterate 4 refine L.gun (dj:=19) rfl rfl rfl ?_);refine L.gno (dj:=8) (b:=_) rfl rfl g8 rfl ?_;refine L.gno (dj:=8) (b:=_) rfl rfl g8 rfl ?_;(iterate 4 refine L.gun (dj:=25) rfl rfl rfl ?_);refine L.gno (dj:=8) (b:=_) rfl rfl g8 rfl ?_;refine L.nil (thn_n ⟨rfl,Gr.refl _ _,?_⟩);refine ⟨?_,fun h=>h.elim⟩;repeat (first | exact jeq.refl _ _ _ | refine jeq.upd rfl ?_ | refine jeq.jk rfl rfl ?_)
   intro J8 w8 hw j8;have hB:=hB.carry hw;refine L.val (x_and rfl j8) rfl ?_;refine L.nil (thn_n (W.cond (b:=_) rfl (fun g31=>?_) (fun g31=>?_)))
   ·have h31:=g31;have hlt:k<s.length:=by simp only [Bool.and_eq_true,decide_eq_true_eq] at h31;omega
    have hR:isRest (s.getD k 0)=true:=by
      simp only [Bool.and_eq_true] at h31;exact h31.2
    refine W.skip (thn_n (W.block (W.region (L.val (x_mv (v:=.int _ _) rfl) rfl ?_))));refine L.val (x_add rfl rfl (wr64 om_)) rfl ?_;refine L.val (x_as (v:=.int _ _) rfl) rfl ?_;refine L.nil (blk_n (thn_n ⟨rfl,?_⟩));exact ⟨s.length - (k+1),by omega,hB,k+1,takeWhile_next hlt hk hR,rfl,rfl,rfl⟩
   ·have h31:=g31;have hE:k=(s.takeWhile isRest).length:=by
      rcases Nat.lt_or_ge k (s.takeWhile isRest).length with hlt | hge
      · exfalso;have hl:k<s.length:=Nat.lt_of_lt_of_le hlt (List.takeWhile_sublist _).length_le;have hr:=takeWhile_is hlt hl;have:decide ((k:Int)<(s.length:Int))=true:=by simp;omega
        rw [this,Bool.true_and] at h31;have h32:isRest (s.getD k 0)=false:=h31;rw [hr] at h32;cases h32
      · omega
    refine W.exit (thn_x (thn_x (blk_hit ?_)));refine thn_n (W.seq (W.region (L.val (x_mv (v:=.int _ _) rfl) rfl ?_)));refine L.val (x_as (v:=.int _ _) rfl) rfl ?_;refine L.nil (thn_n (W.ret (fin_mk (.inr rfl) ?_)));exact ⟨by rw [← hE];rfl,hB⟩
theorem contains_snoc {l:List Str} {s:Str} {k:Nat} (hk:k<l.length) (h:(l.take k).contains s=false) (hn:s≠l.getD k []):(l.take (k+1)).contains s=false:=by
  rw [List.getD_eq_getElem?_getD,List.getElem?_eq_getElem hk,Option.getD_some] at hn;rw [List.take_succ_eq_append_getElem hk];simp only [List.contains_eq_mem,decide_eq_false_iff_not,List.mem_append,List.mem_singleton] at h ⊢;exact fun h'=>h'.elim h hn
theorem contains_hit {l:List Str} {s:Str} {k:Nat} (hk:k<l.length) (h:s=l.getD k []):l.contains s=true:=by
  rw [List.getD_eq_getElem?_getD,List.getElem?_eq_getElem hk,Option.getD_some] at h;rw [h];simp
theorem among06 (A:Nat→Prop) (s:Str) (v:Value) (l:List Str) (w:World) (hl:StrsAt A w v l):Ret Tryz.prog 107 #[S s,v] w fun v w'=>v=.bool (l.contains s)∧Bel w w':=by
  obtain ⟨p,cap,rfl,h1,h2,h3,-,hl⟩:=hl;refine ret_of_W Tryz.func107 rfl (Nat.le_of_ble_eq_true rfl) (res1 rfl) ?_;refine W.seq (W.region (L.val (x_as (v:=.bool _) rfl) rfl ?_));refine L.nil (thn_n (W.seq (W.seq (W.region (L.val (x_as (v:=.int _ _) rfl) rfl ?_)))));refine L.nil (thn_n (W.block (W.loop (fun m E w'=>w'=w∧∃ k:Nat,k≤l.length∧m=l.length - k∧E 5=.int .i64 (k:Nat)∧E 0=S s∧E 1=.slice p l.length cap∧(l.take k).contains s=false) (l.length) ?_ ?_)))
  ·exact ⟨rfl,0,by omega,rfl,rfl,rfl,rfl,by simp⟩
  ·rintro m E w0 ⟨rfl,k,hk,rfl,e5,e0,e1,hn⟩;rw [upd_self e5,upd_self e0,upd_self e1];refine W.seq (W.seq (W.region (L.val (x_mv (v:=.int _ _) rfl) rfl ?_)));refine L.val (x_mv (v:=.slice _ _ _) rfl) rfl ?_;refine L.val (x_len_slice Tryz.underlying22 rfl) rfl ?_;refine L.val (x_lss rfl rfl) rfl ?_;refine L.nil (thn_n (W.cond (b:=_) rfl (fun g9=>?_) (fun g9=>?_)))
   ·have h9:=of_decide_eq_true g9;have hlt:k<l.length:=by omega
    obtain ⟨b,o,rfl,hA,hc⟩:=hl (by rintro rfl;simp at hlt);refine W.skip (thn_n (W.seq (W.block (W.seq (W.region (L.val (x_mv (v:=S _) rfl) rfl ?_))))));refine L.val (x_mv (v:=.slice _ _ _) rfl) rfl ?_;refine L.val (x_mv (v:=.int _ _) rfl) rfl ?_;refine L.val (x_ia1  Tryz.underlying22 klex_sz9 rfl rfl rfl om_) rfl ?_;refine L.val (x_ld (v:=S _) klex_oc9 rfl (hc k hlt)) rfl ?_;refine L.val (x_eqs rfl rfl) rfl ?_;refine L.nil (thn_n (W.cond (b:=_) rfl (fun g17=>?_) (fun g17=>?_)))
    ·have h17:=seq_t g17;refine W.seq (W.region (L.val (x_as (v:=.bool _) rfl) rfl ?_));refine L.nil (thn_n (W.ret (blk_r (thn_r (thn_r (blk_r (thn_r (fin_mk (.inr rfl) ?_))))))));exact ⟨by rw [contains_hit hlt h17];rfl,Gr.refl _ _⟩
    ·have h17:=seq_f g17;refine W.skip (blk_n (thn_n (W.region (L.val (x_mv (v:=.int _ _) rfl) rfl ?_))));refine L.val (x_add rfl rfl (wr64 om_)) rfl ?_;refine L.val (x_as (v:=.int _ _) rfl) rfl ?_;refine L.nil (thn_n ⟨rfl,?_⟩);exact ⟨l.length - (k+1),by omega,rfl,k+1,by omega,rfl,rfl,rfl,rfl,contains_snoc hlt hn h17⟩
   ·have h9:=dlt_f g9;refine W.exit (thn_x (thn_x (blk_hit ?_)));refine thn_n (W.seq (W.region (L.val (x_as (v:=.bool _) rfl) rfl ?_)));refine L.nil (thn_n (W.ret (fin_mk (.inr rfl) ?_)));have:k=l.length:=by omega
    subst this;rw [List.take_length] at hn;exact ⟨by rw [hn];rfl,Gr.refl _ _⟩
theorem word06 (s:Str) (w:World):Ret Tryz.prog 86 #[S s] w fun v w'=>v=.bool (wordS s)∧Bel w w':=by
  refine ret_of_W Tryz.func86 rfl (Nat.le_of_ble_eq_true rfl) (res1 rfl) ?_;refine W.seq (W.region (L.val (x_as (v:=.bool _) rfl) rfl ?_));refine L.nil (thn_n (W.seq (W.region (L.val (x_mv (v:=S _) rfl) rfl ?_))));refine L.bs (sz:=1) (cells:=words.map S) Tryz.underlying22 klex_el9 rfl rfl rfl rfl (fun w4 bx4 hw hz4=>?_);have hB:=hw;refine L.ret (x_call klex_en107 rfl) rfl (among06 (fun _=>False) s _ words _ (strs_of_box words bx4 (fun f=>f) (by decide) (by decide))) ?_;rintro _ w5 ⟨rfl,hw⟩;have bx4:=bx4.carry hw;refine L.val (x_as (v:=.bool _) rfl) rfl ?_;refine L.nil (thn_n (W.ret (fin_mk (.inr rfl) ?_)));exact ⟨rfl,hB.carry hw⟩
theorem takeWhile_all {p:UInt8→Bool} (s:Str):decide (((s.takeWhile p).length:Int)=(s.length:Int))=s.all p:=by
  rw [Bool.eq_iff_iff,decide_eq_true_eq,List.all_eq_true];constructor
  · intro h x hx;have:s.takeWhile p=s:=(List.takeWhile_sublist p).eq_of_length om_;rw [← this] at hx;have h2:=List.all_takeWhile (p:=p) (l:=s);rw [List.all_eq_true] at h2;exact h2 x hx
  · intro h;have:s.takeWhile p=s:=by
      induction s with
      | nil=>rfl
      | cons c s ih=>rw [List.takeWhile_cons,if_pos (h c (by simp)),ih (fun x hx=>h x (by simp [hx]))]
    rw [this]
theorem nonempty_of {s:Str} (h:(!(s == []))=true):0<s.length:=by
  cases s with
  | nil=>simp at h
  | cons c s=>simp
theorem namedS_alt (p:UInt8→Bool) (s:Str):(!(s == []) && decide ((s.length:Int)≤24) && p (s.getD 0 0) && decide (((s.takeWhile isRest).length:Int)=(s.length:Int)))=namedS p s:=by
  rw [takeWhile_all];unfold namedS;have e:decide ((s.length:Int)≤24)=decide (s.length≤24):=by rw [Bool.eq_iff_iff];simp;omega
  cases s with
  | nil=>rfl
  | cons c s=>
    rw [e];show (true && _ && p c && _)=(p c && _ && _);cases decide ((c :: s).length≤24) <;> cases p c <;> rfl
theorem name06 (s:Str) (hs:s.length≤9223372036854775807) (w:World):Ret Tryz.prog 57 #[S s] w fun v w'=>v=.bool (nameS s)∧Bel w w':=by
  refine ret_of_W Tryz.func57 rfl (Nat.le_of_ble_eq_true rfl) (res1 rfl) ?_;have hB:=Gr.refl (fun _=>False) w;refine W.seq (W.region (L.val (x_as (v:=.bool _) rfl) rfl ?_));refine L.nil (thn_n (W.seq (W.region (L.val (x_mv (v:=S _) rfl) rfl ?_))));refine L.val (x_nes rfl rfl) rfl ?_;refine L.val (x_mv (v:=.bool _) rfl) rfl ?_;refine' L.group0 3 6 8 8 5 true rfl ?_ ?_ ?_;rotate_left 1
  ·intro g5;have h5:=sne_t g5;refine L.gyes' (dj:=5) (b:=_) rfl rfl g5 ?_;refine L.val (x_mv (v:=S _) rfl) rfl ?_;refine L.gyes' (dj:=5) (b:=_) rfl rfl g5 ?_;refine L.val (x_len_str Tryz.underlying9 rfl) rfl ?_;refine L.gyes' (dj:=5) (b:=_) rfl rfl g5 ?_;refine L.val (x_leq rfl rfl) rfl ?_;refine L.nil (thn_n ⟨rfl,rfl,?_,rfl⟩);repeat (first | exact jeq.refl _ _ _ | refine jeq.upd rfl ?_ | refine jeq.jk rfl rfl ?_)
  ·intro g5;(iterate 3 refine L.gno (dj:=5) (b:=_) rfl rfl g5 rfl ?_);refine L.nil (thn_n ⟨rfl,rfl,?_⟩);repeat (first | exact jeq.refl _ _ _ | refine jeq.upd rfl ?_ | refine jeq.jk rfl rfl ?_)
  intro J5 j5;refine L.val (x_and rfl j5) rfl ?_;refine L.val (x_mv (v:=.bool _) rfl) rfl ?_;refine' L.group 3 11 13 13 10 true rfl ?_ ?_ ?_;rotate_left 1
  ·intro g10 hg10;have h10:=g10;have h0:0<s.length:=by
     simp only [Bool.and_eq_true] at h10;exact nonempty_of h10.1
   refine L.gyes' (dj:=10) (b:=_) rfl rfl g10 ?_;refine L.val (x_mv (v:=S _) rfl) rfl ?_;refine L.gyes' (dj:=10) (b:=_) rfl rfl g10 ?_;refine L.val (x_ixs (j:=0) Tryz.underlying9 rfl rfl rfl om_) rfl ?_;refine L.gyes' (dj:=10) (b:=_) rfl rfl g10 ?_;refine L.ret (x_call klex_en84 rfl) rfl (small06 _ _) ?_;rintro _ w13 ⟨rfl,hw⟩;have hB:=hB.carry hw;have hg10:=hg10.carry hw;refine L.nil (thn_n ⟨rfl,?_,?_,fun _=>rfl⟩)
   ·exact hg10
   ·repeat (first | exact jeq.refl _ _ _ | refine jeq.upd rfl ?_ | refine jeq.jk rfl rfl ?_)
  ·intro g10;(iterate 3 refine L.gno (dj:=10) (b:=_) rfl rfl g10 rfl ?_);refine L.nil (thn_n ⟨rfl,Gr.refl _ _,?_⟩);refine ⟨?_,fun h=>h.elim⟩;repeat (first | exact jeq.refl _ _ _ | refine jeq.upd rfl ?_ | refine jeq.jk rfl rfl ?_)
  intro J10 w10 hw j10;have hB:=hB.carry hw;refine L.val (x_and rfl j10) rfl ?_;refine L.val (x_mv (v:=.bool _) rfl) rfl ?_;refine' L.group 5 16 20 20 15 true rfl ?_ ?_ ?_;rotate_left 1
  ·intro g15 hg15;have h15:=g15;refine L.gyes' (dj:=15) (b:=_) rfl rfl g15 ?_;refine L.val (x_mv (v:=S _) rfl) rfl ?_;refine L.gyes' (dj:=15) (b:=_) rfl rfl g15 ?_;refine L.ret (x_call klex_en85 rfl) rfl (rest06 s hs _) ?_;rintro _ w17 ⟨rfl,hw⟩;have hB:=hB.carry hw;have hg15:=hg15.carry hw;refine L.gyes' (dj:=15) (b:=_) rfl rfl g15 ?_;refine L.val (x_mv (v:=S _) rfl) rfl ?_;refine L.gyes' (dj:=15) (b:=_) rfl rfl g15 ?_;refine L.val (x_len_str Tryz.underlying9 rfl) rfl ?_;refine L.gyes' (dj:=15) (b:=_) rfl rfl g15 ?_;refine L.val (x_eql rfl rfl) rfl ?_;refine L.nil (thn_n ⟨rfl,?_,?_,fun _=>rfl⟩)
   ·exact hg15
   ·repeat (first | exact jeq.refl _ _ _ | refine jeq.upd rfl ?_ | refine jeq.jk rfl rfl ?_)
  ·intro g15;(iterate 5 refine L.gno (dj:=15) (b:=_) rfl rfl g15 rfl ?_);refine L.nil (thn_n ⟨rfl,Gr.refl _ _,?_⟩);refine ⟨?_,fun h=>h.elim⟩;repeat (first | exact jeq.refl _ _ _ | refine jeq.upd rfl ?_ | refine jeq.jk rfl rfl ?_)
  intro J15 w15 hw j15;have hB:=hB.carry hw;refine L.val (x_and rfl j15) rfl ?_;refine L.val (x_mv (v:=.bool _) rfl) rfl ?_;refine' L.group 3 23 25 25 22 true rfl ?_ ?_ ?_;rotate_left 1
  ·intro g22 hg22;have h22:=g22;refine L.gyes' (dj:=22) (b:=_) rfl rfl g22 ?_;refine L.val (x_mv (v:=S _) rfl) rfl ?_;refine L.gyes' (dj:=22) (b:=_) rfl rfl g22 ?_;refine L.ret (x_call klex_en86 rfl) rfl (word06 s _) ?_;rintro _ w24 ⟨rfl,hw⟩;have hB:=hB.carry hw;have hg22:=hg22.carry hw;refine L.gyes' (dj:=22) (b:=_) rfl rfl g22 ?_;refine L.val (x_not rfl) rfl ?_;refine L.nil (thn_n ⟨rfl,?_,?_,fun _=>rfl⟩)
   ·exact hg22
   ·repeat (first | exact jeq.refl _ _ _ | refine jeq.upd rfl ?_ | refine jeq.jk rfl rfl ?_)
  ·intro g22;(iterate 3 refine L.gno (dj:=22) (b:=_) rfl rfl g22 rfl ?_);refine L.nil (thn_n ⟨rfl,Gr.refl _ _,?_⟩);refine ⟨?_,fun h=>h.elim⟩;repeat (first | exact jeq.refl _ _ _ | refine jeq.upd rfl ?_ | refine jeq.jk rfl rfl ?_)
  intro J22 w22 hw j22;have hB:=hB.carry hw;refine L.val (x_and rfl j22) rfl ?_;refine L.val (x_as (v:=.bool _) rfl) rfl ?_;refine L.nil (thn_n (W.ret (fin_mk (.inr rfl) ?_)));exact ⟨by unfold nameS;rw [← namedS_alt isSmall s];rfl,hB⟩
theorem upper06 (s:Str) (hs:s.length≤9223372036854775807) (w:World):Ret Tryz.prog 60 #[S s] w fun v w'=>v=.bool (upperS s)∧Bel w w':=by
  refine ret_of_W Tryz.func60 rfl (Nat.le_of_ble_eq_true rfl) (res1 rfl) ?_;have hB:=Gr.refl (fun _=>False) w;refine W.seq (W.region (L.val (x_as (v:=.bool _) rfl) rfl ?_));refine L.nil (thn_n (W.seq (W.region (L.val (x_mv (v:=S _) rfl) rfl ?_))));refine L.val (x_nes rfl rfl) rfl ?_;refine L.val (x_mv (v:=.bool _) rfl) rfl ?_;refine' L.group0 3 6 8 8 5 true rfl ?_ ?_ ?_;rotate_left 1
  ·intro g5;have h5:=sne_t g5;refine L.gyes' (dj:=5) (b:=_) rfl rfl g5 ?_;refine L.val (x_mv (v:=S _) rfl) rfl ?_;refine L.gyes' (dj:=5) (b:=_) rfl rfl g5 ?_;refine L.val (x_len_str Tryz.underlying9 rfl) rfl ?_;refine L.gyes' (dj:=5) (b:=_) rfl rfl g5 ?_;refine L.val (x_leq rfl rfl) rfl ?_;refine L.nil (thn_n ⟨rfl,rfl,?_,rfl⟩);repeat (first | exact jeq.refl _ _ _ | refine jeq.upd rfl ?_ | refine jeq.jk rfl rfl ?_)
  ·intro g5;(iterate 3 refine L.gno (dj:=5) (b:=_) rfl rfl g5 rfl ?_);refine L.nil (thn_n ⟨rfl,rfl,?_⟩);repeat (first | exact jeq.refl _ _ _ | refine jeq.upd rfl ?_ | refine jeq.jk rfl rfl ?_)
  intro J5 j5;refine L.val (x_and rfl j5) rfl ?_;refine L.val (x_mv (v:=.bool _) rfl) rfl ?_;refine' L.group 3 11 13 13 10 true rfl ?_ ?_ ?_;rotate_left 1
  ·intro g10 hg10;have h10:=g10;have h0:0<s.length:=by
     simp only [Bool.and_eq_true] at h10;exact nonempty_of h10.1
   refine L.gyes' (dj:=10) (b:=_) rfl rfl g10 ?_;refine L.val (x_mv (v:=S _) rfl) rfl ?_;refine L.gyes' (dj:=10) (b:=_) rfl rfl g10 ?_;refine L.val (x_ixs (j:=0) Tryz.underlying9 rfl rfl rfl om_) rfl ?_;refine L.gyes' (dj:=10) (b:=_) rfl rfl g10 ?_;refine L.ret (x_call klex_en88 rfl) rfl (great06 _ _) ?_;rintro _ w13 ⟨rfl,hw⟩;have hB:=hB.carry hw;have hg10:=hg10.carry hw;refine L.nil (thn_n ⟨rfl,?_,?_,fun _=>rfl⟩)
   ·exact hg10
   ·repeat (first | exact jeq.refl _ _ _ | refine jeq.upd rfl ?_ | refine jeq.jk rfl rfl ?_)
  ·intro g10;(iterate 3 refine L.gno (dj:=10) (b:=_) rfl rfl g10 rfl ?_);refine L.nil (thn_n ⟨rfl,Gr.refl _ _,?_⟩);refine ⟨?_,fun h=>h.elim⟩;repeat (first | exact jeq.refl _ _ _ | refine jeq.upd rfl ?_ | refine jeq.jk rfl rfl ?_)
  intro J10 w10 hw j10;have hB:=hB.carry hw;refine L.val (x_and rfl j10) rfl ?_;refine L.val (x_mv (v:=.bool _) rfl) rfl ?_;refine' L.group 5 16 20 20 15 true rfl ?_ ?_ ?_;rotate_left 1
  ·intro g15 hg15;have h15:=g15;refine L.gyes' (dj:=15) (b:=_) rfl rfl g15 ?_;refine L.val (x_mv (v:=S _) rfl) rfl ?_;refine L.gyes' (dj:=15) (b:=_) rfl rfl g15 ?_;refine L.ret (x_call klex_en85 rfl) rfl (rest06 s hs _) ?_;rintro _ w17 ⟨rfl,hw⟩;have hB:=hB.carry hw;have hg15:=hg15.carry hw;refine L.gyes' (dj:=15) (b:=_) rfl rfl g15 ?_;refine L.val (x_mv (v:=S _) rfl) rfl ?_;refine L.gyes' (dj:=15) (b:=_) rfl rfl g15 ?_;refine L.val (x_len_str Tryz.underlying9 rfl) rfl ?_;refine L.gyes' (dj:=15) (b:=_) rfl rfl g15 ?_;refine L.val (x_eql rfl rfl) rfl ?_;refine L.nil (thn_n ⟨rfl,?_,?_,fun _=>rfl⟩)
   ·exact hg15
   ·repeat (first | exact jeq.refl _ _ _ | refine jeq.upd rfl ?_ | refine jeq.jk rfl rfl ?_)
  ·intro g15;(iterate 5 refine L.gno (dj:=15) (b:=_) rfl rfl g15 rfl ?_);refine L.nil (thn_n ⟨rfl,Gr.refl _ _,?_⟩);refine ⟨?_,fun h=>h.elim⟩;repeat (first | exact jeq.refl _ _ _ | refine jeq.upd rfl ?_ | refine jeq.jk rfl rfl ?_)
  intro J15 w15 hw j15;have hB:=hB.carry hw;refine L.val (x_and rfl j15) rfl ?_;refine L.val (x_as (v:=.bool _) rfl) rfl ?_;refine L.nil (thn_n (W.ret (fin_mk (.inr rfl) ?_)));exact ⟨by unfold upperS;rw [← namedS_alt isGreat s];rfl,hB⟩
theorem restL (c:UInt8) (w:World):Ret Tryz.prog 98 #[.int .u8 c.toNat] w fun v w'=>v=.bool (isRest c)∧Bel w w':=by
  refine ret_of_W Tryz.func98 rfl (Nat.le_of_ble_eq_true rfl) (res1 rfl) ?_;have hB:=Gr.refl (fun _=>False) w;refine W.seq (W.region (L.val (x_as (v:=.bool _) rfl) rfl ?_));refine L.nil (thn_n (W.seq (W.region (L.val (x_mv (v:=.int _ _) rfl) rfl ?_))));refine L.ret (x_call klex_en74 rfl) rfl (smallL _ _) ?_;rintro _ w4 ⟨rfl,hw⟩;have hB:=hB.carry hw;refine L.val (x_mv (v:=.bool _) rfl) rfl ?_;refine' L.group 2 6 7 7 5 false rfl ?_ ?_ ?_;rotate_left 1
  ·intro g5 hg5;have h5:=g5;refine L.gyes' (dj:=5) (b:=_) rfl rfl g5 ?_;refine L.val (x_mv (v:=.int _ _) rfl) rfl ?_;refine L.gyes' (dj:=5) (b:=_) rfl rfl g5 ?_;refine L.ret (x_call klex_en81 rfl) rfl (greatL _ _) ?_;rintro _ w7 ⟨rfl,hw⟩;have hB:=hB.carry hw;have hg5:=hg5.carry hw;refine L.nil (thn_n ⟨rfl,?_,?_,fun _=>rfl⟩)
   ·exact hg5
   ·repeat (first | exact jeq.refl _ _ _ | refine jeq.upd rfl ?_ | refine jeq.jk rfl rfl ?_)
  ·intro g5;refine L.gno (dj:=5) (b:=_) rfl rfl g5 rfl ?_;refine L.gno (dj:=5) (b:=_) rfl rfl g5 rfl ?_;refine L.nil (thn_n ⟨rfl,Gr.refl _ _,?_⟩);refine ⟨?_,fun h=>h.elim⟩;repeat (first | exact jeq.refl _ _ _ | refine jeq.upd rfl ?_ | refine jeq.jk rfl rfl ?_)
  intro J5 w5 hw j5;have hB:=hB.carry hw;refine L.val (x_or rfl j5) rfl ?_;refine L.val (x_mv (v:=.bool _) rfl) rfl ?_;refine' L.group 2 10 11 11 9 false rfl ?_ ?_ ?_;rotate_left 1
  ·intro g9 hg9;have h9:=g9;refine L.gyes' (dj:=9) (b:=_) rfl rfl g9 ?_;refine L.val (x_mv (v:=.int _ _) rfl) rfl ?_;refine L.gyes' (dj:=9) (b:=_) rfl rfl g9 ?_;refine L.ret (x_call klex_en121 rfl) rfl (digitL _ _) ?_;rintro _ w11 ⟨rfl,hw⟩;have hB:=hB.carry hw;have hg9:=hg9.carry hw;refine L.nil (thn_n ⟨rfl,?_,?_,fun _=>rfl⟩)
   ·exact hg9
   ·repeat (first | exact jeq.refl _ _ _ | refine jeq.upd rfl ?_ | refine jeq.jk rfl rfl ?_)
  ·intro g9;refine L.gno (dj:=9) (b:=_) rfl rfl g9 rfl ?_;refine L.gno (dj:=9) (b:=_) rfl rfl g9 rfl ?_;refine L.nil (thn_n ⟨rfl,Gr.refl _ _,?_⟩);refine ⟨?_,fun h=>h.elim⟩;repeat (first | exact jeq.refl _ _ _ | refine jeq.upd rfl ?_ | refine jeq.jk rfl rfl ?_)
  intro J9 w9 hw j9;have hB:=hB.carry hw;refine L.val (x_or rfl j9) rfl ?_;refine L.val (x_mv (v:=.bool _) rfl) rfl ?_;refine' L.group0 2 14 15 15 13 false rfl ?_ ?_ ?_;rotate_left 1
  ·intro g13;have h13:=g13;refine L.gyes' (dj:=13) (b:=_) rfl rfl g13 ?_;refine L.val (x_mv (v:=.int _ _) rfl) rfl ?_;refine L.gyes' (dj:=13) (b:=_) rfl rfl g13 ?_;refine L.val (x_eql rfl rfl) rfl ?_;refine L.nil (thn_n ⟨rfl,rfl,?_,rfl⟩);repeat (first | exact jeq.refl _ _ _ | refine jeq.upd rfl ?_ | refine jeq.jk rfl rfl ?_)
  ·intro g13;refine L.gno (dj:=13) (b:=_) rfl rfl g13 rfl ?_;refine L.gno (dj:=13) (b:=_) rfl rfl g13 rfl ?_;refine L.nil (thn_n ⟨rfl,rfl,?_⟩);repeat (first | exact jeq.refl _ _ _ | refine jeq.upd rfl ?_ | refine jeq.jk rfl rfl ?_)
  intro J13 j13;refine L.val (x_or rfl j13) rfl ?_;refine L.val (x_as (v:=.bool _) rfl) rfl ?_;refine L.nil (thn_n (W.ret (fin_mk (.inr rfl) ?_)));exact ⟨rfl,hB⟩
theorem all_snoc {p:UInt8→Bool} {s:Str} {k:Nat} (hk:k<s.length) (h:(s.take k).all p=true) (hn:p (s.getD k 0)=true):(s.take (k+1)).all p=true:=by
  rw [List.getD_eq_getElem?_getD,List.getElem?_eq_getElem hk,Option.getD_some] at hn;rw [List.take_succ_eq_append_getElem hk,List.all_append,h];simp [hn]
theorem all_miss {p:UInt8→Bool} {s:Str} {k:Nat} (hk:k<s.length) (hn:p (s.getD k 0)=false):s.all p=false:=by
  rw [List.getD_eq_getElem?_getD,List.getElem?_eq_getElem hk,Option.getD_some] at hn;rw [List.all_eq_false];exact ⟨s[k],List.getElem_mem _,by simp [hn]⟩
theorem namedL (f:Nat) (p:UInt8→Bool) (hf:Enters Tryz.prog f) (hp:∀ c w,Ret Tryz.prog f #[.int .u8 (c:UInt8).toNat] w fun v w'=>v=.bool (p c)∧Bel w w') (s:Str) (hs:s.length≤9223372036854775807) (w:World):
    Ret Tryz.prog 73 #[S s,.func (.func f) #[] #[]] w fun v w'=>v=.bool (namedS p s)∧Bel w w':=by
  refine ret_of_W Tryz.func73 rfl (Nat.le_of_ble_eq_true rfl) (res1 rfl) ?_;have hB:=Gr.refl (fun _=>False) w;refine W.seq (W.region (L.val (x_as (v:=.bool _) rfl) rfl ?_));refine L.nil (thn_n (W.seq (W.seq (W.region (L.val (x_mv (v:=S _) rfl) rfl ?_)))));refine L.val (x_eqs rfl rfl) rfl ?_;refine L.val (x_mv (v:=.bool _) rfl) rfl ?_;refine' L.group0 3 9 11 11 8 false rfl ?_ ?_ ?_;rotate_left 1
  ·intro g8;have h8:=seq_f g8;refine L.gyes' (dj:=8) (b:=_) rfl rfl g8 ?_;refine L.val (x_mv (v:=S _) rfl) rfl ?_;refine L.gyes' (dj:=8) (b:=_) rfl rfl g8 ?_;refine L.val (x_len_str Tryz.underlying9 rfl) rfl ?_;refine L.gyes' (dj:=8) (b:=_) rfl rfl g8 ?_;refine L.val (x_gtr rfl rfl) rfl ?_;refine L.nil (thn_n ⟨rfl,rfl,?_,rfl⟩);repeat (first | exact jeq.refl _ _ _ | refine jeq.upd rfl ?_ | refine jeq.jk rfl rfl ?_)
  ·intro g8;(iterate 3 refine L.gno (dj:=8) (b:=_) rfl rfl g8 rfl ?_);refine L.nil (thn_n ⟨rfl,rfl,?_⟩);repeat (first | exact jeq.refl _ _ _ | refine jeq.upd rfl ?_ | refine jeq.jk rfl rfl ?_)
  intro J8 j8;refine L.val (x_or rfl j8) rfl ?_;refine L.val (x_mv (v:=.bool _) rfl) rfl ?_;refine' L.group 5 14 18 18 13 false rfl ?_ ?_ ?_;rotate_left 1
  ·intro g13 hg13;have h13:=g13;have h0:0<s.length:=by
     simp only [Bool.or_eq_false_iff] at h13;exact nonempty_of (by rw [h13.1];rfl)
   refine L.gyes' (dj:=13) (b:=_) rfl rfl g13 ?_;refine L.val (x_mv (v:=_) rfl) rfl ?_;refine L.gyes' (dj:=13) (b:=_) rfl rfl g13 ?_;refine L.val (x_mv (v:=S _) rfl) rfl ?_;refine L.gyes' (dj:=13) (b:=_) rfl rfl g13 ?_;refine L.val (x_ixs (j:=0) Tryz.underlying9 rfl rfl rfl om_) rfl ?_;refine L.gyes' (dj:=13) (b:=_) rfl rfl g13 ?_;refine L.ret (x_callv hf rfl rfl) rfl (hp _ _) ?_;rintro _ w17 ⟨rfl,hw⟩;have hB:=hB.carry hw;have hg13:=hg13.carry hw;refine L.gyes' (dj:=13) (b:=_) rfl rfl g13 ?_;refine L.val (x_not rfl) rfl ?_;refine L.nil (thn_n ⟨rfl,?_,?_,fun _=>rfl⟩)
   ·exact hg13
   ·repeat (first | exact jeq.refl _ _ _ | refine jeq.upd rfl ?_ | refine jeq.jk rfl rfl ?_)
  ·intro g13;(iterate 5 refine L.gno (dj:=13) (b:=_) rfl rfl g13 rfl ?_);refine L.nil (thn_n ⟨rfl,Gr.refl _ _,?_⟩);refine ⟨?_,fun h=>h.elim⟩;repeat (first | exact jeq.refl _ _ _ | refine jeq.upd rfl ?_ | refine jeq.jk rfl rfl ?_)
  intro J13 w13 hw j13;have hB:=hB.carry hw;refine L.val (x_or rfl j13) rfl ?_;refine L.nil (thn_n (W.cond (b:=_) rfl (fun g19=>?_) (fun g19=>?_)))
  ·have h19:=g19;have hN:namedS p s=false:=by
     rw [← namedS_alt];cases hh:(s == [])
     · rw [hh,Bool.false_or] at h19;rw [show decide ((24:Int)<(s.length:Int))=!decide ((s.length:Int)≤24) from by rw [Bool.eq_iff_iff];simp] at h19;cases h1:decide ((s.length:Int)≤24)
       · simp
       · rw [h1] at h19;cases h2:p (s.getD 0 0)
         · simp
         · rw [h2] at h19;cases h19
     · simp
   refine W.seq (W.region (L.val (x_as (v:=.bool _) rfl) rfl ?_));refine L.nil (thn_n (W.ret (thn_r (fin_mk (.inr rfl) ?_))));exact ⟨by rw [hN];rfl,hB⟩
  ·have h19:=g19;have h3:headIs p s=true∧s.length≤24:=by
     simp only [Bool.or_eq_false_iff,decide_eq_false_iff_not,Bool.not_eq_false'] at h19;obtain ⟨⟨a1,a2⟩,a3⟩:=h19;have h0:0<s.length:=nonempty_of (by rw [a1];rfl);exact ⟨by rw [← headIs_get h0];exact a3,by omega⟩
   refine W.skip (thn_n (W.seq (W.seq (W.region (L.val (x_mv (v:=S _) rfl) rfl ?_)))));refine L.val (x_len_str Tryz.underlying9 rfl) rfl ?_;refine L.val (x_mv (v:=.int _ _) rfl) rfl ?_;refine L.nil (thn_n (W.block (W.loop (fun m E w'=>Bel w w'∧∃ k:Nat,k≤s.length∧m=s.length - k∧E 22=.int .i64 (k:Nat)∧E 21=.int .i64 (s.length:Nat)∧E 0=S s∧(s.take k).all isRest=true) (s.length) ?_ ?_)))
   ·exact ⟨hB,0,by omega,rfl,rfl,rfl,rfl,by simp⟩
   ·rintro m E w0 ⟨hB,k,hk,rfl,e22,e21,e0,ha⟩;rw [upd_self e22,upd_self e21,upd_self e0];refine W.seq (W.region (L.val (x_lss rfl rfl) rfl ?_));refine L.nil (thn_n (W.seq (W.cond (b:=_) rfl (fun g23=>?_) (fun g23=>?_))))
    ·have h23:=of_decide_eq_true g23;refine W.skip (thn_n (W.seq (W.block (W.seq (W.region (L.val (x_mv (v:=.int _ _) rfl) rfl ?_))))));refine L.val (x_as (v:=.int _ _) rfl) rfl ?_;refine L.nil (thn_n (W.seq (W.region (L.val (x_mv (v:=S _) rfl) rfl ?_))));refine L.val (x_mv (v:=.int _ _) rfl) rfl ?_;refine L.val (x_ixs  Tryz.underlying9 rfl rfl rfl om_) rfl ?_;refine L.ret (x_call klex_en98 rfl) rfl (restL _ _) ?_;rintro _ w28 ⟨rfl,hw⟩;have hB:=hB.carry hw;refine L.val (x_not rfl) rfl ?_;refine L.nil (thn_n (W.cond (b:=_) rfl (fun g29=>?_) (fun g29=>?_)))
     ·have h29:=(not_t g29);refine W.seq (W.region (L.val (x_as (v:=.bool _) rfl) rfl ?_));refine L.nil (thn_n (W.ret (blk_r (thn_r (thn_r (blk_r (thn_r (fin_mk (.inr rfl) ?_))))))));exact ⟨vb (by unfold namedS;rw [all_miss om_ h29];simp),hB⟩
     ·have h29:=(not_f g29);refine W.skip (blk_n (thn_n (W.region (L.val (x_add rfl rfl (wr64 om_)) rfl ?_))));refine L.val (x_mv (v:=.int _ _) rfl) rfl ?_;refine L.nil (thn_n ⟨rfl,?_⟩);exact ⟨s.length - (k+1),by omega,hB,k+1,by omega,rfl,rfl,rfl,rfl,all_snoc om_ ha h29⟩
    ·have h23:=dlt_f g23;refine W.exit (thn_x (thn_x (blk_hit ?_)));refine thn_n (W.seq (W.region (L.val (x_as (v:=.bool _) rfl) rfl ?_)));refine L.nil (thn_n (W.ret (fin_mk (.inr rfl) ?_)));have:k=s.length:=by omega
     subst this;rw [List.take_length] at ha;exact ⟨vb (by unfold namedS;rw [ha,h3.1];simp [h3.2]),hB⟩
theorem wordL (s:Str) (w:World):Ret Tryz.prog 75 #[S s] w fun v w'=>v=.bool (wordS s)∧Bel w w':=by
  refine ret_of_W Tryz.func75 rfl (Nat.le_of_ble_eq_true rfl) (res1 rfl) ?_;refine W.seq (W.region (L.val (x_as (v:=.bool _) rfl) rfl ?_));refine L.nil (thn_n (W.seq (W.seq (W.region (L.val (x_mv (v:=S _) rfl) rfl ?_)))));refine L.nil (thn_n (W.block (W.seq (W.seq (W.region (L.val (x_eqs rfl rfl) rfl ?_))))));refine L.val (x_as (v:=.bool _) rfl) rfl ?_;refine L.nil (thn_n (W.cond (b:=_) rfl (fun g5=>?_) (fun g5=>?_)))
  ·have h5:=seq_t g5;refine W.skip (thn_n (W.cond (b:=_) rfl (fun _=>?_) (fun h=>nomatch (g5.symm.trans h:true=false))));refine W.seq (W.region (L.val (x_as (v:=.bool _) rfl) rfl ?_));refine L.nil (thn_n (W.ret (blk_r (thn_r (fin_mk (.inr rfl) ?_)))));exact ⟨by subst_vars;rfl,Gr.refl _ _⟩
  ·have h5:=seq_f g5;refine W.seq (W.region (L.val (x_eqs rfl rfl) rfl ?_));refine L.val (x_as (v:=.bool _) rfl) rfl ?_;refine L.nil (thn_n (W.cond (b:=_) rfl (fun g6=>?_) (fun g6=>?_)))
   ·have h6:=seq_t g6;refine W.skip (thn_n (W.cond (b:=_) rfl (fun _=>?_) (fun h=>nomatch (g6.symm.trans h:true=false))));refine W.seq (W.region (L.val (x_as (v:=.bool _) rfl) rfl ?_));refine L.nil (thn_n (W.ret (blk_r (thn_r (fin_mk (.inr rfl) ?_)))));exact ⟨by subst_vars;rfl,Gr.refl _ _⟩
   ·have h6:=seq_f g6;refine W.seq (W.region (L.val (x_eqs rfl rfl) rfl ?_));refine L.val (x_as (v:=.bool _) rfl) rfl ?_;refine L.nil (thn_n (W.cond (b:=_) rfl (fun g7=>?_) (fun g7=>?_)))
    ·have h7:=seq_t g7;refine W.skip (thn_n (W.cond (b:=_) rfl (fun _=>?_) (fun h=>nomatch (g7.symm.trans h:true=false))));refine W.seq (W.region (L.val (x_as (v:=.bool _) rfl) rfl ?_));refine L.nil (thn_n (W.ret (blk_r (thn_r (fin_mk (.inr rfl) ?_)))));exact ⟨by subst_vars;rfl,Gr.refl _ _⟩
    ·have h7:=seq_f g7;refine W.seq (W.region (L.val (x_eqs rfl rfl) rfl ?_));refine L.val (x_as (v:=.bool _) rfl) rfl ?_;refine L.nil (thn_n (W.cond (b:=_) rfl (fun g8=>?_) (fun g8=>?_)))
     ·have h8:=seq_t g8;refine W.skip (thn_n (W.cond (b:=_) rfl (fun _=>?_) (fun h=>nomatch (g8.symm.trans h:true=false))));refine W.seq (W.region (L.val (x_as (v:=.bool _) rfl) rfl ?_));refine L.nil (thn_n (W.ret (blk_r (thn_r (fin_mk (.inr rfl) ?_)))));exact ⟨by subst_vars;rfl,Gr.refl _ _⟩
     ·have h8:=seq_f g8;refine W.seq (W.region (L.val (x_eqs rfl rfl) rfl ?_));refine L.val (x_as (v:=.bool _) rfl) rfl ?_;refine L.nil (thn_n (W.cond (b:=_) rfl (fun g9=>?_) (fun g9=>?_)))
      ·have h9:=seq_t g9;refine W.skip (thn_n (W.cond (b:=_) rfl (fun _=>?_) (fun h=>nomatch (g9.symm.trans h:true=false))));refine W.seq (W.region (L.val (x_as (v:=.bool _) rfl) rfl ?_));refine L.nil (thn_n (W.ret (blk_r (thn_r (fin_mk (.inr rfl) ?_)))));exact ⟨by subst_vars;rfl,Gr.refl _ _⟩
      ·have h9:=seq_f g9;refine W.seq (W.region (L.val (x_eqs rfl rfl) rfl ?_));refine L.val (x_as (v:=.bool _) rfl) rfl ?_;refine L.nil (thn_n (W.cond (b:=_) rfl (fun g10=>?_) (fun g10=>?_)))
       ·have h10:=seq_t g10;refine W.skip (thn_n (W.cond (b:=_) rfl (fun _=>?_) (fun h=>nomatch (g10.symm.trans h:true=false))));refine W.seq (W.region (L.val (x_as (v:=.bool _) rfl) rfl ?_));refine L.nil (thn_n (W.ret (blk_r (thn_r (fin_mk (.inr rfl) ?_)))));exact ⟨by subst_vars;rfl,Gr.refl _ _⟩
       ·have h10:=seq_f g10;refine W.seq (W.region (L.val (x_eqs rfl rfl) rfl ?_));refine L.val (x_as (v:=.bool _) rfl) rfl ?_;refine L.nil (thn_n (W.cond (b:=_) rfl (fun g11=>?_) (fun g11=>?_)))
        ·have h11:=seq_t g11;refine W.skip (thn_n (W.cond (b:=_) rfl (fun _=>?_) (fun h=>nomatch (g11.symm.trans h:true=false))));refine W.seq (W.region (L.val (x_as (v:=.bool _) rfl) rfl ?_));refine L.nil (thn_n (W.ret (blk_r (thn_r (fin_mk (.inr rfl) ?_)))));exact ⟨by subst_vars;rfl,Gr.refl _ _⟩
        ·have h11:=seq_f g11;refine W.seq (W.region (L.val (x_eqs rfl rfl) rfl ?_));refine L.val (x_as (v:=.bool _) rfl) rfl ?_;refine L.nil (thn_n (W.cond (b:=_) rfl (fun g12=>?_) (fun g12=>?_)))
         ·have h12:=seq_t g12;refine W.skip (thn_n (W.cond (b:=_) rfl (fun _=>?_) (fun h=>nomatch (g12.symm.trans h:true=false))));refine W.seq (W.region (L.val (x_as (v:=.bool _) rfl) rfl ?_));refine L.nil (thn_n (W.ret (blk_r (thn_r (fin_mk (.inr rfl) ?_)))));exact ⟨by subst_vars;rfl,Gr.refl _ _⟩
         ·have h12:=seq_f g12;refine W.seq (W.region (L.val (x_eqs rfl rfl) rfl ?_));refine L.val (x_as (v:=.bool _) rfl) rfl ?_;refine L.nil (thn_n (W.cond (b:=_) rfl (fun g13=>?_) (fun g13=>?_)))
          ·have h13:=seq_t g13;refine W.skip (thn_n (W.cond (b:=_) rfl (fun _=>?_) (fun h=>nomatch (g13.symm.trans h:true=false))));refine W.seq (W.region (L.val (x_as (v:=.bool _) rfl) rfl ?_));refine L.nil (thn_n (W.ret (blk_r (thn_r (fin_mk (.inr rfl) ?_)))));exact ⟨by subst_vars;rfl,Gr.refl _ _⟩
          ·have h13:=seq_f g13;refine W.seq (W.region (L.val (x_eqs rfl rfl) rfl ?_));refine L.val (x_as (v:=.bool _) rfl) rfl ?_;refine L.nil (thn_n (W.cond (b:=_) rfl (fun g14=>?_) (fun g14=>?_)))
           ·have h14:=seq_t g14;refine W.skip (thn_n (W.cond (b:=_) rfl (fun _=>?_) (fun h=>nomatch (g14.symm.trans h:true=false))));refine W.seq (W.region (L.val (x_as (v:=.bool _) rfl) rfl ?_));refine L.nil (thn_n (W.ret (blk_r (thn_r (fin_mk (.inr rfl) ?_)))));exact ⟨by subst_vars;rfl,Gr.refl _ _⟩
           ·have h14:=seq_f g14;refine W.seq (W.region (L.val (x_eqs rfl rfl) rfl ?_));refine L.val (x_as (v:=.bool _) rfl) rfl ?_;refine L.nil (thn_n (W.cond (b:=_) rfl (fun g15=>?_) (fun g15=>?_)))
            ·have h15:=seq_t g15;refine W.skip (thn_n (W.cond (b:=_) rfl (fun _=>?_) (fun h=>nomatch (g15.symm.trans h:true=false))));refine W.seq (W.region (L.val (x_as (v:=.bool _) rfl) rfl ?_));refine L.nil (thn_n (W.ret (blk_r (thn_r (fin_mk (.inr rfl) ?_)))));exact ⟨by subst_vars;rfl,Gr.refl _ _⟩
            ·have h15:=seq_f g15;refine W.seq (W.region (L.val (x_eqs rfl rfl) rfl ?_));refine L.val (x_as (v:=.bool _) rfl) rfl ?_;refine L.nil (thn_n (W.cond (b:=_) rfl (fun g16=>?_) (fun g16=>?_)))
             ·have h16:=seq_t g16;refine W.skip (thn_n (W.cond (b:=_) rfl (fun _=>?_) (fun h=>nomatch (g16.symm.trans h:true=false))));refine W.seq (W.region (L.val (x_as (v:=.bool _) rfl) rfl ?_));refine L.nil (thn_n (W.ret (blk_r (thn_r (fin_mk (.inr rfl) ?_)))));exact ⟨by subst_vars;rfl,Gr.refl _ _⟩
             ·have h16:=seq_f g16;refine W.seq (W.region (L.val (x_eqs rfl rfl) rfl ?_));refine L.val (x_as (v:=.bool _) rfl) rfl ?_;refine L.nil (thn_n (W.cond (b:=_) rfl (fun g17=>?_) (fun g17=>?_)))
              ·have h17:=seq_t g17;refine W.skip (thn_n (W.cond (b:=_) rfl (fun _=>?_) (fun h=>nomatch (g17.symm.trans h:true=false))));refine W.seq (W.region (L.val (x_as (v:=.bool _) rfl) rfl ?_));refine L.nil (thn_n (W.ret (blk_r (thn_r (fin_mk (.inr rfl) ?_)))));exact ⟨by subst_vars;rfl,Gr.refl _ _⟩
              ·have h17:=seq_f g17;refine W.seq (W.region (L.val (x_eqs rfl rfl) rfl ?_));refine L.val (x_as (v:=.bool _) rfl) rfl ?_;refine L.nil (thn_n (W.cond (b:=_) rfl (fun g18=>?_) (fun g18=>?_)))
               ·have h18:=seq_t g18;refine W.skip (thn_n (W.cond (b:=_) rfl (fun _=>?_) (fun h=>nomatch (g18.symm.trans h:true=false))));refine W.seq (W.region (L.val (x_as (v:=.bool _) rfl) rfl ?_));refine L.nil (thn_n (W.ret (blk_r (thn_r (fin_mk (.inr rfl) ?_)))));exact ⟨by subst_vars;rfl,Gr.refl _ _⟩
               ·have h18:=seq_f g18;refine W.seq (W.region (L.val (x_eqs rfl rfl) rfl ?_));refine L.val (x_as (v:=.bool _) rfl) rfl ?_;refine L.nil (thn_n (W.cond (b:=_) rfl (fun g19=>?_) (fun g19=>?_)))
                ·have h19:=seq_t g19;refine W.skip (thn_n (W.cond (b:=_) rfl (fun _=>?_) (fun h=>nomatch (g19.symm.trans h:true=false))));refine W.seq (W.region (L.val (x_as (v:=.bool _) rfl) rfl ?_));refine L.nil (thn_n (W.ret (blk_r (thn_r (fin_mk (.inr rfl) ?_)))));exact ⟨by subst_vars;rfl,Gr.refl _ _⟩
                ·have h19:=seq_f g19;refine W.seq (W.region (L.val (x_eqs rfl rfl) rfl ?_));refine L.val (x_as (v:=.bool _) rfl) rfl ?_;refine L.nil (thn_n (W.cond (b:=_) rfl (fun g20=>?_) (fun g20=>?_)))
                 ·have h20:=seq_t g20;refine W.skip (thn_n (W.cond (b:=_) rfl (fun _=>?_) (fun h=>nomatch (g20.symm.trans h:true=false))));refine W.seq (W.region (L.val (x_as (v:=.bool _) rfl) rfl ?_));refine L.nil (thn_n (W.ret (blk_r (thn_r (fin_mk (.inr rfl) ?_)))));exact ⟨by subst_vars;rfl,Gr.refl _ _⟩
                 ·have h20:=seq_f g20;refine W.seq (W.region (L.val (x_eqs rfl rfl) rfl ?_));refine L.val (x_as (v:=.bool _) rfl) rfl ?_;refine L.nil (thn_n (W.cond (b:=_) rfl (fun g21=>?_) (fun g21=>?_)))
                  ·have h21:=seq_t g21;refine W.skip (thn_n (W.cond (b:=_) rfl (fun _=>?_) (fun h=>nomatch (g21.symm.trans h:true=false))));refine W.seq (W.region (L.val (x_as (v:=.bool _) rfl) rfl ?_));refine L.nil (thn_n (W.ret (blk_r (thn_r (fin_mk (.inr rfl) ?_)))));exact ⟨by subst_vars;rfl,Gr.refl _ _⟩
                  ·have h21:=seq_f g21;refine W.seq (W.region (L.val (x_eqs rfl rfl) rfl ?_));refine L.val (x_as (v:=.bool _) rfl) rfl ?_;refine L.nil (thn_n (W.cond (b:=_) rfl (fun g22=>?_) (fun g22=>?_)))
                   ·have h22:=seq_t g22;refine W.skip (thn_n (W.cond (b:=_) rfl (fun _=>?_) (fun h=>nomatch (g22.symm.trans h:true=false))));refine W.seq (W.region (L.val (x_as (v:=.bool _) rfl) rfl ?_));refine L.nil (thn_n (W.ret (blk_r (thn_r (fin_mk (.inr rfl) ?_)))));exact ⟨by subst_vars;rfl,Gr.refl _ _⟩
                   ·have h22:=seq_f g22;refine W.seq (W.region (L.val (x_eqs rfl rfl) rfl ?_));refine L.val (x_as (v:=.bool _) rfl) rfl ?_;refine L.nil (thn_n (W.cond (b:=_) rfl (fun g23=>?_) (fun g23=>?_)))
                    ·have h23:=seq_t g23;refine W.skip (thn_n (W.cond (b:=_) rfl (fun _=>?_) (fun h=>nomatch (g23.symm.trans h:true=false))));refine W.seq (W.region (L.val (x_as (v:=.bool _) rfl) rfl ?_));refine L.nil (thn_n (W.ret (blk_r (thn_r (fin_mk (.inr rfl) ?_)))));exact ⟨by subst_vars;rfl,Gr.refl _ _⟩
                    ·have h23:=seq_f g23;refine W.region (L.val (x_eqs rfl rfl) rfl ?_);refine L.val (x_as (v:=.bool _) rfl) rfl ?_;refine L.nil (thn_n (W.cond (b:=_) rfl (fun g24=>?_) (fun g24=>?_)))
                     ·have h24:=seq_t g24;refine W.seq (W.region (L.val (x_as (v:=.bool _) rfl) rfl ?_));refine L.nil (thn_n (W.ret (blk_r (thn_r (fin_mk (.inr rfl) ?_)))));exact ⟨by subst_vars;rfl,Gr.refl _ _⟩
                     ·have h24:=seq_f g24;refine W.skip (blk_n (thn_n (W.seq (W.region (L.val (x_as (v:=.bool _) rfl) rfl ?_)))));refine L.nil (thn_n (W.ret (fin_mk (.inr rfl) ?_)));refine ⟨?_,Gr.refl _ _⟩;have:wordS s=false:=by simp only [wordS,words,List.contains_cons,List.contains_nil,Bool.or_false,Bool.or_eq_false_iff,beq_eq_false_iff_ne];exact ⟨h5,h6,h7,h8,h9,h10,h11,h12,h13,h14,h15,h16,h17,h18,h19,h20,h21,h22,h23,h24⟩
                      rw [this];rfl
theorem nameL (s:Str) (hs:s.length≤9223372036854775807) (w:World):Ret Tryz.prog 51 #[S s] w fun v w'=>v=.bool (nameS s)∧Bel w w':=by
  refine ret_of_W Tryz.func51 rfl (Nat.le_of_ble_eq_true rfl) (res1 rfl) ?_;have hB:=Gr.refl (fun _=>False) w;refine W.seq (W.region (L.val (x_as (v:=.bool _) rfl) rfl ?_));refine L.nil (thn_n (W.seq (W.region (L.val (x_mv (v:=S _) rfl) rfl ?_))));refine L.ret (x_call klex_en73 rfl) rfl (namedL 74 isSmall klex_en74 smallL s hs _) ?_;rintro _ w4 ⟨rfl,hw⟩;have hB:=hB.carry hw;refine L.val (x_mv (v:=.bool _) rfl) rfl ?_;refine' L.group 3 6 8 8 5 true rfl ?_ ?_ ?_;rotate_left 1
  ·intro g5 hg5;have h5:=g5;refine L.gyes' (dj:=5) (b:=_) rfl rfl g5 ?_;refine L.val (x_mv (v:=S _) rfl) rfl ?_;refine L.gyes' (dj:=5) (b:=_) rfl rfl g5 ?_;refine L.ret (x_call klex_en75 rfl) rfl (wordL s _) ?_;rintro _ w7 ⟨rfl,hw⟩;have hB:=hB.carry hw;have hg5:=hg5.carry hw;refine L.gyes' (dj:=5) (b:=_) rfl rfl g5 ?_;refine L.val (x_not rfl) rfl ?_;refine L.nil (thn_n ⟨rfl,?_,?_,fun _=>rfl⟩)
   ·exact hg5
   ·repeat (first | exact jeq.refl _ _ _ | refine jeq.upd rfl ?_ | refine jeq.jk rfl rfl ?_)
  ·intro g5;(iterate 3 refine L.gno (dj:=5) (b:=_) rfl rfl g5 rfl ?_);refine L.nil (thn_n ⟨rfl,Gr.refl _ _,?_⟩);refine ⟨?_,fun h=>h.elim⟩;repeat (first | exact jeq.refl _ _ _ | refine jeq.upd rfl ?_ | refine jeq.jk rfl rfl ?_)
  intro J5 w5 hw j5;have hB:=hB.carry hw;refine L.val (x_and rfl j5) rfl ?_;refine L.val (x_as (v:=.bool _) rfl) rfl ?_;refine L.nil (thn_n (W.ret (fin_mk (.inr rfl) ?_)));exact ⟨rfl,hB⟩
theorem upperL (s:Str) (hs:s.length≤9223372036854775807) (w:World):Ret Tryz.prog 54 #[S s] w fun v w'=>v=.bool (upperS s)∧Bel w w':=by
  refine ret_of_W Tryz.func54 rfl (Nat.le_of_ble_eq_true rfl) (res1 rfl) ?_;have hB:=Gr.refl (fun _=>False) w;refine W.seq (W.region (L.val (x_as (v:=.bool _) rfl) rfl ?_));refine L.nil (thn_n (W.seq (W.region (L.val (x_mv (v:=S _) rfl) rfl ?_))));refine L.ret (x_call klex_en73 rfl) rfl (namedL 81 isGreat klex_en81 greatL s hs _) ?_;rintro _ w4 ⟨rfl,hw⟩;have hB:=hB.carry hw;refine L.val (x_as (v:=.bool _) rfl) rfl ?_;refine L.nil (thn_n (W.ret (fin_mk (.inr rfl) ?_)));exact ⟨rfl,hB⟩
end Go.Gx
