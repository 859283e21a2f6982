/- Names and words: what the program's and the reference's lexers tell of a text. Conditions: none. -/
import Derived.Test.YtfbcfdhhgdmgkaaGreatDoorProg
import Derived.Test.YtfbcfdhhgdmgkaaGreatDoorDbApp
import Derived.Test.YtfbcfdhhgdmgkaaGreatDoorDbSeq
import Derived.Test.YtfbcfdhhgdmgkaaGreatDoorDbRep
namespace Go.Gx
open Go.Proofs
theorem klex_en121:Go.Proofs.Enters Tryz.prog 121:=Go.Proofs.enters_of Tryz.func121 kr_ rfl
theorem klex_en73:Go.Proofs.Enters Tryz.prog 73:=Go.Proofs.enters_of Tryz.func73 kr_ rfl
theorem klex_en74:Go.Proofs.Enters Tryz.prog 74:=Go.Proofs.enters_of Tryz.func74 kr_ rfl
theorem klex_en75:Go.Proofs.Enters Tryz.prog 75:=Go.Proofs.enters_of Tryz.func75 kr_ rfl
theorem klex_en81:Go.Proofs.Enters Tryz.prog 81:=Go.Proofs.enters_of Tryz.func81 kr_ rfl
theorem klex_en98:Go.Proofs.Enters Tryz.prog 98:=Go.Proofs.enters_of Tryz.func98 kr_ rfl
def isSmall (c:UInt8):Bool:=decide ((97:Int)≤(c.toNat:Int)) && decide ((c.toNat:Int)≤122)
def isGreat (c:UInt8):Bool:=decide ((65:Int)≤(c.toNat:Int)) && decide ((c.toNat:Int)≤90)
def isDigit (c:UInt8):Bool:=decide ((48:Int)≤(c.toNat:Int)) && decide ((c.toNat:Int)≤57)
def isRest (c:UInt8):Bool:=isSmall c || isGreat c || isDigit c || decide ((c.toNat:Int)=95)
theorem smallL (c:UInt8) (w:World):Ret Tryz.prog 74 #[.int .u8 c.toNat] w fun v w'=>v=.bool (isSmall c)∧Bel w w':=by
  refine ret_of_W Tryz.func74 rfl (Nat.le_of_ble_eq_true rfl) (res1 rfl) ?_;refine W.seq (W.region (L.val (x_as (v:=.bool _) rfl) rfl ?_));refine L.nil (thn_n (W.seq (W.region (L.val (x_mv (v:=.int _ _) rfl) rfl ?_))));refine L.val (x_geq rfl rfl) rfl ?_;refine L.val (x_mv (v:=.bool _) rfl) rfl ?_;refine' L.group0 2 6 7 7 5 true rfl ?_ ?_ ?_;rotate_left 1
  ·intro g5;have h5:=of_decide_eq_true g5;refine L.gyes' (dj:=5) (b:=_) rfl rfl g5 ?_;refine L.val (x_mv (v:=.int _ _) rfl) rfl ?_;refine L.gyes' (dj:=5) (b:=_) rfl rfl g5 ?_;refine L.val (x_leq rfl rfl) rfl ?_;refine L.nil (thn_n ⟨rfl,rfl,?_,rfl⟩);repeat (first | exact jeq.refl _ _ _ | refine jeq.upd rfl ?_ | refine jeq.jk rfl rfl ?_)
  ·intro g5;refine L.gno (dj:=5) (b:=_) rfl rfl g5 rfl ?_;refine L.gno (dj:=5) (b:=_) rfl rfl g5 rfl ?_;refine L.nil (thn_n ⟨rfl,rfl,?_⟩);repeat (first | exact jeq.refl _ _ _ | refine jeq.upd rfl ?_ | refine jeq.jk rfl rfl ?_)
  intro J5 j5;refine L.val (x_and rfl j5) rfl ?_;refine L.val (x_as (v:=.bool _) rfl) rfl ?_;refine L.nil (thn_n (W.ret (fin_mk (.inr rfl) ?_)));exact ⟨rfl,Gr.refl _ _⟩
theorem greatL (c:UInt8) (w:World):Ret Tryz.prog 81 #[.int .u8 c.toNat] w fun v w'=>v=.bool (isGreat c)∧Bel w w':=by
  refine ret_of_W Tryz.func81 rfl (Nat.le_of_ble_eq_true rfl) (res1 rfl) ?_;refine W.seq (W.region (L.val (x_as (v:=.bool _) rfl) rfl ?_));refine L.nil (thn_n (W.seq (W.region (L.val (x_mv (v:=.int _ _) rfl) rfl ?_))));refine L.val (x_geq rfl rfl) rfl ?_;refine L.val (x_mv (v:=.bool _) rfl) rfl ?_;refine' L.group0 2 6 7 7 5 true rfl ?_ ?_ ?_;rotate_left 1
  ·intro g5;have h5:=of_decide_eq_true g5;refine L.gyes' (dj:=5) (b:=_) rfl rfl g5 ?_;refine L.val (x_mv (v:=.int _ _) rfl) rfl ?_;refine L.gyes' (dj:=5) (b:=_) rfl rfl g5 ?_;refine L.val (x_leq rfl rfl) rfl ?_;refine L.nil (thn_n ⟨rfl,rfl,?_,rfl⟩);repeat (first | exact jeq.refl _ _ _ | refine jeq.upd rfl ?_ | refine jeq.jk rfl rfl ?_)
  ·intro g5;refine L.gno (dj:=5) (b:=_) rfl rfl g5 rfl ?_;refine L.gno (dj:=5) (b:=_) rfl rfl g5 rfl ?_;refine L.nil (thn_n ⟨rfl,rfl,?_⟩);repeat (first | exact jeq.refl _ _ _ | refine jeq.upd rfl ?_ | refine jeq.jk rfl rfl ?_)
  intro J5 j5;refine L.val (x_and rfl j5) rfl ?_;refine L.val (x_as (v:=.bool _) rfl) rfl ?_;refine L.nil (thn_n (W.ret (fin_mk (.inr rfl) ?_)));exact ⟨rfl,Gr.refl _ _⟩
theorem digitL (c:UInt8) (w:World):Ret Tryz.prog 121 #[.int .u8 c.toNat] w fun v w'=>v=.bool (isDigit c)∧Bel w w':=by
  refine ret_of_W Tryz.func121 rfl (Nat.le_of_ble_eq_true rfl) (res1 rfl) ?_;refine W.seq (W.region (L.val (x_as (v:=.bool _) rfl) rfl ?_));refine L.nil (thn_n (W.seq (W.region (L.val (x_mv (v:=.int _ _) rfl) rfl ?_))));refine L.val (x_geq rfl rfl) rfl ?_;refine L.val (x_mv (v:=.bool _) rfl) rfl ?_;refine' L.group0 2 6 7 7 5 true rfl ?_ ?_ ?_;rotate_left 1
  ·intro g5;have h5:=of_decide_eq_true g5;refine L.gyes' (dj:=5) (b:=_) rfl rfl g5 ?_;refine L.val (x_mv (v:=.int _ _) rfl) rfl ?_;refine L.gyes' (dj:=5) (b:=_) rfl rfl g5 ?_;refine L.val (x_leq rfl rfl) rfl ?_;refine L.nil (thn_n ⟨rfl,rfl,?_,rfl⟩);repeat (first | exact jeq.refl _ _ _ | refine jeq.upd rfl ?_ | refine jeq.jk rfl rfl ?_)
  ·intro g5;refine L.gno (dj:=5) (b:=_) rfl rfl g5 rfl ?_;refine L.gno (dj:=5) (b:=_) rfl rfl g5 rfl ?_;refine L.nil (thn_n ⟨rfl,rfl,?_⟩);repeat (first | exact jeq.refl _ _ _ | refine jeq.upd rfl ?_ | refine jeq.jk rfl rfl ?_)
  intro J5 j5;refine L.val (x_and rfl j5) rfl ?_;refine L.val (x_as (v:=.bool _) rfl) rfl ?_;refine L.nil (thn_n (W.ret (fin_mk (.inr rfl) ?_)));exact ⟨rfl,Gr.refl _ _⟩
def words:List Str:=[[109,111,100,117,108,101],[105,109,112,111,114,116],[112,105,110],[114,97,110,103,101],[116,121,112,101],[111,112,97,113,117,101],[108,101,116],[105,110],[101,120,112,111,114,116],[102,117,110],[105,102],[116,104,101,110],[101,108,115,101],[99,97,115,101],[111,102],[97,115],[110,101,119],[114,97,119],[116,114,117,101],[102,97,108,115,101]]
def wordS (s:Str):Bool:=words.contains s
def headIs (p:UInt8→Bool):Str→Bool
  | []=>false
  | c :: _=>p c
def namedS (p:UInt8→Bool) (s:Str):Bool:=headIs p s && decide (s.length≤24) && s.all isRest
def nameS (s:Str):Bool:=namedS isSmall s && !wordS s
def upperS (s:Str):Bool:=namedS isGreat s
theorem headIs_get {p:UInt8→Bool} {s:Str} (h:0<s.length):p (s.getD 0 0)=headIs p s:=by
  cases s with
  | nil=>simp at h
  | cons c s=>rfl
theorem takeWhile_all {p:UInt8→Bool} (s:Str):decide (((s.takeWhile p).length:Int)=(s.length:Int))=s.all p:=by
  rw [Bool.eq_iff_iff,decide_eq_true_eq,List.all_eq_true];constructor
  · intro h x hx;have:s.takeWhile p=s:=(List.takeWhile_sublist p).eq_of_length om_;rw [← this] at hx;have h2:=List.all_takeWhile (p:=p) (l:=s);rw [List.all_eq_true] at h2;exact h2 x hx
  · intro h;have:s.takeWhile p=s:=by
      induction s with
      | nil=>rfl
      | cons c s ih=>rw [List.takeWhile_cons,if_pos (h c (by simp)),ih (fun x hx=>h x (by simp [hx]))]
    rw [this]
theorem nonempty_of {s:Str} (h:(!(s == []))=true):0<s.length:=by
  cases s with
  | nil=>simp at h
  | cons c s=>simp
theorem namedS_alt (p:UInt8→Bool) (s:Str):(!(s == []) && decide ((s.length:Int)≤24) && p (s.getD 0 0) && decide (((s.takeWhile isRest).length:Int)=(s.length:Int)))=namedS p s:=by
  rw [takeWhile_all];unfold namedS;have e:decide ((s.length:Int)≤24)=decide (s.length≤24):=by rw [Bool.eq_iff_iff];simp;omega
  cases s with
  | nil=>rfl
  | cons c s=>
    rw [e];show (true && _ && p c && _)=(p c && _ && _);cases decide ((c :: s).length≤24) <;> cases p c <;> rfl
theorem restL (c:UInt8) (w:World):Ret Tryz.prog 98 #[.int .u8 c.toNat] w fun v w'=>v=.bool (isRest c)∧Bel w w':=by
  refine ret_of_W Tryz.func98 rfl (Nat.le_of_ble_eq_true rfl) (res1 rfl) ?_;have hB:=Gr.refl (fun _=>False) w;refine W.seq (W.region (L.val (x_as (v:=.bool _) rfl) rfl ?_));refine L.nil (thn_n (W.seq (W.region (L.val (x_mv (v:=.int _ _) rfl) rfl ?_))));refine L.ret (x_call klex_en74 rfl) rfl (smallL _ _) ?_;rintro _ w4 ⟨rfl,hw⟩;have hB:=hB.carry hw;refine L.val (x_mv (v:=.bool _) rfl) rfl ?_;refine' L.group 2 6 7 7 5 false rfl ?_ ?_ ?_;rotate_left 1
  ·intro g5 hg5;have h5:=g5;refine L.gyes' (dj:=5) (b:=_) rfl rfl g5 ?_;refine L.val (x_mv (v:=.int _ _) rfl) rfl ?_;refine L.gyes' (dj:=5) (b:=_) rfl rfl g5 ?_;refine L.ret (x_call klex_en81 rfl) rfl (greatL _ _) ?_;rintro _ w7 ⟨rfl,hw⟩;have hB:=hB.carry hw;have hg5:=hg5.carry hw;refine L.nil (thn_n ⟨rfl,?_,?_,fun _=>rfl⟩)
   ·exact hg5
   ·repeat (first | exact jeq.refl _ _ _ | refine jeq.upd rfl ?_ | refine jeq.jk rfl rfl ?_)
  ·intro g5;refine L.gno (dj:=5) (b:=_) rfl rfl g5 rfl ?_;refine L.gno (dj:=5) (b:=_) rfl rfl g5 rfl ?_;refine L.nil (thn_n ⟨rfl,Gr.refl _ _,?_⟩);refine ⟨?_,fun h=>h.elim⟩;repeat (first | exact jeq.refl _ _ _ | refine jeq.upd rfl ?_ | refine jeq.jk rfl rfl ?_)
  intro J5 w5 hw j5;have hB:=hB.carry hw;refine L.val (x_or rfl j5) rfl ?_;refine L.val (x_mv (v:=.bool _) rfl) rfl ?_;refine' L.group 2 10 11 11 9 false rfl ?_ ?_ ?_;rotate_left 1
  ·intro g9 hg9;have h9:=g9;refine L.gyes' (dj:=9) (b:=_) rfl rfl g9 ?_;refine L.val (x_mv (v:=.int _ _) rfl) rfl ?_;refine L.gyes' (dj:=9) (b:=_) rfl rfl g9 ?_;refine L.ret (x_call klex_en121 rfl) rfl (digitL _ _) ?_;rintro _ w11 ⟨rfl,hw⟩;have hB:=hB.carry hw;have hg9:=hg9.carry hw;refine L.nil (thn_n ⟨rfl,?_,?_,fun _=>rfl⟩)
   ·exact hg9
   ·repeat (first | exact jeq.refl _ _ _ | refine jeq.upd rfl ?_ | refine jeq.jk rfl rfl ?_)
  ·intro g9;refine L.gno (dj:=9) (b:=_) rfl rfl g9 rfl ?_;refine L.gno (dj:=9) (b:=_) rfl rfl g9 rfl ?_;refine L.nil (thn_n ⟨rfl,Gr.refl _ _,?_⟩);refine ⟨?_,fun h=>h.elim⟩;repeat (first | exact jeq.refl _ _ _ | refine jeq.upd rfl ?_ | refine jeq.jk rfl rfl ?_)
  intro J9 w9 hw j9;have hB:=hB.carry hw;refine L.val (x_or rfl j9) rfl ?_;refine L.val (x_mv (v:=.bool _) rfl) rfl ?_;refine' L.group0 2 14 15 15 13 false rfl ?_ ?_ ?_;rotate_left 1
  ·intro g13;have h13:=g13;refine L.gyes' (dj:=13) (b:=_) rfl rfl g13 ?_;refine L.val (x_mv (v:=.int _ _) rfl) rfl ?_;refine L.gyes' (dj:=13) (b:=_) rfl rfl g13 ?_;refine L.val (x_eql rfl rfl) rfl ?_;refine L.nil (thn_n ⟨rfl,rfl,?_,rfl⟩);repeat (first | exact jeq.refl _ _ _ | refine jeq.upd rfl ?_ | refine jeq.jk rfl rfl ?_)
  ·intro g13;refine L.gno (dj:=13) (b:=_) rfl rfl g13 rfl ?_;refine L.gno (dj:=13) (b:=_) rfl rfl g13 rfl ?_;refine L.nil (thn_n ⟨rfl,rfl,?_⟩);repeat (first | exact jeq.refl _ _ _ | refine jeq.upd rfl ?_ | refine jeq.jk rfl rfl ?_)
  intro J13 j13;refine L.val (x_or rfl j13) rfl ?_;refine L.val (x_as (v:=.bool _) rfl) rfl ?_;refine L.nil (thn_n (W.ret (fin_mk (.inr rfl) ?_)));exact ⟨rfl,hB⟩
theorem all_snoc {p:UInt8→Bool} {s:Str} {k:Nat} (hk:k<s.length) (h:(s.take k).all p=true) (hn:p (s.getD k 0)=true):(s.take (k+1)).all p=true:=by
  rw [List.getD_eq_getElem?_getD,List.getElem?_eq_getElem hk,Option.getD_some] at hn;rw [List.take_succ_eq_append_getElem hk,List.all_append,h];simp [hn]
theorem all_miss {p:UInt8→Bool} {s:Str} {k:Nat} (hk:k<s.length) (hn:p (s.getD k 0)=false):s.all p=false:=by
  rw [List.getD_eq_getElem?_getD,List.getElem?_eq_getElem hk,Option.getD_some] at hn;rw [List.all_eq_false];exact ⟨s[k],List.getElem_mem _,by simp [hn]⟩
theorem namedL (f:Nat) (p:UInt8→Bool) (hf:Enters Tryz.prog f) (hp:∀ c w,Ret Tryz.prog f #[.int .u8 (c:UInt8).toNat] w fun v w'=>v=.bool (p c)∧Bel w w') (s:Str) (hs:s.length≤9223372036854775807) (w:World):
    Ret Tryz.prog 73 #[S s,.func (.func f) #[] #[]] w fun v w'=>v=.bool (namedS p s)∧Bel w w':=by
  refine ret_of_W Tryz.func73 rfl (Nat.le_of_ble_eq_true rfl) (res1 rfl) ?_;have hB:=Gr.refl (fun _=>False) w;refine W.seq (W.region (L.val (x_as (v:=.bool _) rfl) rfl ?_));refine L.nil (thn_n (W.seq (W.seq (W.region (L.val (x_mv (v:=S _) rfl) rfl ?_)))));refine L.val (x_eqs rfl rfl) rfl ?_;refine L.val (x_mv (v:=.bool _) rfl) rfl ?_;refine' L.group0 3 9 11 11 8 false rfl ?_ ?_ ?_;rotate_left 1
  ·intro g8;have h8:=seq_f g8;refine L.gyes' (dj:=8) (b:=_) rfl rfl g8 ?_;refine L.val (x_mv (v:=S _) rfl) rfl ?_;refine L.gyes' (dj:=8) (b:=_) rfl rfl g8 ?_;refine L.val (x_len_str Tryz.underlying9 rfl) rfl ?_;refine L.gyes' (dj:=8) (b:=_) rfl rfl g8 ?_;refine L.val (x_gtr rfl rfl) rfl ?_;refine L.nil (thn_n ⟨rfl,rfl,?_,rfl⟩);repeat (first | exact jeq.refl _ _ _ | refine jeq.upd rfl ?_ | refine jeq.jk rfl rfl ?_)
  ·intro g8;(iterate 3 refine L.gno (dj:=8) (b:=_) rfl rfl g8 rfl ?_);refine L.nil (thn_n ⟨rfl,rfl,?_⟩);repeat (first | exact jeq.refl _ _ _ | refine jeq.upd rfl ?_ | refine jeq.jk rfl rfl ?_)
  intro J8 j8;refine L.val (x_or rfl j8) rfl ?_;refine L.val (x_mv (v:=.bool _) rfl) rfl ?_;refine' L.group 5 14 18 18 13 false rfl ?_ ?_ ?_;rotate_left 1
  ·intro g13 hg13;have h13:=g13;have h0:0<s.length:=by
     simp only [Bool.or_eq_false_iff] at h13;exact nonempty_of (by rw [h13.1];rfl)
   refine L.gyes' (dj:=13) (b:=_) rfl rfl g13 ?_;refine L.val (x_mv (v:=_) rfl) rfl ?_;refine L.gyes' (dj:=13) (b:=_) rfl rfl g13 ?_;refine L.val (x_mv (v:=S _) rfl) rfl ?_;refine L.gyes' (dj:=13) (b:=_) rfl rfl g13 ?_;refine L.val (x_ixs (j:=0) Tryz.underlying9 rfl rfl rfl om_) rfl ?_;refine L.gyes' (dj:=13) (b:=_) rfl rfl g13 ?_;refine L.ret (x_callv hf rfl rfl) rfl (hp _ _) ?_;rintro _ w17 ⟨rfl,hw⟩;have hB:=hB.carry hw;have hg13:=hg13.carry hw;refine L.gyes' (dj:=13) (b:=_) rfl rfl g13 ?_;refine L.val (x_not rfl) rfl ?_;refine L.nil (thn_n ⟨rfl,?_,?_,fun _=>rfl⟩)
   ·exact hg13
   ·repeat (first | exact jeq.refl _ _ _ | refine jeq.upd rfl ?_ | refine jeq.jk rfl rfl ?_)
  ·intro g13;(iterate 5 refine L.gno (dj:=13) (b:=_) rfl rfl g13 rfl ?_);refine L.nil (thn_n ⟨rfl,Gr.refl _ _,?_⟩);refine ⟨?_,fun h=>h.elim⟩;repeat (first | exact jeq.refl _ _ _ | refine jeq.upd rfl ?_ | refine jeq.jk rfl rfl ?_)
  intro J13 w13 hw j13;have hB:=hB.carry hw;refine L.val (x_or rfl j13) rfl ?_;refine L.nil (thn_n (W.cond (b:=_) rfl (fun g19=>?_) (fun g19=>?_)))
  ·have h19:=g19;have hN:namedS p s=false:=by
     rw [← namedS_alt];cases hh:(s == [])
     · rw [hh,Bool.false_or] at h19;rw [show decide ((24:Int)<(s.length:Int))=!decide ((s.length:Int)≤24) from by rw [Bool.eq_iff_iff];simp] at h19;cases h1:decide ((s.length:Int)≤24)
       · simp
       · rw [h1] at h19;cases h2:p (s.getD 0 0)
         · simp
         · rw [h2] at h19;cases h19
     · simp
   refine W.seq (W.region (L.val (x_as (v:=.bool _) rfl) rfl ?_));refine L.nil (thn_n (W.ret (thn_r (fin_mk (.inr rfl) ?_))));exact ⟨by rw [hN];rfl,hB⟩
  ·have h19:=g19;have h3:headIs p s=true∧s.length≤24:=by
     simp only [Bool.or_eq_false_iff,decide_eq_false_iff_not,Bool.not_eq_false'] at h19;obtain ⟨⟨a1,a2⟩,a3⟩:=h19;have h0:0<s.length:=nonempty_of (by rw [a1];rfl);exact ⟨by rw [← headIs_get h0];exact a3,by omega⟩
   refine W.skip (thn_n (W.seq (W.seq (W.region (L.val (x_mv (v:=S _) rfl) rfl ?_)))));refine L.val (x_len_str Tryz.underlying9 rfl) rfl ?_;refine L.val (x_mv (v:=.int _ _) rfl) rfl ?_;refine L.nil (thn_n (W.block (W.loop (fun m E w'=>Bel w w'∧∃ k:Nat,k≤s.length∧m=s.length - k∧E 22=.int .i64 (k:Nat)∧E 21=.int .i64 (s.length:Nat)∧E 0=S s∧(s.take k).all isRest=true) (s.length) ?_ ?_)))
   ·exact ⟨hB,0,by omega,rfl,rfl,rfl,rfl,by simp⟩
   ·rintro m E w0 ⟨hB,k,hk,rfl,e22,e21,e0,ha⟩;rw [upd_self e22,upd_self e21,upd_self e0];refine W.seq (W.region (L.val (x_lss rfl rfl) rfl ?_));refine L.nil (thn_n (W.seq (W.cond (b:=_) rfl (fun g23=>?_) (fun g23=>?_))))
    ·have h23:=of_decide_eq_true g23;refine W.skip (thn_n (W.seq (W.block (W.seq (W.region (L.val (x_mv (v:=.int _ _) rfl) rfl ?_))))));refine L.val (x_as (v:=.int _ _) rfl) rfl ?_;refine L.nil (thn_n (W.seq (W.region (L.val (x_mv (v:=S _) rfl) rfl ?_))));refine L.val (x_mv (v:=.int _ _) rfl) rfl ?_;refine L.val (x_ixs  Tryz.underlying9 rfl rfl rfl om_) rfl ?_;refine L.ret (x_call klex_en98 rfl) rfl (restL _ _) ?_;rintro _ w28 ⟨rfl,hw⟩;have hB:=hB.carry hw;refine L.val (x_not rfl) rfl ?_;refine L.nil (thn_n (W.cond (b:=_) rfl (fun g29=>?_) (fun g29=>?_)))
     ·have h29:=(not_t g29);refine W.seq (W.region (L.val (x_as (v:=.bool _) rfl) rfl ?_));refine L.nil (thn_n (W.ret (blk_r (thn_r (thn_r (blk_r (thn_r (fin_mk (.inr rfl) ?_))))))));exact ⟨vb (by unfold namedS;rw [all_miss om_ h29];simp),hB⟩
     ·have h29:=(not_f g29);refine W.skip (blk_n (thn_n (W.region (L.val (x_add rfl rfl (wr64 om_)) rfl ?_))));refine L.val (x_mv (v:=.int _ _) rfl) rfl ?_;refine L.nil (thn_n ⟨rfl,?_⟩);exact ⟨s.length - (k+1),by omega,hB,k+1,by omega,rfl,rfl,rfl,rfl,all_snoc om_ ha h29⟩
    ·have h23:=dlt_f g23;refine W.exit (thn_x (thn_x (blk_hit ?_)));refine thn_n (W.seq (W.region (L.val (x_as (v:=.bool _) rfl) rfl ?_)));refine L.nil (thn_n (W.ret (fin_mk (.inr rfl) ?_)));have:k=s.length:=by omega
     subst this;rw [List.take_length] at ha;exact ⟨vb (by unfold namedS;rw [ha,h3.1];simp [h3.2]),hB⟩
theorem wordL (s:Str) (w:World):Ret Tryz.prog 75 #[S s] w fun v w'=>v=.bool (wordS s)∧Bel w w':=by
  refine ret_of_W Tryz.func75 rfl (Nat.le_of_ble_eq_true rfl) (res1 rfl) ?_;refine W.seq (W.region (L.val (x_as (v:=.bool _) rfl) rfl ?_));refine L.nil (thn_n (W.seq (W.seq (W.region (L.val (x_mv (v:=S _) rfl) rfl ?_)))));refine L.nil (thn_n (W.block (W.seq (W.seq (W.region (L.val (x_eqs rfl rfl) rfl ?_))))));refine L.val (x_as (v:=.bool _) rfl) rfl ?_;refine L.nil (thn_n (W.cond (b:=_) rfl (fun g5=>?_) (fun g5=>?_)))
  ·have h5:=seq_t g5;refine W.skip (thn_n (W.cond (b:=_) rfl (fun _=>?_) (fun h=>nomatch (g5.symm.trans h:true=false))));refine W.seq (W.region (L.val (x_as (v:=.bool _) rfl) rfl ?_));refine L.nil (thn_n (W.ret (blk_r (thn_r (fin_mk (.inr rfl) ?_)))));exact ⟨by subst_vars;rfl,Gr.refl _ _⟩
  ·have h5:=seq_f g5;refine W.seq (W.region (L.val (x_eqs rfl rfl) rfl ?_));refine L.val (x_as (v:=.bool _) rfl) rfl ?_;refine L.nil (thn_n (W.cond (b:=_) rfl (fun g6=>?_) (fun g6=>?_)))
   ·have h6:=seq_t g6;refine W.skip (thn_n (W.cond (b:=_) rfl (fun _=>?_) (fun h=>nomatch (g6.symm.trans h:true=false))));refine W.seq (W.region (L.val (x_as (v:=.bool _) rfl) rfl ?_));refine L.nil (thn_n (W.ret (blk_r (thn_r (fin_mk (.inr rfl) ?_)))));exact ⟨by subst_vars;rfl,Gr.refl _ _⟩
   ·have h6:=seq_f g6;refine W.seq (W.region (L.val (x_eqs rfl rfl) rfl ?_));refine L.val (x_as (v:=.bool _) rfl) rfl ?_;refine L.nil (thn_n (W.cond (b:=_) rfl (fun g7=>?_) (fun g7=>?_)))
    ·have h7:=seq_t g7;refine W.skip (thn_n (W.cond (b:=_) rfl (fun _=>?_) (fun h=>nomatch (g7.symm.trans h:true=false))));refine W.seq (W.region (L.val (x_as (v:=.bool _) rfl) rfl ?_));refine L.nil (thn_n (W.ret (blk_r (thn_r (fin_mk (.inr rfl) ?_)))));exact ⟨by subst_vars;rfl,Gr.refl _ _⟩
    ·have h7:=seq_f g7;refine W.seq (W.region (L.val (x_eqs rfl rfl) rfl ?_));refine L.val (x_as (v:=.bool _) rfl) rfl ?_;refine L.nil (thn_n (W.cond (b:=_) rfl (fun g8=>?_) (fun g8=>?_)))
     ·have h8:=seq_t g8;refine W.skip (thn_n (W.cond (b:=_) rfl (fun _=>?_) (fun h=>nomatch (g8.symm.trans h:true=false))));refine W.seq (W.region (L.val (x_as (v:=.bool _) rfl) rfl ?_));refine L.nil (thn_n (W.ret (blk_r (thn_r (fin_mk (.inr rfl) ?_)))));exact ⟨by subst_vars;rfl,Gr.refl _ _⟩
     ·have h8:=seq_f g8;refine W.seq (W.region (L.val (x_eqs rfl rfl) rfl ?_));refine L.val (x_as (v:=.bool _) rfl) rfl ?_;refine L.nil (thn_n (W.cond (b:=_) rfl (fun g9=>?_) (fun g9=>?_)))
      ·have h9:=seq_t g9;refine W.skip (thn_n (W.cond (b:=_) rfl (fun _=>?_) (fun h=>nomatch (g9.symm.trans h:true=false))));refine W.seq (W.region (L.val (x_as (v:=.bool _) rfl) rfl ?_));refine L.nil (thn_n (W.ret (blk_r (thn_r (fin_mk (.inr rfl) ?_)))));exact ⟨by subst_vars;rfl,Gr.refl _ _⟩
      ·have h9:=seq_f g9;refine W.seq (W.region (L.val (x_eqs rfl rfl) rfl ?_));refine L.val (x_as (v:=.bool _) rfl) rfl ?_;refine L.nil (thn_n (W.cond (b:=_) rfl (fun g10=>?_) (fun g10=>?_)))
       ·have h10:=seq_t g10;refine W.skip (thn_n (W.cond (b:=_) rfl (fun _=>?_) (fun h=>nomatch (g10.symm.trans h:true=false))));refine W.seq (W.region (L.val (x_as (v:=.bool _) rfl) rfl ?_));refine L.nil (thn_n (W.ret (blk_r (thn_r (fin_mk (.inr rfl) ?_)))));exact ⟨by subst_vars;rfl,Gr.refl _ _⟩
       ·have h10:=seq_f g10;refine W.seq (W.region (L.val (x_eqs rfl rfl) rfl ?_));refine L.val (x_as (v:=.bool _) rfl) rfl ?_;refine L.nil (thn_n (W.cond (b:=_) rfl (fun g11=>?_) (fun g11=>?_)))
        ·have h11:=seq_t g11;refine W.skip (thn_n (W.cond (b:=_) rfl (fun _=>?_) (fun h=>nomatch (g11.symm.trans h:true=false))));refine W.seq (W.region (L.val (x_as (v:=.bool _) rfl) rfl ?_));refine L.nil (thn_n (W.ret (blk_r (thn_r (fin_mk (.inr rfl) ?_)))));exact ⟨by subst_vars;rfl,Gr.refl _ _⟩
        ·have h11:=seq_f g11;refine W.seq (W.region (L.val (x_eqs rfl rfl) rfl ?_));refine L.val (x_as (v:=.bool _) rfl) rfl ?_;refine L.nil (thn_n (W.cond (b:=_) rfl (fun g12=>?_) (fun g12=>?_)))
         ·have h12:=seq_t g12;refine W.skip (thn_n (W.cond (b:=_) rfl (fun _=>?_) (fun h=>nomatch (g12.symm.trans h:true=false))));refine W.seq (W.region (L.val (x_as (v:=.bool _) rfl) rfl ?_));refine L.nil (thn_n (W.ret (blk_r (thn_r (fin_mk (.inr rfl) ?_)))));exact ⟨by subst_vars;rfl,Gr.refl _ _⟩
         ·have h12:=seq_f g12;refine W.seq (W.region (L.val (x_eqs rfl rfl) rfl ?_));refine L.val (x_as (v:=.bool _) rfl) rfl ?_;refine L.nil (thn_n (W.cond (b:=_) rfl (fun g13=>?_) (fun g13=>?_)))
          ·have h13:=seq_t g13;refine W.skip (thn_n (W.cond (b:=_) rfl (fun _=>?_) (fun h=>nomatch (g13.symm.trans h:true=false))));refine W.seq (W.region (L.val (x_as (v:=.bool _) rfl) rfl ?_));refine L.nil (thn_n (W.ret (blk_r (thn_r (fin_mk (.inr rfl) ?_)))));exact ⟨by subst_vars;rfl,Gr.refl _ _⟩
          ·have h13:=seq_f g13;refine W.seq (W.region (L.val (x_eqs rfl rfl) rfl ?_));refine L.val (x_as (v:=.bool _) rfl) rfl ?_;refine L.nil (thn_n (W.cond (b:=_) rfl (fun g14=>?_) (fun g14=>?_)))
           ·have h14:=seq_t g14;refine W.skip (thn_n (W.cond (b:=_) rfl (fun _=>?_) (fun h=>nomatch (g14.symm.trans h:true=false))));refine W.seq (W.region (L.val (x_as (v:=.bool _) rfl) rfl ?_));refine L.nil (thn_n (W.ret (blk_r (thn_r (fin_mk (.inr rfl) ?_)))));exact ⟨by subst_vars;rfl,Gr.refl _ _⟩
           ·have h14:=seq_f g14;refine W.seq (W.region (L.val (x_eqs rfl rfl) rfl ?_));refine L.val (x_as (v:=.bool _) rfl) rfl ?_;refine L.nil (thn_n (W.cond (b:=_) rfl (fun g15=>?_) (fun g15=>?_)))
            ·have h15:=seq_t g15;refine W.skip (thn_n (W.cond (b:=_) rfl (fun _=>?_) (fun h=>nomatch (g15.symm.trans h:true=false))));refine W.seq (W.region (L.val (x_as (v:=.bool _) rfl) rfl ?_));refine L.nil (thn_n (W.ret (blk_r (thn_r (fin_mk (.inr rfl) ?_)))));exact ⟨by subst_vars;rfl,Gr.refl _ _⟩
            ·have h15:=seq_f g15;refine W.seq (W.region (L.val (x_eqs rfl rfl) rfl ?_));refine L.val (x_as (v:=.bool _) rfl) rfl ?_;refine L.nil (thn_n (W.cond (b:=_) rfl (fun g16=>?_) (fun g16=>?_)))
             ·have h16:=seq_t g16;refine W.skip (thn_n (W.cond (b:=_) rfl (fun _=>?_) (fun h=>nomatch (g16.symm.trans h:true=false))));refine W.seq (W.region (L.val (x_as (v:=.bool _) rfl) rfl ?_));refine L.nil (thn_n (W.ret (blk_r (thn_r (fin_mk (.inr rfl) ?_)))));exact ⟨by subst_vars;rfl,Gr.refl _ _⟩
             ·have h16:=seq_f g16;refine W.seq (W.region (L.val (x_eqs rfl rfl) rfl ?_));refine L.val (x_as (v:=.bool _) rfl) rfl ?_;refine L.nil (thn_n (W.cond (b:=_) rfl (fun g17=>?_) (fun g17=>?_)))
              ·have h17:=seq_t g17;refine W.skip (thn_n (W.cond (b:=_) rfl (fun _=>?_) (fun h=>nomatch (g17.symm.trans h:true=false))));refine W.seq (W.region (L.val (x_as (v:=.bool _) rfl) rfl ?_));refine L.nil (thn_n (W.ret (blk_r (thn_r (fin_mk (.inr rfl) ?_)))));exact ⟨by subst_vars;rfl,Gr.refl _ _⟩
              ·have h17:=seq_f g17;refine W.seq (W.region (L.val (x_eqs rfl rfl) rfl ?_));refine L.val (x_as (v:=.bool _) rfl) rfl ?_;refine L.nil (thn_n (W.cond (b:=_) rfl (fun g18=>?_) (fun g18=>?_)))
               ·have h18:=seq_t g18;refine W.skip (thn_n (W.cond (b:=_) rfl (fun _=>?_) (fun h=>nomatch (g18.symm.trans h:true=false))));refine W.seq (W.region (L.val (x_as (v:=.bool _) rfl) rfl ?_));refine L.nil (thn_n (W.ret (blk_r (thn_r (fin_mk (.inr rfl) ?_)))));exact ⟨by subst_vars;rfl,Gr.refl _ _⟩
               ·have h18:=seq_f g18;refine W.seq (W.region (L.val (x_eqs rfl rfl) rfl ?_));refine L.val (x_as (v:=.bool _) rfl) rfl ?_;refine L.nil (thn_n (W.cond (b:=_) rfl (fun g19=>?_) (fun g19=>?_)))
                ·have h19:=seq_t g19;refine W.skip (thn_n (W.cond (b:=_) rfl (fun _=>?_) (fun h=>nomatch (g19.symm.trans h:true=false))));refine W.seq (W.region (L.val (x_as (v:=.bool _) rfl) rfl ?_));refine L.nil (thn_n (W.ret (blk_r (thn_r (fin_mk (.inr rfl) ?_)))));exact ⟨by subst_vars;rfl,Gr.refl _ _⟩
                ·have h19:=seq_f g19;refine W.seq (W.region (L.val (x_eqs rfl rfl) rfl ?_));refine L.val (x_as (v:=.bool _) rfl) rfl ?_;refine L.nil (thn_n (W.cond (b:=_) rfl (fun g20=>?_) (fun g20=>?_)))
                 ·have h20:=seq_t g20;refine W.skip (thn_n (W.cond (b:=_) rfl (fun _=>?_) (fun h=>nomatch (g20.symm.trans h:true=false))));refine W.seq (W.region (L.val (x_as (v:=.bool _) rfl) rfl ?_));refine L.nil (thn_n (W.ret (blk_r (thn_r (fin_mk (.inr rfl) ?_)))));exact ⟨by subst_vars;rfl,Gr.refl _ _⟩
                 ·have h20:=seq_f g20;refine W.seq (W.region (L.val (x_eqs rfl rfl) rfl ?_));refine L.val (x_as (v:=.bool _) rfl) rfl ?_;refine L.nil (thn_n (W.cond (b:=_) rfl (fun g21=>?_) (fun g21=>?_)))
                  ·have h21:=seq_t g21;refine W.skip (thn_n (W.cond (b:=_) rfl (fun _=>?_) (fun h=>nomatch (g21.symm.trans h:true=false))));refine W.seq (W.region (L.val (x_as (v:=.bool _) rfl) rfl ?_));refine L.nil (thn_n (W.ret (blk_r (thn_r (fin_mk (.inr rfl) ?_)))));exact ⟨by subst_vars;rfl,Gr.refl _ _⟩
                  ·have h21:=seq_f g21;refine W.seq (W.region (L.val (x_eqs rfl rfl) rfl ?_));refine L.val (x_as (v:=.bool _) rfl) rfl ?_;refine L.nil (thn_n (W.cond (b:=_) rfl (fun g22=>?_) (fun g22=>?_)))
                   ·have h22:=seq_t g22;refine W.skip (thn_n (W.cond (b:=_) rfl (fun _=>?_) (fun h=>nomatch (g22.symm.trans h:true=false))));refine W.seq (W.region (L.val (x_as (v:=.bool _) rfl) rfl ?_));refine L.nil (thn_n (W.ret (blk_r (thn_r (fin_mk (.inr rfl) ?_)))));exact ⟨by subst_vars;rfl,Gr.refl _ _⟩
                   ·have h22:=seq_f g22;refine W.seq (W.region (L.val (x_eqs rfl rfl) rfl ?_));refine L.val (x_as (v:=.bool _) rfl) rfl ?_;refine L.nil (thn_n (W.cond (b:=_) rfl (fun g23=>?_) (fun g23=>?_)))
                    ·have h23:=seq_t g23;refine W.skip (thn_n (W.cond (b:=_) rfl (fun _=>?_) (fun h=>nomatch (g23.symm.trans h:true=false))));refine W.seq (W.region (L.val (x_as (v:=.bool _) rfl) rfl ?_));refine L.nil (thn_n (W.ret (blk_r (thn_r (fin_mk (.inr rfl) ?_)))));exact ⟨by subst_vars;rfl,Gr.refl _ _⟩
                    ·have h23:=seq_f g23;refine W.region (L.val (x_eqs rfl rfl) rfl ?_);refine L.val (x_as (v:=.bool _) rfl) rfl ?_;refine L.nil (thn_n (W.cond (b:=_) rfl (fun g24=>?_) (fun g24=>?_)))
                     ·have h24:=seq_t g24;refine W.seq (W.region (L.val (x_as (v:=.bool _) rfl) rfl ?_));refine L.nil (thn_n (W.ret (blk_r (thn_r (fin_mk (.inr rfl) ?_)))));exact ⟨by subst_vars;rfl,Gr.refl _ _⟩
                     ·have h24:=seq_f g24;refine W.skip (blk_n (thn_n (W.seq (W.region (L.val (x_as (v:=.bool _) rfl) rfl ?_)))));refine L.nil (thn_n (W.ret (fin_mk (.inr rfl) ?_)));refine ⟨?_,Gr.refl _ _⟩;have:wordS s=false:=by simp only [wordS,words,List.contains_cons,List.contains_nil,Bool.or_false,Bool.or_eq_false_iff,beq_eq_false_iff_ne];exact ⟨h5,h6,h7,h8,h9,h10,h11,h12,h13,h14,h15,h16,h17,h18,h19,h20,h21,h22,h23,h24⟩
                      rw [this];rfl
theorem nameL (s:Str) (hs:s.length≤9223372036854775807) (w:World):Ret Tryz.prog 51 #[S s] w fun v w'=>v=.bool (nameS s)∧Bel w w':=by
  refine ret_of_W Tryz.func51 rfl (Nat.le_of_ble_eq_true rfl) (res1 rfl) ?_;have hB:=Gr.refl (fun _=>False) w;refine W.seq (W.region (L.val (x_as (v:=.bool _) rfl) rfl ?_));refine L.nil (thn_n (W.seq (W.region (L.val (x_mv (v:=S _) rfl) rfl ?_))));refine L.ret (x_call klex_en73 rfl) rfl (namedL 74 isSmall klex_en74 smallL s hs _) ?_;rintro _ w4 ⟨rfl,hw⟩;have hB:=hB.carry hw;refine L.val (x_mv (v:=.bool _) rfl) rfl ?_;refine' L.group 3 6 8 8 5 true rfl ?_ ?_ ?_;rotate_left 1
  ·intro g5 hg5;have h5:=g5;refine L.gyes' (dj:=5) (b:=_) rfl rfl g5 ?_;refine L.val (x_mv (v:=S _) rfl) rfl ?_;refine L.gyes' (dj:=5) (b:=_) rfl rfl g5 ?_;refine L.ret (x_call klex_en75 rfl) rfl (wordL s _) ?_;rintro _ w7 ⟨rfl,hw⟩;have hB:=hB.carry hw;have hg5:=hg5.carry hw;refine L.gyes' (dj:=5) (b:=_) rfl rfl g5 ?_;refine L.val (x_not rfl) rfl ?_;refine L.nil (thn_n ⟨rfl,?_,?_,fun _=>rfl⟩)
   ·exact hg5
   ·repeat (first | exact jeq.refl _ _ _ | refine jeq.upd rfl ?_ | refine jeq.jk rfl rfl ?_)
  ·intro g5;(iterate 3 refine L.gno (dj:=5) (b:=_) rfl rfl g5 rfl ?_);refine L.nil (thn_n ⟨rfl,Gr.refl _ _,?_⟩);refine ⟨?_,fun h=>h.elim⟩;repeat (first | exact jeq.refl _ _ _ | refine jeq.upd rfl ?_ | refine jeq.jk rfl rfl ?_)
  intro J5 w5 hw j5;have hB:=hB.carry hw;refine L.val (x_and rfl j5) rfl ?_;refine L.val (x_as (v:=.bool _) rfl) rfl ?_;refine L.nil (thn_n (W.ret (fin_mk (.inr rfl) ?_)));exact ⟨rfl,hB⟩
theorem upperL (s:Str) (hs:s.length≤9223372036854775807) (w:World):Ret Tryz.prog 54 #[S s] w fun v w'=>v=.bool (upperS s)∧Bel w w':=by
  refine ret_of_W Tryz.func54 rfl (Nat.le_of_ble_eq_true rfl) (res1 rfl) ?_;have hB:=Gr.refl (fun _=>False) w;refine W.seq (W.region (L.val (x_as (v:=.bool _) rfl) rfl ?_));refine L.nil (thn_n (W.seq (W.region (L.val (x_mv (v:=S _) rfl) rfl ?_))));refine L.ret (x_call klex_en73 rfl) rfl (namedL 81 isGreat klex_en81 greatL s hs _) ?_;rintro _ w4 ⟨rfl,hw⟩;have hB:=hB.carry hw;refine L.val (x_as (v:=.bool _) rfl) rfl ?_;refine L.nil (thn_n (W.ret (fin_mk (.inr rfl) ?_)));exact ⟨rfl,hB⟩
end Go.Gx
namespace Go.Gx
open Go.Proofs
mutual
def Sh.size:Sh→Nat | .mk _ _ _ _ ps=>1+sizeL ps
def sizeL:List Sh→Nat | []=>0 | p :: ps=>p.size+sizeL ps
end
mutual
def Sh.deep:Sh→Nat | .mk _ _ _ _ ps=>1+deepL ps
def deepL:List Sh→Nat | []=>0 | p :: ps=>max p.deep (deepL ps)
end
theorem sizeL_take {l:List Sh} {k:Nat} (hk:k<l.length):sizeL (l.take (k+1))=sizeL (l.take k)+(l.getD k default).size:=by
  induction l generalizing k with
  | nil=>simp at hk
  | cons x l ih=>
    cases k with
    | zero=>simp [sizeL]
    | succ k=>have:=ih (k:=k) (by simpa using hk);simp only [List.take_succ_cons,sizeL,this,List.getD_cons_succ];omega
theorem sizeL_le {l:List Sh} {k:Nat}:sizeL (l.take k)≤sizeL l:=by
  induction l generalizing k with
  | nil=>simp
  | cons x l ih=>cases k with
    | zero=>simp [sizeL]
    | succ k=>have:=ih (k:=k);simp only [List.take_succ_cons,sizeL];omega
theorem deepL_take {l:List Sh} {k:Nat} (hk:k<l.length):deepL (l.take (k+1))=max (deepL (l.take k)) (l.getD k default).deep:=by
  induction l generalizing k with
  | nil=>simp at hk
  | cons x l ih=>
    cases k with
    | zero=>simp [deepL]
    | succ k=>have:=ih (k:=k) (by simpa using hk);simp only [List.take_succ_cons,deepL,this,List.getD_cons_succ];omega
theorem Sh.size_eq (s:Sh):s.size=1+sizeL s.parts:=by cases s;rfl
theorem Sh.deep_eq (s:Sh):s.deep=1+deepL s.parts:=by cases s;rfl
mutual
theorem Sh.deep_le:∀ s:Sh,s.deep≤s.size
  | .mk _ _ _ _ ps=>by have:=deepL_le ps;simp only [Sh.deep,Sh.size];omega
theorem deepL_le:∀ l:List Sh,deepL l≤sizeL l
  | []=>Nat.le_refl _
  | p :: ps=>by have:=Sh.deep_le p;have:=deepL_le ps;simp only [deepL,sizeL];omega
end
theorem Sh.part_size {s:Sh} {i:Nat} (h:i<s.parts.length):(s.parts.getD i default).size<s.size:=by
  rw [Sh.size_eq s];have h1:=sizeL_take h;have h2:=sizeL_le (l:=s.parts) (k:=i+1);omega
def nodup:List Str→Bool
  | []=>true
  | x :: l=>!l.contains x && nodup l
theorem take_snoc {α : Type} [Inhabited α] {l:List α} {k:Nat} {d:α} (hk:k<l.length):l.take (k+1)=l.take k++[l.getD k d]:=by
  rw [List.take_succ_eq_append_getElem hk,List.getD_eq_getElem?_getD,List.getElem?_eq_getElem hk,Option.getD_some]
def namesOk (l:List Str) (parts:Int):Bool:=l.all nameS && nodup l && decide ((l.length:Int)=parts)
def plainS (s:Str):Bool:=s == [73,110,116] || s == [66,111,111,108] || s == [84,101,120,116] || s == [65,110,121]
def fitsS (s:Sh):Bool:=
  if (decide (s.kind=9) || decide (s.kind=10))=true then upperS s.name && (nameS s.of || (s.of == [] && decide (s.kind=9) && !plainS s.name)) && decide ((s.names.length:Int)=0) && decide ((s.parts.length:Int)=0)
  else if (!(s.of == []) || !(s.name == []))=true then false
  else if (decide (s.kind=6) || decide (s.kind=7))=true then namesOk s.names s.parts.length
  else if (0:Int)<s.names.length then false
  else if s.kind=8 then decide ((1:Int)≤s.parts.length)
  else if s.kind=5 then decide ((s.parts.length:Int)=1)
  else decide (1≤s.kind) && decide (s.kind≤4) && decide ((s.parts.length:Int)=0)
mutual
def Sh.allB (p:Sh→Bool):Sh→Bool | .mk k o n l ps=>p (.mk k o n l ps) && allL p ps
def allL (p:Sh→Bool):List Sh→Bool | []=>true | x :: xs=>x.allB p && allL p xs
end
theorem Sh.allB_eq (p:Sh→Bool) (s:Sh):s.allB p=(p s && allL p s.parts):=by cases s;rfl
theorem allL_take {p:Sh→Bool} {l:List Sh} {k:Nat} (hk:k<l.length):allL p (l.take (k+1))=(allL p (l.take k) && (l.getD k default).allB p):=by
  induction l generalizing k with
  | nil=>simp at hk
  | cons x l ih=>
    cases k with
    | zero=>simp [allL]
    | succ k=>have:=ih (k:=k) (by simpa using hk);simp only [List.take_succ_cons,allL,this,List.getD_cons_succ,Bool.and_assoc]
theorem allL_miss {p:Sh→Bool} {l:List Sh} {k:Nat} (hk:k<l.length) (h:(l.getD k default).allB p=false):allL p l=false:=by
  induction l generalizing k with
  | nil=>simp at hk
  | cons x l ih=>
    cases k with
    | zero=>simp only [allL];rw [show x.allB p=false from h];rfl
    | succ k=>simp only [allL];rw [ih (k:=k) (by simpa using hk) h];simp
def checkS (s:Sh):Int:=if 400<s.size then 3 else if 40<s.deep then 91 else if s.allB fitsS=false then 70 else 0
end Go.Gx
namespace Go.Gx
open Go.Proofs
inductive Tm where
  | mk (kind:Int) (of name:Str) (n:Int) (names vars:List Str) (shapes:List Sh) (parts:List Tm) (place:Int)
instance:Inhabited Tm:=⟨.mk 0 [] [] 0 [] [] [] [] 0⟩
namespace Tm
def kind:Tm→Int | .mk k _ _ _ _ _ _ _ _=>k
def of:Tm→Str | .mk _ o _ _ _ _ _ _ _=>o
def name:Tm→Str | .mk _ _ n _ _ _ _ _ _=>n
def n:Tm→Int | .mk _ _ _ n _ _ _ _ _=>n
def names:Tm→List Str | .mk _ _ _ _ l _ _ _ _=>l
def vars:Tm→List Str | .mk _ _ _ _ _ l _ _ _=>l
def shapes:Tm→List Sh | .mk _ _ _ _ _ _ l _ _=>l
def parts:Tm→List Tm | .mk _ _ _ _ _ _ _ l _=>l
def place:Tm→Int | .mk _ _ _ _ _ _ _ _ a=>a
theorem part_lt {s:Tm} {i:Nat} (h:i<s.parts.length):SizeOf.sizeOf (s.parts.getD i default)<SizeOf.sizeOf s:=by
  rw [List.getD_eq_getElem?_getD,List.getElem?_eq_getElem h,Option.getD_some];cases s with
  | mk k o n j l v ss ps a=>
    have:=List.sizeOf_lt_of_mem (List.getElem_mem (l:=ps) h);simp only [parts] at *;simp only [mk.sizeOf_spec];omega
end Tm
theorem strs_move {A A':Nat→Prop} {w w':World} (hc:∀ (a:Addr) v,¬ A a.block→w.cell? a=some v→w'.cell? a=some v∧¬ A' a.block) {v:Value} {l:List Str} (hn:StrsAt A w v l):StrsAt A' w' v l:=by
  obtain ⟨p',cap',hv,g1,g2,g3,gx,g4⟩:=hn;refine ⟨p',cap',hv,g1,g2,g3,gx,fun hne=>?_⟩;obtain ⟨b,o,e,hA,hcell⟩:=g4 hne;refine ⟨b,o,e,?_,fun i hi=>(hc _ _ hA (hcell i hi)).1⟩;cases l with
  | nil=>exact absurd rfl hne
  | cons x l=>exact (hc _ _ hA (hcell 0 (by simp))).2
theorem strs_one {A:Nat→Prop} {w:World} {v:Value} {l:List Str} (h:StrsAt A w v l):v.oneCell'=true:=by obtain ⟨_,_,rfl,-⟩:=h;rfl
theorem shs_one {A:Nat→Prop} {w:World} {v:Value} {l:List Sh} (h:ShsAt A w v l):v.oneCell'=true:=by obtain ⟨_,_,_,rfl,-⟩:=h;rfl
inductive TmC (A:Nat→Prop) (w:World):List Value→Tm→Prop
  | mk {k:Int} {of nm:Str} {n:Int} {names vars:List Str} {shapes:List Sh} {parts:List Tm} {at_:Int} {vn vv vs:Value} {p:Option Addr} {cap:Nat} (row:Nat→List Value)
      (hn:StrsAt A w vn names) (hv:StrsAt A w vv vars) (hsh:ShsAt A w vs shapes) (ho:of.length≤9223372036854775807) (hm:nm.length≤140737488351232) (hi:-9223372036854775808≤n∧n≤9223372036854775807)
      (h1:parts.length≤cap) (h2:cap≤9223372036854775807) (h3:parts.length≤70368744177664)
      (hp:parts≠[]→∃ b o,p=some ⟨b,o,none⟩∧¬ A b∧∀ i j,i<parts.length→j<9→w.cell? ⟨b,o+i * 9+j,none⟩=(row i)[j]?)
      (hl:∀ i,i<parts.length→(row i).length=9)
      (hs:∀ i,i<parts.length→TmC A w (row i) (parts.getD i default)):
      TmC A w [.int .i64 k,S of,S nm,.int .i64 n,vn,vv,vs,.slice p parts.length cap,.int .i64 at_] (.mk k of nm n names vars shapes parts at_)
section
variable {A A':Nat→Prop} {w w':World} {cs:List Value} {s:Tm}
theorem TmC.inv (h:TmC A w cs s):∃ vn vv vs vp,cs=[.int .i64 s.kind,S s.of,S s.name,.int .i64 s.n,vn,vv,vs,vp,.int .i64 s.place]∧StrsAt A w vn s.names∧StrsAt A w vv s.vars∧ShsAt A w vs s.shapes∧RecsAt TmC 9 A w vp s.parts∧
    s.of.length≤9223372036854775807∧s.name.length≤140737488351232∧(-9223372036854775808≤s.n∧s.n≤9223372036854775807):=by
  cases h with
  | mk row hn hv hsh ho hm hi h1 h2 h3 hp hl hs=>exact ⟨_,_,_,_,rfl,hn,hv,hsh,⟨_,_,row,rfl,h1,h2,h3,⟨hp,hl,hs⟩⟩,ho,hm,hi⟩
theorem TmC.intro {k:Int} {of nm:Str} {n:Int} {names vars:List Str} {shapes:List Sh} {parts:List Tm} {at_:Int} {vn vv vs vp:Value} (hn:StrsAt A w vn names) (hv:StrsAt A w vv vars) (hsh:ShsAt A w vs shapes) (hp:RecsAt TmC 9 A w vp parts)
    (ho:of.length≤9223372036854775807) (hm:nm.length≤140737488351232) (hi:-9223372036854775808≤n∧n≤9223372036854775807):
    TmC A w [.int .i64 k,S of,S nm,.int .i64 n,vn,vv,vs,vp,.int .i64 at_] (.mk k of nm n names vars shapes parts at_):=by
  obtain ⟨p,cap,row,rfl,h1,h2,h3,⟨hp,hl,hs⟩⟩:=hp;exact .mk row hn hv hsh ho hm hi h1 h2 h3 hp hl hs
theorem TmC.move (hc:∀ (a:Addr) v,¬ A a.block→w.cell? a=some v→w'.cell? a=some v∧¬ A' a.block) (h:TmC A w cs s):TmC A' w' cs s:=by
  induction h with
  | mk row hn hv hsh ho hm hi h1 h2 h3 hp hl hs ih=>
    rename_i k of nm n names vars shapes parts at_ vn vv vs p cap
    refine .mk row (strs_move hc hn) (strs_move hc hv) (hsh.move hc) ho hm hi h1 h2 h3 (fun hne=>?_) hl ih;obtain ⟨b,o,e,hA,hcell⟩:=hp hne;have h5:∀ i j,i<parts.length→j<9→∃ v,(row i)[j]? = some v:=fun i j hi hj=>⟨_,List.getElem?_eq_getElem (by rw [hl i hi];exact hj)⟩
    refine ⟨b,o,e,?_,fun i j hi hj=>?_⟩
    · cases parts with
      | nil=>exact absurd rfl hne
      | cons x l=>
        obtain ⟨v,hv⟩:=h5 0 0 (by simp) om_;exact (hc ⟨b,o+0 * 9+0,none⟩ v hA (by rw [hcell 0 0 (by simp) om_,hv])).2
    · obtain ⟨v,hv⟩:=h5 i j hi hj;rw [hv];exact (hc _ v hA (by rw [hcell i j hi hj,hv])).1
theorem TmC.len (h:TmC A w cs s):cs.length=9:=by cases h;rfl
theorem TmC.one (h:TmC A w cs s):∀ v∈cs,v.oneCell'=true:=by
  obtain ⟨vn,vv,vs,vp,rfl,h1,h2,h3,h4,-⟩:=h.inv;intro v hv;simp only [List.mem_cons,List.not_mem_nil,or_false] at hv;rcases hv with rfl | rfl | rfl | rfl | rfl | rfl | rfl | rfl | rfl
  · rfl
  · rfl
  · rfl
  · rfl
  · exact strs_one h1
  · exact strs_one h2
  · exact shs_one h3
  · exact h4.one
  · rfl
instance car_tm:Car TmC 9 where
  pos:=by decide
  len:=TmC.len
  one:=TmC.one
  move:=TmC.move
theorem TmC.carryR {R:Nat→Prop} (h:TmC A w cs s) (g:Gr R w w') (hR:∀ j,R j→A j):TmC A w' cs s:=Car.carryR h g hR
theorem TmC.carry (h:TmC A w cs s) (g:Bel w w'):TmC A w' cs s:=Car.carry h g
theorem TmC.mono (h:TmC A w cs s) (hA:∀ b,b<w.heap.size→A' b→A b):TmC A' w cs s:=Car.mono h hA
theorem TmC.up (h:TmC A w cs s):TmC (fun j=>A j∨w.heap.size≤j) w cs s:=Car.up h
end
mutual
def Tm.size:Tm→Nat | .mk _ _ _ _ _ _ _ ps _=>1+tsizeL ps
def tsizeL:List Tm→Nat | []=>0 | p :: ps=>p.size+tsizeL ps
end
mutual
def Tm.deep:Tm→Nat | .mk _ _ _ _ _ _ _ ps _=>1+tdeepL ps
def tdeepL:List Tm→Nat | []=>0 | p :: ps=>max p.deep (tdeepL ps)
end
mutual
def Tm.allB (f:Tm→Bool):Tm→Bool | .mk k o m n l v ss ps a=>f (.mk k o m n l v ss ps a) && tallL f ps
def tallL (f:Tm→Bool):List Tm→Bool | []=>true | x :: xs=>x.allB f && tallL f xs
end
theorem Tm.size_eq (s:Tm):s.size=1+tsizeL s.parts:=by cases s;rw [Tm.size];rfl
theorem Tm.deep_eq (s:Tm):s.deep=1+tdeepL s.parts:=by cases s;rw [Tm.deep];rfl
theorem Tm.allB_eq (f:Tm→Bool) (s:Tm):s.allB f=(f s && tallL f s.parts):=by cases s;rw [Tm.allB];rfl
theorem tsizeL_take {l:List Tm} {k:Nat} (hk:k<l.length):tsizeL (l.take (k+1))=tsizeL (l.take k)+(l.getD k default).size:=by
  induction l generalizing k with
  | nil=>simp at hk
  | cons x l ih=>
    cases k with
    | zero=>simp [tsizeL]
    | succ k=>have:=ih (k:=k) (by simpa using hk);simp only [List.take_succ_cons,tsizeL,this,List.getD_cons_succ];omega
theorem tsizeL_le {l:List Tm} {k:Nat}:tsizeL (l.take k)≤tsizeL l:=by
  induction l generalizing k with
  | nil=>simp
  | cons x l ih=>cases k with
    | zero=>simp [tsizeL]
    | succ k=>have:=ih (k:=k);simp only [List.take_succ_cons,tsizeL];omega
theorem tdeepL_take {l:List Tm} {k:Nat} (hk:k<l.length):tdeepL (l.take (k+1))=max (tdeepL (l.take k)) (l.getD k default).deep:=by
  induction l generalizing k with
  | nil=>simp at hk
  | cons x l ih=>
    cases k with
    | zero=>simp [tdeepL]
    | succ k=>have:=ih (k:=k) (by simpa using hk);simp only [List.take_succ_cons,tdeepL,this,List.getD_cons_succ];omega
mutual
theorem Tm.deep_le:∀ s:Tm,s.deep≤s.size
  | .mk _ _ _ _ _ _ _ ps _=>by have:=tdeepL_le ps;simp only [Tm.deep,Tm.size];omega
theorem tdeepL_le:∀ l:List Tm,tdeepL l≤tsizeL l
  | []=>Nat.le_refl _
  | p :: ps=>by have:=Tm.deep_le p;have:=tdeepL_le ps;simp only [tdeepL,tsizeL];omega
end
theorem Tm.part_size {s:Tm} {i:Nat} (h:i<s.parts.length):(s.parts.getD i default).size<s.size:=by
  rw [Tm.size_eq s];have h1:=tsizeL_take h;have h2:=tsizeL_le (l:=s.parts) (k:=i+1);omega
theorem tlength_le:∀ l:List Tm,l.length≤tsizeL l
  | []=>Nat.zero_le _
  | p :: ps=>by
    have:=tlength_le ps;have h:1≤p.size:=by cases p;simp only [Tm.size];omega
    simp only [List.length_cons,tsizeL];omega
theorem Tm.parts_le (s:Tm):s.parts.length≤s.size:=by
  have:=tlength_le s.parts;rw [Tm.size_eq];omega
theorem tallL_all {f:Tm→Bool}:∀ l:List Tm,tallL f l=l.all fun x=>x.allB f
  | []=>by rw [tallL];rfl
  | x :: l=>by rw [tallL,tallL_all l];rfl
theorem Tm.ext {a b:Tm} (h1:a.kind=b.kind) (h2:a.of=b.of) (h3:a.name=b.name) (h4:a.n=b.n) (h5:a.names=b.names) (h6:a.vars=b.vars) (h7:a.shapes=b.shapes) (h8:a.parts=b.parts) (h9:a.place=b.place):a=b:=by
  cases a;cases b;simp only [Tm.kind,Tm.of,Tm.name,Tm.n,Tm.names,Tm.vars,Tm.shapes,Tm.parts,Tm.place] at *;subst h1 h2 h3 h4 h5 h6 h7 h8 h9;rfl
mutual
def Tm.bare:Tm→Tm | .mk k o m n l v ss ps _=>.mk k o m n l v ss (tbareL ps) 0
def tbareL:List Tm→List Tm | []=>[] | x :: xs=>x.bare :: tbareL xs
end
theorem tbareL_map:∀ l:List Tm,tbareL l=l.map Tm.bare
  | []=>by rw [tbareL];rfl
  | x :: l=>by rw [tbareL,tbareL_map l];rfl
theorem Tm.bare_eq (s:Tm):s.bare=.mk s.kind s.of s.name s.n s.names s.vars s.shapes (s.parts.map Tm.bare) 0:=by
  cases s;rw [Tm.bare,tbareL_map];rfl
end Go.Gx
namespace Go.Gx
open Go.ChangeShapes Go.WideShapes Go.Deep Go.RowKit
section
variable {H:Type} {enc:TypeId × Value→H} {P:Program} {w:World} {base:Nat} {spare:Nat→Bool} {held:Bool}
structure TmT (P:Program) (tT tS eN:TypeId) (g0 g1 g2 g3 g4 g5 g6 g7 g8:Field):Prop where
  hS:P.underlying tT=some (.struct #[g0,g1,g2,g3,g4,g5,g6,g7,g8])
  h0:P.underlying g0.type=some (.int .i64)
  h1:P.underlying g1.type=some .string
  h2:P.underlying g2.type=some .string
  h3:P.underlying g3.type=some (.int .i64)
  h4:P.underlying g4.type=some (.slice eN)
  h5:P.underlying g5.type=some (.slice eN)
  h6:P.underlying g6.type=some (.slice tS)
  h7:P.underlying g7.type=some (.slice tT)
  h8:P.underlying g8.type=some (.int .i64)
  hN:P.underlying eN=some .string
  o:g0.offset=0∧g1.offset=1∧g2.offset=2∧g3.offset=3∧g4.offset=4∧g5.offset=5∧g6.offset=6∧g7.offset=7∧g8.offset=8
  c:P.cellsOf g0.type=1∧P.cellsOf g1.type=1∧P.cellsOf g2.type=1∧P.cellsOf g3.type=1∧P.cellsOf g4.type=1∧P.cellsOf g5.type=1∧P.cellsOf g6.type=1∧P.cellsOf g7.type=1∧P.cellsOf g8.type=1
  cT:P.cellsOf tT=9
  cN:P.cellsOf eN=1
  bT:2≤P.bytesOf tT
  bN:2≤P.bytesOf eN
theorem shs_open {tL tS eN:TypeId} {f0 f1 f2 f3 f4:Field} (hL:P.underlying tL=some (.slice tS)) (T:ShT P tS eN f0 f1 f2 f3 f4) {fuel:Nat} {v:Value} {x:DataW H × List MemPlace}
    (h:DataW.trod enc P w base spare held fuel tL [v]=some x) (hw:(x.1.weights P tL).all (· ≤ reachBytes)=true):∃ l,ShsAt (fun _=>False) w v l:=by
  rcases DataW.trod_slice hL (x:=x) h with ⟨h1,rfl⟩ | ⟨a,len,cap,elems,rest,n',hn',h1,rfl,-,hl,hm,hel,hx,-,-⟩
  · simp at h1;exact ⟨[],h1 ▸ ShsAt.nil _ _ _ _ (by simp)⟩
  · simp at h1;subst h1;obtain ⟨hby,hwd⟩:=weights_slice hL hw;have hlen:len≤70368744177664:=by
      have h1:len * P.bytesOf tS≤reachBytes:=Nat.le_trans (Nat.mul_le_mul_right _ (by simp [hel])) hby;have h2:len * 2≤len * P.bytesOf tS:=Nat.mul_le_mul_left _ T.bS;have h3:=reachBytes_lt;omega
    have each:∀ i,i<len→∃ p:List Value × Sh,p.1.length=5∧(∀ j,j<5→w.cell? ((a.add (i * 5)).add j)=p.1[j]?)∧ShC (fun _=>False) w p.1 p.2:=fun i hi=>by
      have h0:=hx i hi;rw [List.getElem?_eq_getElem om_] at h0;obtain ⟨cs',h1,h2⟩:=Option.bind_eq_some_iff.1 h0;rw [T.cS] at h1;obtain ⟨-,h3,h4⟩:=World.cells?_some h1;obtain ⟨s,hs⟩:=sh_open T n' cs' _ h2 (hwd _ (List.mem_map_of_mem (List.getElem_mem _)));exact ⟨(cs',s),h3,h4,hs⟩
    obtain ⟨F,hF⟩:=choose_lt (α := List Value × Sh) each;have e0:((List.range len).map fun i=>(F i).2).length=len:=by simp
    refine ⟨(List.range len).map fun i=>(F i).2,some a,cap,fun i=>(F i).1,by rw [e0],by rw [e0];exact hl,hm,by rw [e0];exact hlen,?_⟩;refine ⟨fun hne=>?_,fun i hi=>(hF i (by rw [e0] at hi;exact hi)).1,fun i hi=>?_⟩
    · have h0:0<len:=by rcases Nat.eq_zero_or_pos len with h | h;exact absurd (by rw [h];rfl) hne;exact h
      obtain ⟨q1,q2,-⟩:=hF 0 h0;have hc0:=q2 0 om_;rw [List.getElem?_eq_getElem om_] at hc0;obtain ⟨b,o,spot⟩:=a;have hspot:spot=none:=by simpa [Addr.add] using World.cell?_spot hc0
      subst hspot;refine ⟨b,o,rfl,fun f=>f,fun i j hi hj=>?_⟩;rw [e0] at hi;have:=(hF i hi).2.1 j hj;rw [add_plain,add_plain] at this;exact this
    · rw [e0] at hi;have:=(hF i hi).2.2;simpa [hi] using this
theorem i64_wf {n:Int} (h:(Lit.int .i64 n).wf=true):-9223372036854775808≤n∧n≤9223372036854775807:=by
  have h:(decide (IntKind.min .i64≤n) && decide (n≤IntKind.max .i64))=true:=h;rw [Bool.and_eq_true] at h;exact ⟨of_decide_eq_true h.1,of_decide_eq_true h.2⟩
theorem name_le {t:TypeId} {s:ByteArray} (h:((DataW.lit (.string s.data.toList):DataW H).weights P t).all (· ≤ reachBytes)=true):s.data.toList.length≤140737488351232:=by
  simp [DataW.weights] at h;have e:reachBytes=140737488351232:=rfl;have h1:s.data.toList.length=s.data.size:=Array.length_toList;have h2:s.data.size=s.size:=rfl;omega
end
end Go.Gx
