/- Names and words: what the program's and the reference's lexers tell of a text. Conditions: none. -/
import Derived.Test.YtcncoaabbedhfaaGreatProg
import Derived.Test.YtcncoaabbedhfaaGreatCaApp
import Derived.Test.YtcncoaabbedhfaaGreatCaSeq
namespace Go.Gx
open Go.Proofs
theorem klex_en102:Go.Proofs.Enters Tryz.prog 102:=Go.Proofs.enters_of Tryz.func102 kr_ rfl
theorem klex_en121:Go.Proofs.Enters Tryz.prog 121:=Go.Proofs.enters_of Tryz.func121 kr_ rfl
theorem klex_en80:Go.Proofs.Enters Tryz.prog 80:=Go.Proofs.enters_of Tryz.func80 kr_ rfl
theorem klex_en81:Go.Proofs.Enters Tryz.prog 81:=Go.Proofs.enters_of Tryz.func81 kr_ rfl
theorem klex_en82:Go.Proofs.Enters Tryz.prog 82:=Go.Proofs.enters_of Tryz.func82 kr_ rfl
theorem klex_en83:Go.Proofs.Enters Tryz.prog 83:=Go.Proofs.enters_of Tryz.func83 kr_ rfl
def isSmall (c:UInt8):Bool:=decide ((97:Int)≤(c.toNat:Int)) && decide ((c.toNat:Int)≤122)
def isGreat (c:UInt8):Bool:=decide ((65:Int)≤(c.toNat:Int)) && decide ((c.toNat:Int)≤90)
def isDigit (c:UInt8):Bool:=decide ((48:Int)≤(c.toNat:Int)) && decide ((c.toNat:Int)≤57)
def isRest (c:UInt8):Bool:=isSmall c || isGreat c || isDigit c || decide ((c.toNat:Int)=95)
theorem smallL (c:UInt8) (w:World):Ret Tryz.prog 82 #[.int .u8 c.toNat] w fun v w'=>v=.bool (isSmall c)∧Bel w w':=by
  refine ret_of_W Tryz.func82 rfl (Nat.le_of_ble_eq_true rfl) (res1 rfl) ?_;refine W.seq (W.region (L.val (x_as (v:=.bool _) rfl) rfl ?_));refine L.nil (thn_n (W.seq (W.region (L.val (x_mv (v:=.int _ _) rfl) rfl ?_))));refine L.val (x_geq rfl rfl) rfl ?_;refine L.val (x_mv (v:=.bool _) rfl) rfl ?_;refine' L.group0 2 6 7 7 5 true rfl ?_ ?_ ?_;rotate_left 1
  ·intro g5;have h5:=of_decide_eq_true g5;refine L.gyes' (dj:=5) (b:=_) rfl rfl g5 ?_;refine L.val (x_mv (v:=.int _ _) rfl) rfl ?_;refine L.gyes' (dj:=5) (b:=_) rfl rfl g5 ?_;refine L.val (x_leq rfl rfl) rfl ?_;refine L.nil (thn_n ⟨rfl,rfl,?_,rfl⟩);repeat (first | exact jeq.refl _ _ _ | refine jeq.upd rfl ?_ | refine jeq.jk rfl rfl ?_)
  ·intro g5;refine L.gno (dj:=5) (b:=_) rfl rfl g5 rfl ?_;refine L.gno (dj:=5) (b:=_) rfl rfl g5 rfl ?_;refine L.nil (thn_n ⟨rfl,rfl,?_⟩);repeat (first | exact jeq.refl _ _ _ | refine jeq.upd rfl ?_ | refine jeq.jk rfl rfl ?_)
  intro J5 j5;refine L.val (x_and rfl j5) rfl ?_;refine L.val (x_as (v:=.bool _) rfl) rfl ?_;refine L.nil (thn_n (W.ret (fin_mk (.inr rfl) ?_)));exact ⟨rfl,Gr.refl _ _⟩
theorem greatL (c:UInt8) (w:World):Ret Tryz.prog 81 #[.int .u8 c.toNat] w fun v w'=>v=.bool (isGreat c)∧Bel w w':=by
  refine ret_of_W Tryz.func81 rfl (Nat.le_of_ble_eq_true rfl) (res1 rfl) ?_;refine W.seq (W.region (L.val (x_as (v:=.bool _) rfl) rfl ?_));refine L.nil (thn_n (W.seq (W.region (L.val (x_mv (v:=.int _ _) rfl) rfl ?_))));refine L.val (x_geq rfl rfl) rfl ?_;refine L.val (x_mv (v:=.bool _) rfl) rfl ?_;refine' L.group0 2 6 7 7 5 true rfl ?_ ?_ ?_;rotate_left 1
  ·intro g5;have h5:=of_decide_eq_true g5;refine L.gyes' (dj:=5) (b:=_) rfl rfl g5 ?_;refine L.val (x_mv (v:=.int _ _) rfl) rfl ?_;refine L.gyes' (dj:=5) (b:=_) rfl rfl g5 ?_;refine L.val (x_leq rfl rfl) rfl ?_;refine L.nil (thn_n ⟨rfl,rfl,?_,rfl⟩);repeat (first | exact jeq.refl _ _ _ | refine jeq.upd rfl ?_ | refine jeq.jk rfl rfl ?_)
  ·intro g5;refine L.gno (dj:=5) (b:=_) rfl rfl g5 rfl ?_;refine L.gno (dj:=5) (b:=_) rfl rfl g5 rfl ?_;refine L.nil (thn_n ⟨rfl,rfl,?_⟩);repeat (first | exact jeq.refl _ _ _ | refine jeq.upd rfl ?_ | refine jeq.jk rfl rfl ?_)
  intro J5 j5;refine L.val (x_and rfl j5) rfl ?_;refine L.val (x_as (v:=.bool _) rfl) rfl ?_;refine L.nil (thn_n (W.ret (fin_mk (.inr rfl) ?_)));exact ⟨rfl,Gr.refl _ _⟩
theorem digitL (c:UInt8) (w:World):Ret Tryz.prog 121 #[.int .u8 c.toNat] w fun v w'=>v=.bool (isDigit c)∧Bel w w':=by
  refine ret_of_W Tryz.func121 rfl (Nat.le_of_ble_eq_true rfl) (res1 rfl) ?_;refine W.seq (W.region (L.val (x_as (v:=.bool _) rfl) rfl ?_));refine L.nil (thn_n (W.seq (W.region (L.val (x_mv (v:=.int _ _) rfl) rfl ?_))));refine L.val (x_geq rfl rfl) rfl ?_;refine L.val (x_mv (v:=.bool _) rfl) rfl ?_;refine' L.group0 2 6 7 7 5 true rfl ?_ ?_ ?_;rotate_left 1
  ·intro g5;have h5:=of_decide_eq_true g5;refine L.gyes' (dj:=5) (b:=_) rfl rfl g5 ?_;refine L.val (x_mv (v:=.int _ _) rfl) rfl ?_;refine L.gyes' (dj:=5) (b:=_) rfl rfl g5 ?_;refine L.val (x_leq rfl rfl) rfl ?_;refine L.nil (thn_n ⟨rfl,rfl,?_,rfl⟩);repeat (first | exact jeq.refl _ _ _ | refine jeq.upd rfl ?_ | refine jeq.jk rfl rfl ?_)
  ·intro g5;refine L.gno (dj:=5) (b:=_) rfl rfl g5 rfl ?_;refine L.gno (dj:=5) (b:=_) rfl rfl g5 rfl ?_;refine L.nil (thn_n ⟨rfl,rfl,?_⟩);repeat (first | exact jeq.refl _ _ _ | refine jeq.upd rfl ?_ | refine jeq.jk rfl rfl ?_)
  intro J5 j5;refine L.val (x_and rfl j5) rfl ?_;refine L.val (x_as (v:=.bool _) rfl) rfl ?_;refine L.nil (thn_n (W.ret (fin_mk (.inr rfl) ?_)));exact ⟨rfl,Gr.refl _ _⟩
def words:List Str:=[[109,111,100,117,108,101],[105,109,112,111,114,116],[112,105,110],[114,97,110,103,101],[116,121,112,101],[111,112,97,113,117,101],[108,101,116],[105,110],[101,120,112,111,114,116],[102,117,110],[105,102],[116,104,101,110],[101,108,115,101],[99,97,115,101],[111,102],[97,115],[110,101,119],[114,97,119],[116,114,117,101],[102,97,108,115,101]]
def wordS (s:Str):Bool:=words.contains s
def headIs (p:UInt8→Bool):Str→Bool
  | []=>false
  | c :: _=>p c
def namedS (p:UInt8→Bool) (s:Str):Bool:=headIs p s && decide (s.length≤24) && s.all isRest
def nameS (s:Str):Bool:=namedS isSmall s && !wordS s
def upperS (s:Str):Bool:=namedS isGreat s
theorem headIs_get {p:UInt8→Bool} {s:Str} (h:0<s.length):p (s.getD 0 0)=headIs p s:=by
  cases s with
  | nil=>simp at h
  | cons c s=>rfl
theorem takeWhile_all {p:UInt8→Bool} (s:Str):decide (((s.takeWhile p).length:Int)=(s.length:Int))=s.all p:=by
  rw [Bool.eq_iff_iff,decide_eq_true_eq,List.all_eq_true];constructor
  · intro h x hx;have:s.takeWhile p=s:=(List.takeWhile_sublist p).eq_of_length om_;rw [← this] at hx;have h2:=List.all_takeWhile (p:=p) (l:=s);rw [List.all_eq_true] at h2;exact h2 x hx
  · intro h;have:s.takeWhile p=s:=by
      induction s with
      | nil=>rfl
      | cons c s ih=>rw [List.takeWhile_cons,if_pos (h c (by simp)),ih (fun x hx=>h x (by simp [hx]))]
    rw [this]
theorem nonempty_of {s:Str} (h:(!(s == []))=true):0<s.length:=by
  cases s with
  | nil=>simp at h
  | cons c s=>simp
theorem namedS_alt (p:UInt8→Bool) (s:Str):(!(s == []) && decide ((s.length:Int)≤24) && p (s.getD 0 0) && decide (((s.takeWhile isRest).length:Int)=(s.length:Int)))=namedS p s:=by
  rw [takeWhile_all];unfold namedS;have e:decide ((s.length:Int)≤24)=decide (s.length≤24):=by rw [Bool.eq_iff_iff];simp;omega
  cases s with
  | nil=>rfl
  | cons c s=>
    rw [e];show (true && _ && p c && _)=(p c && _ && _);cases decide ((c :: s).length≤24) <;> cases p c <;> rfl
theorem restL (c:UInt8) (w:World):Ret Tryz.prog 102 #[.int .u8 c.toNat] w fun v w'=>v=.bool (isRest c)∧Bel w w':=by
  refine ret_of_W Tryz.func102 rfl (Nat.le_of_ble_eq_true rfl) (res1 rfl) ?_;have hB:=Gr.refl (fun _=>False) w;refine W.seq (W.region (L.val (x_as (v:=.bool _) rfl) rfl ?_));refine L.nil (thn_n (W.seq (W.region (L.val (x_mv (v:=.int _ _) rfl) rfl ?_))));refine L.ret (x_call klex_en82 rfl) rfl (smallL _ _) ?_;rintro _ w4 ⟨rfl,hw⟩;have hB:=hB.carry hw;refine L.val (x_mv (v:=.bool _) rfl) rfl ?_;refine' L.group 2 6 7 7 5 false rfl ?_ ?_ ?_;rotate_left 1
  ·intro g5 hg5;have h5:=g5;refine L.gyes' (dj:=5) (b:=_) rfl rfl g5 ?_;refine L.val (x_mv (v:=.int _ _) rfl) rfl ?_;refine L.gyes' (dj:=5) (b:=_) rfl rfl g5 ?_;refine L.ret (x_call klex_en81 rfl) rfl (greatL _ _) ?_;rintro _ w7 ⟨rfl,hw⟩;have hB:=hB.carry hw;have hg5:=hg5.carry hw;refine L.nil (thn_n ⟨rfl,?_,?_,fun _=>rfl⟩)
   ·exact hg5
   ·repeat (first | exact jeq.refl _ _ _ | refine jeq.upd rfl ?_ | refine jeq.jk rfl rfl ?_)
  ·intro g5;refine L.gno (dj:=5) (b:=_) rfl rfl g5 rfl ?_;refine L.gno (dj:=5) (b:=_) rfl rfl g5 rfl ?_;refine L.nil (thn_n ⟨rfl,Gr.refl _ _,?_⟩);refine ⟨?_,fun h=>h.elim⟩;repeat (first | exact jeq.refl _ _ _ | refine jeq.upd rfl ?_ | refine jeq.jk rfl rfl ?_)
  intro J5 w5 hw j5;have hB:=hB.carry hw;refine L.val (x_or rfl j5) rfl ?_;refine L.val (x_mv (v:=.bool _) rfl) rfl ?_;refine' L.group 2 10 11 11 9 false rfl ?_ ?_ ?_;rotate_left 1
  ·intro g9 hg9;have h9:=g9;refine L.gyes' (dj:=9) (b:=_) rfl rfl g9 ?_;refine L.val (x_mv (v:=.int _ _) rfl) rfl ?_;refine L.gyes' (dj:=9) (b:=_) rfl rfl g9 ?_;refine L.ret (x_call klex_en121 rfl) rfl (digitL _ _) ?_;rintro _ w11 ⟨rfl,hw⟩;have hB:=hB.carry hw;have hg9:=hg9.carry hw;refine L.nil (thn_n ⟨rfl,?_,?_,fun _=>rfl⟩)
   ·exact hg9
   ·repeat (first | exact jeq.refl _ _ _ | refine jeq.upd rfl ?_ | refine jeq.jk rfl rfl ?_)
  ·intro g9;refine L.gno (dj:=9) (b:=_) rfl rfl g9 rfl ?_;refine L.gno (dj:=9) (b:=_) rfl rfl g9 rfl ?_;refine L.nil (thn_n ⟨rfl,Gr.refl _ _,?_⟩);refine ⟨?_,fun h=>h.elim⟩;repeat (first | exact jeq.refl _ _ _ | refine jeq.upd rfl ?_ | refine jeq.jk rfl rfl ?_)
  intro J9 w9 hw j9;have hB:=hB.carry hw;refine L.val (x_or rfl j9) rfl ?_;refine L.val (x_mv (v:=.bool _) rfl) rfl ?_;refine' L.group0 2 14 15 15 13 false rfl ?_ ?_ ?_;rotate_left 1
  ·intro g13;have h13:=g13;refine L.gyes' (dj:=13) (b:=_) rfl rfl g13 ?_;refine L.val (x_mv (v:=.int _ _) rfl) rfl ?_;refine L.gyes' (dj:=13) (b:=_) rfl rfl g13 ?_;refine L.val (x_eql rfl rfl) rfl ?_;refine L.nil (thn_n ⟨rfl,rfl,?_,rfl⟩);repeat (first | exact jeq.refl _ _ _ | refine jeq.upd rfl ?_ | refine jeq.jk rfl rfl ?_)
  ·intro g13;refine L.gno (dj:=13) (b:=_) rfl rfl g13 rfl ?_;refine L.gno (dj:=13) (b:=_) rfl rfl g13 rfl ?_;refine L.nil (thn_n ⟨rfl,rfl,?_⟩);repeat (first | exact jeq.refl _ _ _ | refine jeq.upd rfl ?_ | refine jeq.jk rfl rfl ?_)
  intro J13 j13;refine L.val (x_or rfl j13) rfl ?_;refine L.val (x_as (v:=.bool _) rfl) rfl ?_;refine L.nil (thn_n (W.ret (fin_mk (.inr rfl) ?_)));exact ⟨rfl,hB⟩
theorem all_snoc {p:UInt8→Bool} {s:Str} {k:Nat} (hk:k<s.length) (h:(s.take k).all p=true) (hn:p (s.getD k 0)=true):(s.take (k+1)).all p=true:=by
  rw [List.getD_eq_getElem?_getD,List.getElem?_eq_getElem hk,Option.getD_some] at hn;rw [List.take_succ_eq_append_getElem hk,List.all_append,h];simp [hn]
theorem all_miss {p:UInt8→Bool} {s:Str} {k:Nat} (hk:k<s.length) (hn:p (s.getD k 0)=false):s.all p=false:=by
  rw [List.getD_eq_getElem?_getD,List.getElem?_eq_getElem hk,Option.getD_some] at hn;rw [List.all_eq_false];exact ⟨s[k],List.getElem_mem _,by simp [hn]⟩
theorem namedL (f:Nat) (p:UInt8→Bool) (hf:Enters Tryz.prog f) (hp:∀ c w,Ret Tryz.prog f #[.int .u8 (c:UInt8).toNat] w fun v w'=>v=.bool (p c)∧Bel w w') (s:Str) (hs:s.length≤9223372036854775807) (w:World):
    Ret Tryz.prog 80 #[S s,.func (.func f) #[] #[]] w fun v w'=>v=.bool (namedS p s)∧Bel w w':=by
  refine ret_of_W Tryz.func80 rfl (Nat.le_of_ble_eq_true rfl) (res1 rfl) ?_;have hB:=Gr.refl (fun _=>False) w;refine W.seq (W.region (L.val (x_as (v:=.bool _) rfl) rfl ?_));refine L.nil (thn_n (W.seq (W.seq (W.region (L.val (x_mv (v:=S _) rfl) rfl ?_)))));refine L.val (x_eqs rfl rfl) rfl ?_;refine L.val (x_mv (v:=.bool _) rfl) rfl ?_;refine' L.group0 3 9 11 11 8 false rfl ?_ ?_ ?_;rotate_left 1
  ·intro g8;have h8:=seq_f g8;refine L.gyes' (dj:=8) (b:=_) rfl rfl g8 ?_;refine L.val (x_mv (v:=S _) rfl) rfl ?_;refine L.gyes' (dj:=8) (b:=_) rfl rfl g8 ?_;refine L.val (x_len_str Tryz.underlying9 rfl) rfl ?_;refine L.gyes' (dj:=8) (b:=_) rfl rfl g8 ?_;refine L.val (x_gtr rfl rfl) rfl ?_;refine L.nil (thn_n ⟨rfl,rfl,?_,rfl⟩);repeat (first | exact jeq.refl _ _ _ | refine jeq.upd rfl ?_ | refine jeq.jk rfl rfl ?_)
  ·intro g8;(iterate 3 refine L.gno (dj:=8) (b:=_) rfl rfl g8 rfl ?_);refine L.nil (thn_n ⟨rfl,rfl,?_⟩);repeat (first | exact jeq.refl _ _ _ | refine jeq.upd rfl ?_ | refine jeq.jk rfl rfl ?_)
  intro J8 j8;refine L.val (x_or rfl j8) rfl ?_;refine L.val (x_mv (v:=.bool _) rfl) rfl ?_;refine' L.group 5 14 18 18 13 false rfl ?_ ?_ ?_;rotate_left 1
  ·intro g13 hg13;have h13:=g13;have h0:0<s.length:=by
     simp only [Bool.or_eq_false_iff] at h13;exact nonempty_of (by rw [h13.1];rfl)
   refine L.gyes' (dj:=13) (b:=_) rfl rfl g13 ?_;refine L.val (x_mv (v:=_) rfl) rfl ?_;refine L.gyes' (dj:=13) (b:=_) rfl rfl g13 ?_;refine L.val (x_mv (v:=S _) rfl) rfl ?_;refine L.gyes' (dj:=13) (b:=_) rfl rfl g13 ?_;refine L.val (x_ixs (j:=0) Tryz.underlying9 rfl rfl rfl om_) rfl ?_;refine L.gyes' (dj:=13) (b:=_) rfl rfl g13 ?_;refine L.ret (x_callv hf rfl rfl) rfl (hp _ _) ?_;rintro _ w17 ⟨rfl,hw⟩;have hB:=hB.carry hw;have hg13:=hg13.carry hw;refine L.gyes' (dj:=13) (b:=_) rfl rfl g13 ?_;refine L.val (x_not rfl) rfl ?_;refine L.nil (thn_n ⟨rfl,?_,?_,fun _=>rfl⟩)
   ·exact hg13
   ·repeat (first | exact jeq.refl _ _ _ | refine jeq.upd rfl ?_ | refine jeq.jk rfl rfl ?_)
  ·intro g13;(iterate 5 refine L.gno (dj:=13) (b:=_) rfl rfl g13 rfl ?_);refine L.nil (thn_n ⟨rfl,Gr.refl _ _,?_⟩);refine ⟨?_,fun h=>h.elim⟩;repeat (first | exact jeq.refl _ _ _ | refine jeq.upd rfl ?_ | refine jeq.jk rfl rfl ?_)
  intro J13 w13 hw j13;have hB:=hB.carry hw;refine L.val (x_or rfl j13) rfl ?_;refine L.nil (thn_n (W.cond (b:=_) rfl (fun g19=>?_) (fun g19=>?_)))
  ·have h19:=g19;have hN:namedS p s=false:=by
     rw [← namedS_alt];cases hh:(s == [])
     · rw [hh,Bool.false_or] at h19;rw [show decide ((24:Int)<(s.length:Int))=!decide ((s.length:Int)≤24) from by rw [Bool.eq_iff_iff];simp] at h19;cases h1:decide ((s.length:Int)≤24)
       · simp
       · rw [h1] at h19;cases h2:p (s.getD 0 0)
         · simp
         · rw [h2] at h19;cases h19
     · simp
   refine W.seq (W.region (L.val (x_as (v:=.bool _) rfl) rfl ?_));refine L.nil (thn_n (W.ret (thn_r (fin_mk (.inr rfl) ?_))));exact ⟨by rw [hN];rfl,hB⟩
  ·have h19:=g19;have h3:headIs p s=true∧s.length≤24:=by
     simp only [Bool.or_eq_false_iff,decide_eq_false_iff_not,Bool.not_eq_false'] at h19;obtain ⟨⟨a1,a2⟩,a3⟩:=h19;have h0:0<s.length:=nonempty_of (by rw [a1];rfl);exact ⟨by rw [← headIs_get h0];exact a3,by omega⟩
   refine W.skip (thn_n (W.seq (W.seq (W.region (L.val (x_mv (v:=S _) rfl) rfl ?_)))));refine L.val (x_len_str Tryz.underlying9 rfl) rfl ?_;refine L.val (x_mv (v:=.int _ _) rfl) rfl ?_;refine L.nil (thn_n (W.block (W.loop (fun m E w'=>Bel w w'∧∃ k:Nat,k≤s.length∧m=s.length - k∧E 22=.int .i64 (k:Nat)∧E 21=.int .i64 (s.length:Nat)∧E 0=S s∧(s.take k).all isRest=true) (s.length) ?_ ?_)))
   ·exact ⟨hB,0,by omega,rfl,rfl,rfl,rfl,by simp⟩
   ·rintro m E w0 ⟨hB,k,hk,rfl,e22,e21,e0,ha⟩;rw [upd_self e22,upd_self e21,upd_self e0];refine W.seq (W.region (L.val (x_lss rfl rfl) rfl ?_));refine L.nil (thn_n (W.seq (W.cond (b:=_) rfl (fun g23=>?_) (fun g23=>?_))))
    ·have h23:=of_decide_eq_true g23;refine W.skip (thn_n (W.seq (W.block (W.seq (W.region (L.val (x_mv (v:=.int _ _) rfl) rfl ?_))))));refine L.val (x_as (v:=.int _ _) rfl) rfl ?_;refine L.nil (thn_n (W.seq (W.region (L.val (x_mv (v:=S _) rfl) rfl ?_))));refine L.val (x_mv (v:=.int _ _) rfl) rfl ?_;refine L.val (x_ixs  Tryz.underlying9 rfl rfl rfl om_) rfl ?_;refine L.ret (x_call klex_en102 rfl) rfl (restL _ _) ?_;rintro _ w28 ⟨rfl,hw⟩;have hB:=hB.carry hw;refine L.val (x_not rfl) rfl ?_;refine L.nil (thn_n (W.cond (b:=_) rfl (fun g29=>?_) (fun g29=>?_)))
     ·have h29:=(not_t g29);refine W.seq (W.region (L.val (x_as (v:=.bool _) rfl) rfl ?_));refine L.nil (thn_n (W.ret (blk_r (thn_r (thn_r (blk_r (thn_r (fin_mk (.inr rfl) ?_))))))));exact ⟨vb (by unfold namedS;rw [all_miss om_ h29];simp),hB⟩
     ·have h29:=(not_f g29);refine W.skip (blk_n (thn_n (W.region (L.val (x_add rfl rfl (wr64 om_)) rfl ?_))));refine L.val (x_mv (v:=.int _ _) rfl) rfl ?_;refine L.nil (thn_n ⟨rfl,?_⟩);exact ⟨s.length - (k+1),by omega,hB,k+1,by omega,rfl,rfl,rfl,rfl,all_snoc om_ ha h29⟩
    ·have h23:=dlt_f g23;refine W.exit (thn_x (thn_x (blk_hit ?_)));refine thn_n (W.seq (W.region (L.val (x_as (v:=.bool _) rfl) rfl ?_)));refine L.nil (thn_n (W.ret (fin_mk (.inr rfl) ?_)));have:k=s.length:=by omega
     subst this;rw [List.take_length] at ha;exact ⟨vb (by unfold namedS;rw [ha,h3.1];simp [h3.2]),hB⟩
theorem wordL (s:Str) (w:World):Ret Tryz.prog 83 #[S s] w fun v w'=>v=.bool (wordS s)∧Bel w w':=by
  refine ret_of_W Tryz.func83 rfl (Nat.le_of_ble_eq_true rfl) (res1 rfl) ?_;refine W.seq (W.region (L.val (x_as (v:=.bool _) rfl) rfl ?_));refine L.nil (thn_n (W.seq (W.seq (W.region (L.val (x_mv (v:=S _) rfl) rfl ?_)))));refine L.nil (thn_n (W.block (W.seq (W.seq (W.region (L.val (x_eqs rfl rfl) rfl ?_))))));refine L.val (x_as (v:=.bool _) rfl) rfl ?_;refine L.nil (thn_n (W.cond (b:=_) rfl (fun g5=>?_) (fun g5=>?_)))
  ·have h5:=seq_t g5;refine W.skip (thn_n (W.cond (b:=_) rfl (fun _=>?_) (fun h=>nomatch (g5.symm.trans h:true=false))));refine W.seq (W.region (L.val (x_as (v:=.bool _) rfl) rfl ?_));refine L.nil (thn_n (W.ret (blk_r (thn_r (fin_mk (.inr rfl) ?_)))));exact ⟨by subst_vars;rfl,Gr.refl _ _⟩
  ·have h5:=seq_f g5;refine W.seq (W.region (L.val (x_eqs rfl rfl) rfl ?_));refine L.val (x_as (v:=.bool _) rfl) rfl ?_;refine L.nil (thn_n (W.cond (b:=_) rfl (fun g6=>?_) (fun g6=>?_)))
   ·have h6:=seq_t g6;refine W.skip (thn_n (W.cond (b:=_) rfl (fun _=>?_) (fun h=>nomatch (g6.symm.trans h:true=false))));refine W.seq (W.region (L.val (x_as (v:=.bool _) rfl) rfl ?_));refine L.nil (thn_n (W.ret (blk_r (thn_r (fin_mk (.inr rfl) ?_)))));exact ⟨by subst_vars;rfl,Gr.refl _ _⟩
   ·have h6:=seq_f g6;refine W.seq (W.region (L.val (x_eqs rfl rfl) rfl ?_));refine L.val (x_as (v:=.bool _) rfl) rfl ?_;refine L.nil (thn_n (W.cond (b:=_) rfl (fun g7=>?_) (fun g7=>?_)))
    ·have h7:=seq_t g7;refine W.skip (thn_n (W.cond (b:=_) rfl (fun _=>?_) (fun h=>nomatch (g7.symm.trans h:true=false))));refine W.seq (W.region (L.val (x_as (v:=.bool _) rfl) rfl ?_));refine L.nil (thn_n (W.ret (blk_r (thn_r (fin_mk (.inr rfl) ?_)))));exact ⟨by subst_vars;rfl,Gr.refl _ _⟩
    ·have h7:=seq_f g7;refine W.seq (W.region (L.val (x_eqs rfl rfl) rfl ?_));refine L.val (x_as (v:=.bool _) rfl) rfl ?_;refine L.nil (thn_n (W.cond (b:=_) rfl (fun g8=>?_) (fun g8=>?_)))
     ·have h8:=seq_t g8;refine W.skip (thn_n (W.cond (b:=_) rfl (fun _=>?_) (fun h=>nomatch (g8.symm.trans h:true=false))));refine W.seq (W.region (L.val (x_as (v:=.bool _) rfl) rfl ?_));refine L.nil (thn_n (W.ret (blk_r (thn_r (fin_mk (.inr rfl) ?_)))));exact ⟨by subst_vars;rfl,Gr.refl _ _⟩
     ·have h8:=seq_f g8;refine W.seq (W.region (L.val (x_eqs rfl rfl) rfl ?_));refine L.val (x_as (v:=.bool _) rfl) rfl ?_;refine L.nil (thn_n (W.cond (b:=_) rfl (fun g9=>?_) (fun g9=>?_)))
      ·have h9:=seq_t g9;refine W.skip (thn_n (W.cond (b:=_) rfl (fun _=>?_) (fun h=>nomatch (g9.symm.trans h:true=false))));refine W.seq (W.region (L.val (x_as (v:=.bool _) rfl) rfl ?_));refine L.nil (thn_n (W.ret (blk_r (thn_r (fin_mk (.inr rfl) ?_)))));exact ⟨by subst_vars;rfl,Gr.refl _ _⟩
      ·have h9:=seq_f g9;refine W.seq (W.region (L.val (x_eqs rfl rfl) rfl ?_));refine L.val (x_as (v:=.bool _) rfl) rfl ?_;refine L.nil (thn_n (W.cond (b:=_) rfl (fun g10=>?_) (fun g10=>?_)))
       ·have h10:=seq_t g10;refine W.skip (thn_n (W.cond (b:=_) rfl (fun _=>?_) (fun h=>nomatch (g10.symm.trans h:true=false))));refine W.seq (W.region (L.val (x_as (v:=.bool _) rfl) rfl ?_));refine L.nil (thn_n (W.ret (blk_r (thn_r (fin_mk (.inr rfl) ?_)))));exact ⟨by subst_vars;rfl,Gr.refl _ _⟩
       ·have h10:=seq_f g10;refine W.seq (W.region (L.val (x_eqs rfl rfl) rfl ?_));refine L.val (x_as (v:=.bool _) rfl) rfl ?_;refine L.nil (thn_n (W.cond (b:=_) rfl (fun g11=>?_) (fun g11=>?_)))
        ·have h11:=seq_t g11;refine W.skip (thn_n (W.cond (b:=_) rfl (fun _=>?_) (fun h=>nomatch (g11.symm.trans h:true=false))));refine W.seq (W.region (L.val (x_as (v:=.bool _) rfl) rfl ?_));refine L.nil (thn_n (W.ret (blk_r (thn_r (fin_mk (.inr rfl) ?_)))));exact ⟨by subst_vars;rfl,Gr.refl _ _⟩
        ·have h11:=seq_f g11;refine W.seq (W.region (L.val (x_eqs rfl rfl) rfl ?_));refine L.val (x_as (v:=.bool _) rfl) rfl ?_;refine L.nil (thn_n (W.cond (b:=_) rfl (fun g12=>?_) (fun g12=>?_)))
         ·have h12:=seq_t g12;refine W.skip (thn_n (W.cond (b:=_) rfl (fun _=>?_) (fun h=>nomatch (g12.symm.trans h:true=false))));refine W.seq (W.region (L.val (x_as (v:=.bool _) rfl) rfl ?_));refine L.nil (thn_n (W.ret (blk_r (thn_r (fin_mk (.inr rfl) ?_)))));exact ⟨by subst_vars;rfl,Gr.refl _ _⟩
         ·have h12:=seq_f g12;refine W.seq (W.region (L.val (x_eqs rfl rfl) rfl ?_));refine L.val (x_as (v:=.bool _) rfl) rfl ?_;refine L.nil (thn_n (W.cond (b:=_) rfl (fun g13=>?_) (fun g13=>?_)))
          ·have h13:=seq_t g13;refine W.skip (thn_n (W.cond (b:=_) rfl (fun _=>?_) (fun h=>nomatch (g13.symm.trans h:true=false))));refine W.seq (W.region (L.val (x_as (v:=.bool _) rfl) rfl ?_));refine L.nil (thn_n (W.ret (blk_r (thn_r (fin_mk (.inr rfl) ?_)))));exact ⟨by subst_vars;rfl,Gr.refl _ _⟩
          ·have h13:=seq_f g13;refine W.seq (W.region (L.val (x_eqs rfl rfl) rfl ?_));refine L.val (x_as (v:=.bool _) rfl) rfl ?_;refine L.nil (thn_n (W.cond (b:=_) rfl (fun g14=>?_) (fun g14=>?_)))
           ·have h14:=seq_t g14;refine W.skip (thn_n (W.cond (b:=_) rfl (fun _=>?_) (fun h=>nomatch (g14.symm.trans h:true=false))));refine W.seq (W.region (L.val (x_as (v:=.bool _) rfl) rfl ?_));refine L.nil (thn_n (W.ret (blk_r (thn_r (fin_mk (.inr rfl) ?_)))));exact ⟨by subst_vars;rfl,Gr.refl _ _⟩
           ·have h14:=seq_f g14;refine W.seq (W.region (L.val (x_eqs rfl rfl) rfl ?_));refine L.val (x_as (v:=.bool _) rfl) rfl ?_;refine L.nil (thn_n (W.cond (b:=_) rfl (fun g15=>?_) (fun g15=>?_)))
            ·have h15:=seq_t g15;refine W.skip (thn_n (W.cond (b:=_) rfl (fun _=>?_) (fun h=>nomatch (g15.symm.trans h:true=false))));refine W.seq (W.region (L.val (x_as (v:=.bool _) rfl) rfl ?_));refine L.nil (thn_n (W.ret (blk_r (thn_r (fin_mk (.inr rfl) ?_)))));exact ⟨by subst_vars;rfl,Gr.refl _ _⟩
            ·have h15:=seq_f g15;refine W.seq (W.region (L.val (x_eqs rfl rfl) rfl ?_));refine L.val (x_as (v:=.bool _) rfl) rfl ?_;refine L.nil (thn_n (W.cond (b:=_) rfl (fun g16=>?_) (fun g16=>?_)))
             ·have h16:=seq_t g16;refine W.skip (thn_n (W.cond (b:=_) rfl (fun _=>?_) (fun h=>nomatch (g16.symm.trans h:true=false))));refine W.seq (W.region (L.val (x_as (v:=.bool _) rfl) rfl ?_));refine L.nil (thn_n (W.ret (blk_r (thn_r (fin_mk (.inr rfl) ?_)))));exact ⟨by subst_vars;rfl,Gr.refl _ _⟩
             ·have h16:=seq_f g16;refine W.seq (W.region (L.val (x_eqs rfl rfl) rfl ?_));refine L.val (x_as (v:=.bool _) rfl) rfl ?_;refine L.nil (thn_n (W.cond (b:=_) rfl (fun g17=>?_) (fun g17=>?_)))
              ·have h17:=seq_t g17;refine W.skip (thn_n (W.cond (b:=_) rfl (fun _=>?_) (fun h=>nomatch (g17.symm.trans h:true=false))));refine W.seq (W.region (L.val (x_as (v:=.bool _) rfl) rfl ?_));refine L.nil (thn_n (W.ret (blk_r (thn_r (fin_mk (.inr rfl) ?_)))));exact ⟨by subst_vars;rfl,Gr.refl _ _⟩
              ·have h17:=seq_f g17;refine W.seq (W.region (L.val (x_eqs rfl rfl) rfl ?_));refine L.val (x_as (v:=.bool _) rfl) rfl ?_;refine L.nil (thn_n (W.cond (b:=_) rfl (fun g18=>?_) (fun g18=>?_)))
               ·have h18:=seq_t g18;refine W.skip (thn_n (W.cond (b:=_) rfl (fun _=>?_) (fun h=>nomatch (g18.symm.trans h:true=false))));refine W.seq (W.region (L.val (x_as (v:=.bool _) rfl) rfl ?_));refine L.nil (thn_n (W.ret (blk_r (thn_r (fin_mk (.inr rfl) ?_)))));exact ⟨by subst_vars;rfl,Gr.refl _ _⟩
               ·have h18:=seq_f g18;refine W.seq (W.region (L.val (x_eqs rfl rfl) rfl ?_));refine L.val (x_as (v:=.bool _) rfl) rfl ?_;refine L.nil (thn_n (W.cond (b:=_) rfl (fun g19=>?_) (fun g19=>?_)))
                ·have h19:=seq_t g19;refine W.skip (thn_n (W.cond (b:=_) rfl (fun _=>?_) (fun h=>nomatch (g19.symm.trans h:true=false))));refine W.seq (W.region (L.val (x_as (v:=.bool _) rfl) rfl ?_));refine L.nil (thn_n (W.ret (blk_r (thn_r (fin_mk (.inr rfl) ?_)))));exact ⟨by subst_vars;rfl,Gr.refl _ _⟩
                ·have h19:=seq_f g19;refine W.seq (W.region (L.val (x_eqs rfl rfl) rfl ?_));refine L.val (x_as (v:=.bool _) rfl) rfl ?_;refine L.nil (thn_n (W.cond (b:=_) rfl (fun g20=>?_) (fun g20=>?_)))
                 ·have h20:=seq_t g20;refine W.skip (thn_n (W.cond (b:=_) rfl (fun _=>?_) (fun h=>nomatch (g20.symm.trans h:true=false))));refine W.seq (W.region (L.val (x_as (v:=.bool _) rfl) rfl ?_));refine L.nil (thn_n (W.ret (blk_r (thn_r (fin_mk (.inr rfl) ?_)))));exact ⟨by subst_vars;rfl,Gr.refl _ _⟩
                 ·have h20:=seq_f g20;refine W.seq (W.region (L.val (x_eqs rfl rfl) rfl ?_));refine L.val (x_as (v:=.bool _) rfl) rfl ?_;refine L.nil (thn_n (W.cond (b:=_) rfl (fun g21=>?_) (fun g21=>?_)))
                  ·have h21:=seq_t g21;refine W.skip (thn_n (W.cond (b:=_) rfl (fun _=>?_) (fun h=>nomatch (g21.symm.trans h:true=false))));refine W.seq (W.region (L.val (x_as (v:=.bool _) rfl) rfl ?_));refine L.nil (thn_n (W.ret (blk_r (thn_r (fin_mk (.inr rfl) ?_)))));exact ⟨by subst_vars;rfl,Gr.refl _ _⟩
                  ·have h21:=seq_f g21;refine W.seq (W.region (L.val (x_eqs rfl rfl) rfl ?_));refine L.val (x_as (v:=.bool _) rfl) rfl ?_;refine L.nil (thn_n (W.cond (b:=_) rfl (fun g22=>?_) (fun g22=>?_)))
                   ·have h22:=seq_t g22;refine W.skip (thn_n (W.cond (b:=_) rfl (fun _=>?_) (fun h=>nomatch (g22.symm.trans h:true=false))));refine W.seq (W.region (L.val (x_as (v:=.bool _) rfl) rfl ?_));refine L.nil (thn_n (W.ret (blk_r (thn_r (fin_mk (.inr rfl) ?_)))));exact ⟨by subst_vars;rfl,Gr.refl _ _⟩
                   ·have h22:=seq_f g22;refine W.seq (W.region (L.val (x_eqs rfl rfl) rfl ?_));refine L.val (x_as (v:=.bool _) rfl) rfl ?_;refine L.nil (thn_n (W.cond (b:=_) rfl (fun g23=>?_) (fun g23=>?_)))
                    ·have h23:=seq_t g23;refine W.skip (thn_n (W.cond (b:=_) rfl (fun _=>?_) (fun h=>nomatch (g23.symm.trans h:true=false))));refine W.seq (W.region (L.val (x_as (v:=.bool _) rfl) rfl ?_));refine L.nil (thn_n (W.ret (blk_r (thn_r (fin_mk (.inr rfl) ?_)))));exact ⟨by subst_vars;rfl,Gr.refl _ _⟩
                    ·have h23:=seq_f g23;refine W.region (L.val (x_eqs rfl rfl) rfl ?_);refine L.val (x_as (v:=.bool _) rfl) rfl ?_;refine L.nil (thn_n (W.cond (b:=_) rfl (fun g24=>?_) (fun g24=>?_)))
                     ·have h24:=seq_t g24;refine W.seq (W.region (L.val (x_as (v:=.bool _) rfl) rfl ?_));refine L.nil (thn_n (W.ret (blk_r (thn_r (fin_mk (.inr rfl) ?_)))));exact ⟨by subst_vars;rfl,Gr.refl _ _⟩
                     ·have h24:=seq_f g24;refine W.skip (blk_n (thn_n (W.seq (W.region (L.val (x_as (v:=.bool _) rfl) rfl ?_)))));refine L.nil (thn_n (W.ret (fin_mk (.inr rfl) ?_)));refine ⟨?_,Gr.refl _ _⟩;have:wordS s=false:=by simp only [wordS,words,List.contains_cons,List.contains_nil,Bool.or_false,Bool.or_eq_false_iff,beq_eq_false_iff_ne];exact ⟨h5,h6,h7,h8,h9,h10,h11,h12,h13,h14,h15,h16,h17,h18,h19,h20,h21,h22,h23,h24⟩
                      rw [this];rfl
theorem nameL (s:Str) (hs:s.length≤9223372036854775807) (w:World):Ret Tryz.prog 55 #[S s] w fun v w'=>v=.bool (nameS s)∧Bel w w':=by
  refine ret_of_W Tryz.func55 rfl (Nat.le_of_ble_eq_true rfl) (res1 rfl) ?_;have hB:=Gr.refl (fun _=>False) w;refine W.seq (W.region (L.val (x_as (v:=.bool _) rfl) rfl ?_));refine L.nil (thn_n (W.seq (W.region (L.val (x_mv (v:=S _) rfl) rfl ?_))));refine L.ret (x_call klex_en80 rfl) rfl (namedL 82 isSmall klex_en82 smallL s hs _) ?_;rintro _ w4 ⟨rfl,hw⟩;have hB:=hB.carry hw;refine L.val (x_mv (v:=.bool _) rfl) rfl ?_;refine' L.group 3 6 8 8 5 true rfl ?_ ?_ ?_;rotate_left 1
  ·intro g5 hg5;have h5:=g5;refine L.gyes' (dj:=5) (b:=_) rfl rfl g5 ?_;refine L.val (x_mv (v:=S _) rfl) rfl ?_;refine L.gyes' (dj:=5) (b:=_) rfl rfl g5 ?_;refine L.ret (x_call klex_en83 rfl) rfl (wordL s _) ?_;rintro _ w7 ⟨rfl,hw⟩;have hB:=hB.carry hw;have hg5:=hg5.carry hw;refine L.gyes' (dj:=5) (b:=_) rfl rfl g5 ?_;refine L.val (x_not rfl) rfl ?_;refine L.nil (thn_n ⟨rfl,?_,?_,fun _=>rfl⟩)
   ·exact hg5
   ·repeat (first | exact jeq.refl _ _ _ | refine jeq.upd rfl ?_ | refine jeq.jk rfl rfl ?_)
  ·intro g5;(iterate 3 refine L.gno (dj:=5) (b:=_) rfl rfl g5 rfl ?_);refine L.nil (thn_n ⟨rfl,Gr.refl _ _,?_⟩);refine ⟨?_,fun h=>h.elim⟩;repeat (first | exact jeq.refl _ _ _ | refine jeq.upd rfl ?_ | refine jeq.jk rfl rfl ?_)
  intro J5 w5 hw j5;have hB:=hB.carry hw;refine L.val (x_and rfl j5) rfl ?_;refine L.val (x_as (v:=.bool _) rfl) rfl ?_;refine L.nil (thn_n (W.ret (fin_mk (.inr rfl) ?_)));exact ⟨rfl,hB⟩
theorem upperL (s:Str) (hs:s.length≤9223372036854775807) (w:World):Ret Tryz.prog 53 #[S s] w fun v w'=>v=.bool (upperS s)∧Bel w w':=by
  refine ret_of_W Tryz.func53 rfl (Nat.le_of_ble_eq_true rfl) (res1 rfl) ?_;have hB:=Gr.refl (fun _=>False) w;refine W.seq (W.region (L.val (x_as (v:=.bool _) rfl) rfl ?_));refine L.nil (thn_n (W.seq (W.region (L.val (x_mv (v:=S _) rfl) rfl ?_))));refine L.ret (x_call klex_en80 rfl) rfl (namedL 81 isGreat klex_en81 greatL s hs _) ?_;rintro _ w4 ⟨rfl,hw⟩;have hB:=hB.carry hw;refine L.val (x_as (v:=.bool _) rfl) rfl ?_;refine L.nil (thn_n (W.ret (fin_mk (.inr rfl) ?_)));exact ⟨rfl,hB⟩
end Go.Gx
namespace Go.Gx
open Go.Proofs
theorem ksh_ag41:aggT Tryz.prog 41 5=true:=by kernel_rfl
theorem ksh_en23:Go.Proofs.Enters Tryz.prog 23:=Go.Proofs.enters_of Tryz.func23 kr_ rfl
theorem ksh_fo41_4:fieldOff Tryz.prog 41 4=some 4:=by kernel_rfl
theorem ksh_oc39:oneCellT Tryz.prog 39=true:=by kernel_rfl
theorem ksh_sz41:(Tryz.prog.info? 41).map (·.size)=some 5:=by kernel_rfl
mutual
def Sh.size:Sh→Nat | .mk _ _ _ _ ps=>1+sizeL ps
def sizeL:List Sh→Nat | []=>0 | p :: ps=>p.size+sizeL ps
end
mutual
def Sh.deep:Sh→Nat | .mk _ _ _ _ ps=>1+deepL ps
def deepL:List Sh→Nat | []=>0 | p :: ps=>max p.deep (deepL ps)
end
theorem sizeL_take {l:List Sh} {k:Nat} (hk:k<l.length):sizeL (l.take (k+1))=sizeL (l.take k)+(l.getD k default).size:=by
  induction l generalizing k with
  | nil=>simp at hk
  | cons x l ih=>
    cases k with
    | zero=>simp [sizeL]
    | succ k=>have:=ih (k:=k) (by simpa using hk);simp only [List.take_succ_cons,sizeL,this,List.getD_cons_succ];omega
theorem sizeL_le {l:List Sh} {k:Nat}:sizeL (l.take k)≤sizeL l:=by
  induction l generalizing k with
  | nil=>simp
  | cons x l ih=>cases k with
    | zero=>simp [sizeL]
    | succ k=>have:=ih (k:=k);simp only [List.take_succ_cons,sizeL];omega
theorem deepL_take {l:List Sh} {k:Nat} (hk:k<l.length):deepL (l.take (k+1))=max (deepL (l.take k)) (l.getD k default).deep:=by
  induction l generalizing k with
  | nil=>simp at hk
  | cons x l ih=>
    cases k with
    | zero=>simp [deepL]
    | succ k=>have:=ih (k:=k) (by simpa using hk);simp only [List.take_succ_cons,deepL,this,List.getD_cons_succ];omega
theorem Sh.size_eq (s:Sh):s.size=1+sizeL s.parts:=by cases s;rfl
theorem Sh.deep_eq (s:Sh):s.deep=1+deepL s.parts:=by cases s;rfl
theorem size07:∀ (N:Nat) (s:Sh),SizeOf.sizeOf s<N→∀ (A:Nat→Prop) (cs:List Value) (m:Int) (w:World),0≤m→m≤1000000→ShC A w cs s→
    Ret Tryz.prog 23 #[.agg cs.toArray,.int .i64 m] w fun v w'=>v=.int .i64 (min (s.size:Int) (m+1))∧Bel w w':=by
  intro N;induction N with
  | zero=>intro s h;omega
  | succ N ih=>
    intro s hN A cs m w hm0 hm1 hs;obtain ⟨vn,vp,rfl,hn,hp,hof,hnm⟩:=hs.inv;obtain ⟨p,cap,row,rfl,p1,p2,p3,hr⟩:=hp;refine ret_of_W Tryz.func23 rfl (Nat.le_of_ble_eq_true rfl) (res1 rfl) ?_;have hB:=Gr.refl (fun _=>False) w;refine W.seq (W.region (L.box (cs:=_) rfl rfl (fun w2 bx2 hw hz2=>?_)));have hB:=hB.carry hw;have hr:=hr.carry hw;refine L.val (x_as (v:=.int _ _) rfl) rfl ?_;refine L.nil (thn_n (W.seq (W.region (L.val (x_as (v:=.int _ _) rfl) rfl ?_))));refine L.nil (thn_n (W.seq (W.seq (W.region (L.val (x_as (v:=.int _ _) rfl) rfl ?_)))));refine L.nil (thn_n (W.block (W.loop (fun m' E w'=>Bel w w'∧ShRow A w' p row s.parts∧Box w' w.heap.size 41 [.int .i64 s.kind,S s.of,S s.name,vn,.slice p s.parts.length cap]∧∃ k:Nat,k≤s.parts.length∧m'=s.parts.length - k∧E 6=.int .i64 (k:Nat)∧E 5=.int .i64 (min (1+(sizeL (s.parts.take k):Int)) (m+1))∧E 1=.int .i64 m∧E 2=.pointer (some ⟨w.heap.size,0,none⟩)) (s.parts.length) ?_ ?_)))
    ·refine ⟨hB,hr,bx2,0,by omega,rfl,rfl,?_,rfl,rfl⟩;show Value.int .i64 1=_;rw [List.take_zero];exact vi (by simp only [sizeL];omega)
    ·rintro m' E w0 ⟨hB,hr,bx2,k,hk,rfl,e6,e5,e1,e2⟩;rw [upd_self e6,upd_self e5,upd_self e1,upd_self e2];refine W.seq (W.seq (W.region (L.val (x_mv (v:=.int _ _) rfl) rfl ?_)));refine L.val (x_fa ksh_fo41_4 rfl) rfl ?_;refine L.val (x_ld (v:=.slice _ _ _) ksh_oc39 rfl (bx2.cell0 rfl)) rfl ?_;refine L.val (x_len_slice Tryz.underlying39 rfl) rfl ?_;refine L.val (x_lss rfl rfl) rfl ?_;refine L.val (x_mv (v:=.bool _) rfl) rfl ?_;refine' L.group0 3 13 15 15 12 true rfl ?_ ?_ ?_;rotate_left 1
     ·intro g12;have h12:=of_decide_eq_true g12;refine L.gyes' (dj:=12) (b:=_) rfl rfl g12 ?_;refine L.val (x_mv (v:=.int _ _) rfl) rfl ?_;refine L.gyes' (dj:=12) (b:=_) rfl rfl g12 ?_;refine L.val (x_mv (v:=.int _ _) rfl) rfl ?_;refine L.gyes' (dj:=12) (b:=_) rfl rfl g12 ?_;refine L.val (x_leq rfl rfl) rfl ?_;refine L.nil (thn_n ⟨rfl,rfl,?_,rfl⟩);repeat (first | exact jeq.refl _ _ _ | refine jeq.upd rfl ?_ | refine jeq.jk rfl rfl ?_)
     ·intro g12;(iterate 3 refine L.gno (dj:=12) (b:=_) rfl rfl g12 rfl ?_);refine L.nil (thn_n ⟨rfl,rfl,?_⟩);repeat (first | exact jeq.refl _ _ _ | refine jeq.upd rfl ?_ | refine jeq.jk rfl rfl ?_)
     intro J12 j12;refine L.val (x_and rfl j12) rfl ?_;refine L.nil (thn_n (W.cond (b:=_) rfl (fun g16=>?_) (fun g16=>?_)))
     ·have h16:=g16;simp only [Bool.and_eq_true,decide_eq_true_eq] at h16;have hlt:k<s.parts.length:=by omega
      obtain ⟨b,o,rfl,hc⟩:=hr.elem hlt;have hst:=sizeL_take hlt;refine W.skip (thn_n (W.seq (W.block (W.region (L.val (x_mv (v:=.int _ _) rfl) rfl ?_)))));refine L.val (x_fa ksh_fo41_4 rfl) rfl ?_;refine L.val (x_ld (v:=.slice _ _ _) ksh_oc39 rfl (bx2.cell0 rfl)) rfl ?_;refine L.val (x_mv (v:=.int _ _) rfl) rfl ?_;refine L.val (x_ia  Tryz.underlying39 ksh_sz41 rfl rfl rfl om_) rfl ?_;refine L.val (x_ldn (vs:=row k) ksh_ag41 rfl (hr.five k hlt) hc) rfl ?_;refine L.val (x_mv (v:=.int _ _) rfl) rfl ?_;refine L.val (x_mv (v:=.int _ _) rfl) rfl ?_;refine L.val (x_sub rfl rfl (wr64 om_)) rfl ?_;refine L.ret (x_call ksh_en23 rfl) rfl (ih _ (by have:=Sh.part_lt hlt;omega) A _ _ _ om_ om_ (hr.each k hlt)) ?_;rintro _ w28 ⟨rfl,hw⟩;have hB:=hB.carry hw;have hr:=hr.carry hw;have bx2:=bx2.carry hw;refine L.val (x_add rfl rfl (wr64 om_)) rfl ?_;refine L.val (x_as (v:=.int _ _) rfl) rfl ?_;refine L.nil (blk_n (thn_n (W.region (L.val (x_mv (v:=.int _ _) rfl) rfl ?_))));refine L.val (x_add rfl rfl (wr64 om_)) rfl ?_;refine L.val (x_as (v:=.int _ _) rfl) rfl ?_;refine L.nil (thn_n ⟨rfl,?_⟩);refine ⟨s.parts.length - (k+1),by omega,hB,hr,bx2,k+1,by omega,rfl,rfl,?_,rfl,rfl⟩;exact vi (by rw [hst];omega)
     ·have h16:=g16;refine W.exit (thn_x (thn_x (blk_hit ?_)));refine thn_n (W.seq (W.region (L.val (x_mv (v:=.int _ _) rfl) rfl ?_)));refine L.val (x_as (v:=.int _ _) rfl) rfl ?_;refine L.nil (thn_n (W.ret (fin_mk (.inr rfl) ?_)));refine ⟨vi ?_,hB⟩;rw [Sh.size_eq];have hle:=sizeL_le (l:=s.parts) (k:=k);rcases Nat.lt_or_ge k s.parts.length with hlt | hge
      · have:decide ((k:Int)<(s.parts.length:Int))=true:=by simp;omega
        rw [this,Bool.true_and] at h16;have:=of_decide_eq_false h16;omega
      · rw [List.take_of_length_le hge];omega
mutual
theorem Sh.deep_le:∀ s:Sh,s.deep≤s.size
  | .mk _ _ _ _ ps=>by have:=deepL_le ps;simp only [Sh.deep,Sh.size];omega
theorem deepL_le:∀ l:List Sh,deepL l≤sizeL l
  | []=>Nat.le_refl _
  | p :: ps=>by have:=Sh.deep_le p;have:=deepL_le ps;simp only [deepL,sizeL];omega
end
theorem Sh.part_size {s:Sh} {i:Nat} (h:i<s.parts.length):(s.parts.getD i default).size<s.size:=by
  rw [Sh.size_eq s];have h1:=sizeL_take h;have h2:=sizeL_le (l:=s.parts) (k:=i+1);omega
def nodup:List Str→Bool
  | []=>true
  | x :: l=>!l.contains x && nodup l
theorem take_snoc {α : Type} [Inhabited α] {l:List α} {k:Nat} {d:α} (hk:k<l.length):l.take (k+1)=l.take k++[l.getD k d]:=by
  rw [List.take_succ_eq_append_getElem hk,List.getD_eq_getElem?_getD,List.getElem?_eq_getElem hk,Option.getD_some]
def namesOk (l:List Str) (parts:Int):Bool:=l.all nameS && nodup l && decide ((l.length:Int)=parts)
def plainS (s:Str):Bool:=s == [73,110,116] || s == [66,111,111,108] || s == [84,101,120,116] || s == [65,110,121]
def fitsS (s:Sh):Bool:=
  if (decide (s.kind=9) || decide (s.kind=10))=true then upperS s.name && (nameS s.of || (s.of == [] && decide (s.kind=9) && !plainS s.name)) && decide ((s.names.length:Int)=0) && decide ((s.parts.length:Int)=0)
  else if (!(s.of == []) || !(s.name == []))=true then false
  else if (decide (s.kind=6) || decide (s.kind=7))=true then namesOk s.names s.parts.length
  else if (0:Int)<s.names.length then false
  else if s.kind=8 then decide ((1:Int)≤s.parts.length)
  else if s.kind=5 then decide ((s.parts.length:Int)=1)
  else decide (1≤s.kind) && decide (s.kind≤4) && decide ((s.parts.length:Int)=0)
mutual
def Sh.allB (p:Sh→Bool):Sh→Bool | .mk k o n l ps=>p (.mk k o n l ps) && allL p ps
def allL (p:Sh→Bool):List Sh→Bool | []=>true | x :: xs=>x.allB p && allL p xs
end
theorem Sh.allB_eq (p:Sh→Bool) (s:Sh):s.allB p=(p s && allL p s.parts):=by cases s;rfl
theorem allL_take {p:Sh→Bool} {l:List Sh} {k:Nat} (hk:k<l.length):allL p (l.take (k+1))=(allL p (l.take k) && (l.getD k default).allB p):=by
  induction l generalizing k with
  | nil=>simp at hk
  | cons x l ih=>
    cases k with
    | zero=>simp [allL]
    | succ k=>have:=ih (k:=k) (by simpa using hk);simp only [List.take_succ_cons,allL,this,List.getD_cons_succ,Bool.and_assoc]
theorem allL_miss {p:Sh→Bool} {l:List Sh} {k:Nat} (hk:k<l.length) (h:(l.getD k default).allB p=false):allL p l=false:=by
  induction l generalizing k with
  | nil=>simp at hk
  | cons x l ih=>
    cases k with
    | zero=>simp only [allL];rw [show x.allB p=false from h];rfl
    | succ k=>simp only [allL];rw [ih (k:=k) (by simpa using hk) h];simp
def notName (s:Sh):Bool:=!decide (s.kind=9)
def checkS (s:Sh):Int:=if 400<s.size then 3 else if 40<s.deep then 91 else if s.allB fitsS=false then 70 else 0
def closedS (s:Sh):Bool:=decide (checkS s=0) && s.allB notName
end Go.Gx
namespace Go.Gx
structure It where
  kind:Int
  name:Str
  sh:Sh
instance:Inhabited It:=⟨⟨0,[],default⟩⟩
end Go.Gx
