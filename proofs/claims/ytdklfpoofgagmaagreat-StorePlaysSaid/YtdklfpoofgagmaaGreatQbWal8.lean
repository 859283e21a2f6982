/- A log opened. Conditions: none. -/
import Derived.Test.YtdklfpoofgagmaaGreatQbDsk4
namespace Go.Gx
open Go.Proofs
theorem kwal8_ag132:aggT Tryz.prog 132 4=true:=by kernel_rfl
theorem kwal8_en78:Go.Proofs.Enters Tryz.prog 78:=Go.Proofs.enters_of Tryz.func78 kr_ rfl
theorem kwal8_en83:Go.Proofs.Enters Tryz.prog 83:=Go.Proofs.enters_of Tryz.func83 kr_ rfl
theorem kwal8_en84:Go.Proofs.Enters Tryz.prog 84:=Go.Proofs.enters_of Tryz.func84 kr_ rfl
theorem kwal8_en85:Go.Proofs.Enters Tryz.prog 85:=Go.Proofs.enters_of Tryz.func85 kr_ rfl
theorem kwal8_en86:Go.Proofs.Enters Tryz.prog 86:=Go.Proofs.enters_of Tryz.func86 kr_ rfl
theorem kwal8_en87:Go.Proofs.Enters Tryz.prog 87:=Go.Proofs.enters_of Tryz.func87 kr_ rfl
theorem kwal8_en88:Go.Proofs.Enters Tryz.prog 88:=Go.Proofs.enters_of Tryz.func88 kr_ rfl
theorem kwal8_en89:Go.Proofs.Enters Tryz.prog 89:=Go.Proofs.enters_of Tryz.func89 kr_ rfl
theorem kwal8_en90:Go.Proofs.Enters Tryz.prog 90:=Go.Proofs.enters_of Tryz.func90 kr_ rfl
theorem kwal8_en91:Go.Proofs.Enters Tryz.prog 91:=Go.Proofs.enters_of Tryz.func91 kr_ rfl
theorem kwal8_fo132_0:fieldOff Tryz.prog 132 0=some 0:=by kernel_rfl
theorem kwal8_fo132_1:fieldOff Tryz.prog 132 1=some 1:=by kernel_rfl
theorem kwal8_fo132_2:fieldOff Tryz.prog 132 2=some 2:=by kernel_rfl
theorem kwal8_fo132_3:fieldOff Tryz.prog 132 3=some 3:=by kernel_rfl
theorem kwal8_fo134_0:fieldOff Tryz.prog 134 0=some 0:=by kernel_rfl
theorem kwal8_mixed:Tryz.prog.follows .mixedOrders=true:=by kernel_rfl
theorem kwal8_oc3:oneCellT Tryz.prog 3=true:=by kernel_rfl
theorem kwal8_oc80:oneCellT Tryz.prog 80=true:=by kernel_rfl
theorem kwal8_si134:structInfo Tryz.prog 134=some ([(0,4),(4,1),(5,1)],[Value.int .u64 0,Value.int .i64 0,Value.int .i64 0,Value.int .i64 0,Value.pointer none,Value.bool false]):=by kernel_rfl
theorem kwal8_zr132:(Tryz.prog.info? 132).bind (·.zero)=some (Value.agg [Value.int .u64 0,Value.int .i64 0,Value.int .i64 0,Value.int .i64 0].toArray):=by kernel_rfl
theorem kwal8_zr146:(Tryz.prog.info? 146).bind (·.zero)=some (Value.agg [Value.pointer none,Value.slice none 0 0].toArray):=by kernel_rfl
def pt0:Pt:=⟨0,0,0,0⟩
def stepP (room:Nat) (s:Str) (x:Pt × Bool):Pt × Bool:=if rdOk s room && (!x.2 || decide (x.1.ep<(rdPt s).ep)) then (rdPt s,true) else x
def hdP (D:Dk):Nat→Pt × Bool
  | 0=>(pt0,false)
  | i+1=>stepP (roomN D.pl.length) (rdD D i) (hdP D i)
def frS (D:Dk) (i:Nat):Bool:=decide (0<i) && (rdD D 0 == zeros 64)
def areaS (D:Dk) (p:Pt) (k:Nat):Str:=((List.range k).map fun i=>rdD D (stN D.pl.length p.half+i)).flatten
def allA (D:Dk) (p:Pt):Str:=(areaS D p ((p.tail+63) / 64)).take p.tail
def openA (D:Dk):Int × Pt × List Str:=
  if (hdP D 2).2 || frS D 2 then (if (scanS (allA D (hdP D 2).1)).2=(hdP D 2).1.tail∧(scanS (allA D (hdP D 2).1)).1.length=(hdP D 2).1.cnt then (0,(hdP D 2).1,(scanS (allA D (hdP D 2).1)).1) else (200,pt0,[]))
  else (211,pt0,[])
theorem hdP_ok (D:Dk) (i:Nat):PtOk (hdP D i).1∧(hdP D i).1.half≤1∧(hdP D i).1.tail≤roomN D.pl.length:=by
  induction i with
  | zero=>exact ⟨(⟨by decide,by decide,by decide,by decide⟩:PtOk pt0),Nat.zero_le _,Nat.zero_le _⟩
  | succ i ih=>
    simp only [hdP,stepP];split
    · rename_i h
      simp only [Bool.and_eq_true,rdOk,decide_eq_true_eq] at h;exact ⟨rdPt_ok _,h.1.1.2,h.1.2⟩
    · exact ih
theorem areaS_len {D:Dk} (h:DkOk D) {p:Pt} (k:Nat) (hk:∀ i,i<k→stN D.pl.length p.half+i<D.pl.length):(areaS D p k).length=64 * k:=by
  induction k with
  | zero=>rfl
  | succ k ih=>
    have:=ih (fun i hi=>hk i om_);unfold areaS at this ⊢;rw [List.range_succ,List.map_append,List.flatten_append,List.length_append,this];simp [rdD_len h (hk k om_)];omega
theorem areaS_succ (D:Dk) (p:Pt) (k:Nat):areaS D p k++rdD D (stN D.pl.length p.half+k)=areaS D p (k+1):=by
  unfold areaS;rw [List.range_succ,List.map_append,List.flatten_append];simp
theorem openA_none {D:Dk} (h:(!(hdP D 2).2 && !frS D 2)=true):openA D=(211,pt0,[]):=by
  simp only [Bool.and_eq_true,Bool.not_eq_true'] at h;unfold openA;rw [h.1,h.2];rfl
theorem openA_some {D:Dk} (h:(!(hdP D 2).2 && !frS D 2)=false):openA D=if (scanS (allA D (hdP D 2).1)).2=(hdP D 2).1.tail∧(scanS (allA D (hdP D 2).1)).1.length=(hdP D 2).1.cnt then (0,(hdP D 2).1,(scanS (allA D (hdP D 2).1)).1) else (200,pt0,[]):=by
  unfold openA;rw [if_pos (by cases h1:(hdP D 2).2 <;> cases h2:frS D 2 <;> simp_all)]
theorem open_own (n0 b:Nat) (D:Dk) (w:World) (h:DiskAt n0 w b D) (hd:D.dead=false) (h6:6≤D.pl.length):
    Ret Tryz.prog 61 #[.pointer (some ⟨b,0,none⟩)] w fun v w'=>Bel w w'∧((openA D).1≠0∧v=.tuple #[.pointer none,.slice none 0 0,.int .i64 (openA D).1]∨
      (openA D).1=0∧∃ bl u,v=.tuple #[.pointer (some ⟨bl,0,none⟩),u,.int .i64 0]∧LogAt w.heap.size w' bl b (openA D).2.1∧StrsAt (fun k=>k<w.heap.size) w' u (openA D).2.2∧∃ base,Own w' base 9 1 u (openA D).2.2.length ((openA D).2.2.map S)):=by
  have hok:=h.2.1;have hsm:=hok.small;have hrm:=roomN_le hsm;refine ret_of_W Tryz.func61 rfl (Nat.le_of_ble_eq_true rfl) (res3 rfl) ?_;have hB:=Gr.refl (fun _=>False) w;refine W.seq (W.region (L.val (x_as (v:=.pointer _) rfl) rfl ?_));refine L.val (x_as (v:=.slice _ _ _) rfl) rfl ?_;refine L.val (x_as (v:=.int _ _) rfl) rfl ?_;refine L.nil (thn_n (W.seq (W.block (W.seq (W.region (L.val (x_mv (v:=.pointer _) rfl) rfl ?_))))));refine L.ret (x_call kwal8_en83 rfl) rfl (sectors_d n0 b D _ h) ?_;rintro _ w22 ⟨rfl,hq22⟩;rw [hq22];refine L.val (x_eql rfl rfl) rfl ?_;refine L.val (x_as (v:=.bool _) rfl) rfl ?_;refine L.nil (thn_n (W.cond (b:=_) rfl (fun g23=>?_) (fun g23=>?_)))
  ·have h23:=of_decide_eq_true g23;omega
  ·have h23:=of_decide_eq_false g23;refine W.seq (W.region (L.val (x_mv (v:=.pointer _) rfl) rfl ?_));refine L.ret (x_call kwal8_en83 rfl) rfl (sectors_d n0 b D _ h) ?_;rintro _ w26 ⟨rfl,hq26⟩;rw [hq26];refine L.val (x_lss rfl rfl) rfl ?_;refine L.val (x_as (v:=.bool _) rfl) rfl ?_;refine L.nil (thn_n (W.cond (b:=_) rfl (fun g27=>?_) (fun g27=>?_)))
   ·have h27:=of_decide_eq_true g27;omega
   ·have h27:=dlt_f g27;refine W.seq (W.region (L.val (x_mv (v:=.pointer _) rfl) rfl ?_));refine L.ret (x_call kwal8_en84 rfl) rfl (dead_d n0 b D _ h) ?_;rintro _ w30 ⟨rfl,hq30⟩;rw [hq30];refine L.val (x_as (v:=.bool _) rfl) rfl ?_;refine L.nil (thn_n (W.cond (b:=_) rfl (fun g30=>?_) (fun g30=>?_)))
    ·have h30:=g30;rw [hd] at g30;cases g30
    ·have h30:=g30;refine W.skip (blk_n (thn_n (W.seq (W.region (L.val (x_mv (v:=.pointer _) rfl) rfl ?_)))));refine L.val (x_build (cells:=[.int _ _,.int _ _,.int _ _,.int _ _,.pointer _,.bool _]) kwal8_si134 rfl rfl) rfl ?_;refine L.box (cs:=logV pt0 b false) rfl rfl (fun w33 bx33 hw hz33=>?_);have hB:=hB.carry hw;refine L.val (x_as (v:=.pointer _) rfl) rfl ?_;refine L.nil (thn_n (W.seq (W.region (L.val (x_as (v:=.bool _) rfl) rfl ?_))));refine L.nil (thn_n (W.seq (W.region (L.val (x_as (v:=.bool _) rfl) rfl ?_))));refine L.nil (thn_n (W.seq (W.seq (W.region (L.val (x_mv (v:=.int _ _) rfl) rfl ?_)))));refine L.nil (thn_n (W.block (W.loop (fun m' E w'=>∃ (i:Nat),m'=2 - i∧E 0=.pointer (some ⟨b,0,none⟩)∧E 5=.pointer (some ⟨w.heap.size,0,none⟩)∧E 6=.bool (hdP D i).2∧E 7=.bool (frS D i)∧E 34=.int .i64 (i:Nat)∧(i≤2)∧(Bel w w')∧(Box w' w.heap.size 134 (logV (hdP D i).1 b false))) (2) ?_ ?_)))
     ·exact ⟨0,by omega,by first | rfl | exact vi om_ | exact vs (by first | assumption | (rw [hst];done) | (rw [hst];simp only [List.append_assoc])),by first | rfl | exact vi om_ | exact vs (by first | assumption | (rw [hst];done) | (rw [hst];simp only [List.append_assoc])),by first | rfl | exact vi om_ | exact vs (by first | assumption | (rw [hst];done) | (rw [hst];simp only [List.append_assoc])) | exact vb (by assumption),by first | rfl | exact vi om_ | exact vs (by first | assumption | (rw [hst];done) | (rw [hst];simp only [List.append_assoc])) | exact vb (by assumption),by first | rfl | exact vi om_ | exact vs (by first | assumption | (rw [hst];done) | (rw [hst];simp only [List.append_assoc])),ao_,ao_,ao_⟩
     ·rintro _ E wL35 ⟨i,em,e0,e5,e6,e7,e34,hi,hB,bx5⟩;rw [upd_self e0,upd_self e5,upd_self e6,upd_self e7,upd_self e34];refine W.seq (W.region (L.val (x_lss rfl rfl) rfl ?_));refine L.nil (thn_n (W.seq (W.cond (b:=_) rfl (fun g35=>?_) (fun g35=>?_))))
      ·have h35:=of_decide_eq_true g35;have hi2:i<2:=by omega
       refine W.skip (thn_n (W.seq (W.block (W.seq (W.region (L.val (x_mv (v:=.int _ _) rfl) rfl ?_))))));refine L.val (x_as (v:=.int _ _) rfl) rfl ?_;refine L.nil (thn_n (W.seq (W.region (L.val (x_mv (v:=.pointer _) rfl) rfl ?_))));refine L.val (x_mv (v:=.int _ _) rfl) rfl ?_;refine L.ret (x_call kwal8_en85 rfl) rfl (read_d n0 b D i _ (h.bel hB) hd om_) ?_;rintro _ w40 ⟨rfl,hw⟩;have hB:=hB.carry hw;have bx5:=bx5.carry hw;refine L.val (x_mv (v:=_) rfl) rfl ?_;refine L.val (x_ext (v:=S _) rfl rfl) rfl ?_;refine L.val (x_ext (v:=.int _ _) rfl rfl) rfl ?_;refine L.val (x_as (v:=S _) rfl) rfl ?_;refine L.val (x_as (v:=.int _ _) rfl) rfl ?_;refine L.nil (thn_n (W.seq (W.region (L.val (x_mv (v:=S _) rfl) rfl ?_))));refine L.val (x_mv (v:=.pointer _) rfl) rfl ?_;refine L.ret (x_call kwal8_en78 rfl) rfl (room_w n0 b D _ (h.bel hB) h6) ?_;rintro _ w46 ⟨rfl,hq46⟩;rw [hq46];refine L.ret (x_call kwal8_en86 rfl) rfl (read_ok (rdD D i) _ (rdD_len hok om_) hrm _) ?_;rintro _ w47 ⟨rfl,hw⟩;have hB:=hB.carry hw;have bx5:=bx5.carry hw;have hs47:=hB.size;have hl47:=bx5.lt;refine L.val (x_mv (v:=_) rfl) rfl ?_;refine L.val (x_ext (v:=_) rfl rfl) rfl ?_;refine L.val (x_ext (v:=.bool _) rfl rfl) rfl ?_;refine L.alloc (cs:=[Value.int .u64 0,Value.int .i64 0,Value.int .i64 0,Value.int .i64 0]) kwal8_zr132 rfl rfl (fun w11 bx11 hw hz11=>?_);have hB:=hB.carry hw;have bx5:=bx5.carry hw;refine L.setRow kwal8_ag132 rfl rfl bx11 rfl rfl (ptV_one (rdPt (rdD D i))) (fun wl50 bx11 hw hzl50=>?_);have hsz:=hB.size;have hB:=hB.set hw om_;have bx5:=bx5.carryR hw om_;refine L.val (x_as (v:=.bool _) rfl) rfl ?_;refine L.nil (thn_n (W.cut (fun D' E' w'=>D'=[]∧E' 0=.pointer (some ⟨b,0,none⟩)∧E' 5=.pointer (some ⟨w.heap.size,0,none⟩)∧E' 6=.bool (hdP D (i+1)).2∧E' 7=.bool (frS D i)∧E' 8=.int .i64 (i:Nat)∧E' 9=S (rdD D i)∧E' 34=.int .i64 (i:Nat)∧Bel w w'∧Box w' w.heap.size 134 (logV (hdP D (i+1)).1 b false)) ?_ ?_))
       ·refine W.seq (W.drawF 15 kwal8_mixed (fun wF50 hB0=>?_));refine LAC.takeN (i:=0) rfl kr_ kr_ kr_ kr_ (fun w hw=>x_mv (v:=.bool _) rfl) rfl ?_;refine LAC.takeN (i:=1) rfl kr_ kr_ kr_ kr_ (fun w hw=>x_mv (v:=.bool _) rfl) rfl ?_;refine LAC.split (dj:=51) (b:=_) rfl (fun g51=>?_) (fun g51=>?_)
        ·have h51:=g51;refine LAC.takeG (i:=2) rfl kr_ kr_ kr_ kr_ (dj:=51) (b:=_) rfl rfl g51 (fun w hw=>x_mv (v:=.bool _) rfl) rfl ?_;refine LAC.takeG (i:=3) rfl kr_ kr_ kr_ kr_ (dj:=51) (b:=_) rfl rfl g51 (fun w hw=>x_not rfl) rfl ?_;refine LAC.takeG (i:=4) rfl kr_ kr_ kr_ kr_ (dj:=51) (b:=_) rfl rfl g51 (fun w hw=>x_mv (v:=.bool _) rfl) rfl ?_;refine LAC.split (dj:=54) (b:=_) rfl (fun g54=>?_) (fun g54=>?_)
         ·have h54:=(not_t g54);have hS:hdP D (i+1)=(rdPt (rdD D i),true):=by rw [hdP,stepP,g51,g54];rfl
          refine LAC.takeU (i:=5) rfl kr_ kr_ kr_ kr_ (dj:=54) (b:=_) rfl rfl g54 rfl ?_;refine LAC.takeU (i:=6) rfl kr_ kr_ kr_ kr_ (dj:=54) (b:=_) rfl rfl g54 rfl ?_;refine LAC.takeU (i:=7) rfl kr_ kr_ kr_ kr_ (dj:=54) (b:=_) rfl rfl g54 rfl ?_;refine LAC.takeU (i:=8) rfl kr_ kr_ kr_ kr_ (dj:=54) (b:=_) rfl rfl g54 rfl ?_;refine LAC.takeU (i:=9) rfl kr_ kr_ kr_ kr_ (dj:=54) (b:=_) rfl rfl g54 rfl ?_;refine LAC.takeU (i:=10) rfl kr_ kr_ kr_ kr_ (dj:=54) (b:=_) rfl rfl g54 rfl ?_;refine LAC.takeU (i:=11) rfl kr_ kr_ kr_ kr_ (dj:=54) (b:=_) rfl rfl g54 rfl ?_;refine LAC.takeU (i:=12) rfl kr_ kr_ kr_ kr_ (dj:=54) (b:=_) rfl rfl g54 rfl ?_;refine LAC.takeG (i:=13) rfl kr_ kr_ kr_ kr_ (dj:=51) (b:=_) rfl rfl g51 (fun w hw=>x_pick_t (v:=.bool _) (congrArg Value.bool g54) rfl) rfl ?_;refine LAC.takeN (i:=14) rfl kr_ kr_ kr_ kr_ (fun w hw=>x_pick_t (v:=.bool _) (congrArg Value.bool g51) rfl) rfl ?_;refine LAC.doneF kr_ hB0 ?_;have hB:=hB.carry hB0;have bx5:=bx5.carry hB0;have bx11:=bx11.carry hB0;refine thn_n (W.cond (b:=true) rfl (fun _=>?_) (fun h=>nomatch h));refine W.region (L.val (x_mv (v:=.pointer _) rfl) rfl ?_);refine L.val (x_ldn (vs:=_) kwal8_ag132 rfl rfl (bx11.row rfl)) rfl ?_;refine L.val (x_nil rfl) rfl ?_;refine L.val (x_fa kwal8_fo134_0 rfl) rfl ?_;refine L.setPart (o:=0) (k:=4) (new:=ptV (rdPt (rdD D i))) kwal8_ag132 rfl rfl bx5 (by show 4≤6;omega) rfl (ptV_one _) (fun wl71 bx5 hw hzl71=>?_);have hB:=hB.set hw om_;refine L.val (x_as (v:=.bool _) rfl) rfl ?_;refine L.nil (thn_n ?_);rw [hS];exact ⟨rfl,rfl,rfl,rfl,rfl,rfl,rfl,rfl,hB,bx5⟩
         ·have h54:=(not_f g54);refine LAC.takeG (i:=5) rfl kr_ kr_ kr_ kr_ (dj:=54) (b:=_) rfl rfl g54 (fun w hw=>x_fa kwal8_fo132_0 rfl) rfl ?_;refine LAC.takeG (i:=6) rfl kr_ kr_ kr_ kr_ (dj:=54) (b:=_) rfl rfl g54 (fun w hw=>x_ld (v:=.int _ _) kwal8_oc80 rfl (hw.keep (bx11.cell0 rfl))) rfl ?_;refine LAC.takeG (i:=7) rfl kr_ kr_ kr_ kr_ (dj:=54) (b:=_) rfl rfl g54 (fun w hw=>x_mv (v:=.pointer _) rfl) rfl ?_;refine LAC.takeG (i:=8) rfl kr_ kr_ kr_ kr_ (dj:=54) (b:=_) rfl rfl g54 (fun w hw=>x_nil rfl) rfl ?_;refine LAC.takeG (i:=9) rfl kr_ kr_ kr_ kr_ (dj:=54) (b:=_) rfl rfl g54 (fun w hw=>x_fa kwal8_fo134_0 rfl) rfl ?_;refine LAC.takeG (i:=10) rfl kr_ kr_ kr_ kr_ (dj:=54) (b:=_) rfl rfl g54 (fun w hw=>x_fa kwal8_fo132_0 rfl) rfl ?_;refine LAC.takeG (i:=11) rfl kr_ kr_ kr_ kr_ (dj:=54) (b:=_) rfl rfl g54 (fun w hw=>x_ld (v:=.int _ _) kwal8_oc80 rfl (hw.keep (bx5.cell0 rfl))) rfl ?_;refine LAC.takeG (i:=12) rfl kr_ kr_ kr_ kr_ (dj:=54) (b:=_) rfl rfl g54 (fun w hw=>x_gtr rfl rfl) rfl ?_;refine LAC.takeG (i:=13) rfl kr_ kr_ kr_ kr_ (dj:=51) (b:=_) rfl rfl g51 (fun w hw=>x_pick_f (v:=.bool _) (congrArg Value.bool g54) rfl) rfl ?_;refine LAC.takeN (i:=14) rfl kr_ kr_ kr_ kr_ (fun w hw=>x_pick_t (v:=.bool _) (congrArg Value.bool g51) rfl) rfl ?_;refine LAC.doneF kr_ hB0 ?_;have hB:=hB.carry hB0;have bx5:=bx5.carry hB0;have bx11:=bx11.carry hB0;refine thn_n (W.cond (b:=_) rfl (fun g62=>?_) (fun g62=>?_))
          ·have h62:=of_decide_eq_true g62;have hS:hdP D (i+1)=(rdPt (rdD D i),true):=by
             rw [hdP,stepP,g51,decide_eq_true (show (hdP D i).1.ep<(rdPt (rdD D i)).ep by omega),Bool.or_true];rfl
           refine W.region (L.val (x_mv (v:=.pointer _) rfl) rfl ?_);refine L.val (x_ldn (vs:=_) kwal8_ag132 rfl rfl (bx11.row rfl)) rfl ?_;refine L.val (x_nil rfl) rfl ?_;refine L.val (x_fa kwal8_fo134_0 rfl) rfl ?_;refine L.setPart (o:=0) (k:=4) (new:=ptV (rdPt (rdD D i))) kwal8_ag132 rfl rfl bx5 (by show 4≤6;omega) rfl (ptV_one _) (fun wl71 bx5 hw hzl71=>?_);have hB:=hB.set hw om_;refine L.val (x_as (v:=.bool _) rfl) rfl ?_;refine L.nil (thn_n ?_);rw [hS];exact ⟨rfl,rfl,rfl,rfl,rfl,rfl,rfl,rfl,hB,bx5⟩
          ·have h62:=dlt_f g62;have hS:hdP D (i+1)=hdP D i:=by
             rw [hdP,stepP,g54,decide_eq_false (show ¬ (hdP D i).1.ep<(rdPt (rdD D i)).ep by omega),Bool.or_false,Bool.and_false];rfl
           refine W.skip (thn_n ?_);rw [hS];exact ⟨rfl,rfl,rfl,rfl,rfl,rfl,rfl,rfl,hB,bx5⟩
        ·have h51:=g51;have hS:hdP D (i+1)=hdP D i:=by rw [hdP,stepP,g51];rfl
         refine LAC.takeU (i:=2) rfl kr_ kr_ kr_ kr_ (dj:=51) (b:=_) rfl rfl g51 rfl ?_;refine LAC.takeU (i:=3) rfl kr_ kr_ kr_ kr_ (dj:=51) (b:=_) rfl rfl g51 rfl ?_;refine LAC.takeU (i:=4) rfl kr_ kr_ kr_ kr_ (dj:=51) (b:=_) rfl rfl g51 rfl ?_;refine LAC.takeUU (i:=5) rfl kr_ kr_ kr_ kr_ (dj:=54) rfl rfl rfl ?_;refine LAC.takeUU (i:=6) rfl kr_ kr_ kr_ kr_ (dj:=54) rfl rfl rfl ?_;refine LAC.takeUU (i:=7) rfl kr_ kr_ kr_ kr_ (dj:=54) rfl rfl rfl ?_;refine LAC.takeUU (i:=8) rfl kr_ kr_ kr_ kr_ (dj:=54) rfl rfl rfl ?_;refine LAC.takeUU (i:=9) rfl kr_ kr_ kr_ kr_ (dj:=54) rfl rfl rfl ?_;refine LAC.takeUU (i:=10) rfl kr_ kr_ kr_ kr_ (dj:=54) rfl rfl rfl ?_;refine LAC.takeUU (i:=11) rfl kr_ kr_ kr_ kr_ (dj:=54) rfl rfl rfl ?_;refine LAC.takeUU (i:=12) rfl kr_ kr_ kr_ kr_ (dj:=54) rfl rfl rfl ?_;refine LAC.takeU (i:=13) rfl kr_ kr_ kr_ kr_ (dj:=51) (b:=_) rfl rfl g51 rfl ?_;refine LAC.takeN (i:=14) rfl kr_ kr_ kr_ kr_ (fun w hw=>x_pick_f (v:=.bool _) (congrArg Value.bool g51) rfl) rfl ?_;refine LAC.doneF kr_ hB0 ?_;have hB:=hB.carry hB0;have bx5:=bx5.carry hB0;have bx11:=bx11.carry hB0;refine thn_n (W.cond (b:=false) rfl (fun h=>nomatch h) (fun _=>?_));refine W.skip (thn_n ?_);rw [hS];exact ⟨rfl,rfl,rfl,rfl,rfl,rfl,rfl,rfl,hB,bx5⟩
       ·rintro D' E w69 ⟨rfl,e0,e5,e6,e7,e8,e9,e34,hB,bx5⟩;rw [upd_self e0,upd_self e5,upd_self e6,upd_self e7,upd_self e8,upd_self e9,upd_self e34];refine W.region (L.val (x_mv (v:=.bool _) rfl) rfl ?_);refine L.val (x_mv (v:=.bool _) rfl) rfl ?_;refine L.splitat (dj:=70) (b:=_) rfl (fun g70=>?_) (fun g70=>?_)
        ·have h70:=g70;have hF:true=frS D (i+1):=by
           simp only [frS,Bool.and_eq_true] at g70;simp only [frS,g70.2,Bool.and_true];exact (decide_eq_true om_).symm
         (iterate 3 refine L.gno (dj:=70) (b:=_) rfl rfl g70 rfl ?_);(iterate 3 refine L.gun (dj:=73) rfl rfl rfl ?_);refine L.gno (dj:=70) (b:=_) rfl rfl g70 rfl ?_;refine L.val (x_pick_t (v:=.bool _) (congrArg Value.bool g70) rfl) rfl ?_;refine L.val (x_as (v:=.bool _) rfl) rfl ?_;refine L.nil (blk_n (thn_n (W.region (L.val (x_add rfl rfl (wr64 om_)) rfl ?_))));refine L.val (x_mv (v:=.int _ _) rfl) rfl ?_;refine L.nil (thn_n ⟨rfl,?_⟩);refine ⟨_,?_,i+1,rfl,by first | rfl | exact vi om_ | exact vs (by first | assumption | (rw [hst];done) | (rw [hst];simp only [List.append_assoc])),by first | rfl | exact vi om_ | exact vs (by first | assumption | (rw [hst];done) | (rw [hst];simp only [List.append_assoc])),by first | rfl | exact vi om_ | exact vs (by first | assumption | (rw [hst];done) | (rw [hst];simp only [List.append_assoc])) | exact vb (by assumption),by first | rfl | exact vi om_ | exact vs (by first | assumption | (rw [hst];done) | (rw [hst];simp only [List.append_assoc])) | exact vb (by assumption),by first | rfl | exact vi om_ | exact vs (by first | assumption | (rw [hst];done) | (rw [hst];simp only [List.append_assoc])),ao_,ao_,ao_⟩;omega
        ·have h70:=g70;refine L.gyes' (dj:=70) (b:=_) rfl rfl g70 ?_;refine L.val (x_mv (v:=.int _ _) rfl) rfl ?_;refine L.gyes' (dj:=70) (b:=_) rfl rfl g70 ?_;refine L.val (x_eql rfl rfl) rfl ?_;refine L.gyes' (dj:=70) (b:=_) rfl rfl g70 ?_;refine L.val (x_mv (v:=.bool _) rfl) rfl ?_;refine L.splitat (dj:=73) (b:=_) rfl (fun g73=>?_) (fun g73=>?_)
         ·have h73:=of_decide_eq_true g73;have hi0:i=0:=by omega
          have hF:(rdD D i == zeros 64)=frS D (i+1):=by
            subst hi0;simp [frS]
          refine L.gyes' (dj:=73) (b:=_) rfl rfl g73 ?_;refine L.val (x_mv (v:=S _) rfl) rfl ?_;refine L.gyes' (dj:=73) (b:=_) rfl rfl g73 ?_;refine L.ret (x_call kwal8_en87 rfl) rfl (padded_ok [] (by decide) _) ?_;rintro _ w75 ⟨rfl,hw⟩;have hB:=hB.carry hw;have bx5:=bx5.carry hw;refine L.gyes' (dj:=73) (b:=_) rfl rfl g73 ?_;refine L.val (x_eqs rfl rfl) rfl ?_;refine L.gyes' (dj:=70) (b:=_) rfl rfl g70 ?_;refine L.val (x_pick_t (v:=.bool _) (congrArg Value.bool g73) rfl) rfl ?_;refine L.val (x_pick_f (v:=.bool _) (congrArg Value.bool g70) rfl) rfl ?_;refine L.val (x_as (v:=.bool _) rfl) rfl ?_;refine L.nil (blk_n (thn_n (W.region (L.val (x_add rfl rfl (wr64 om_)) rfl ?_))));refine L.val (x_mv (v:=.int _ _) rfl) rfl ?_;refine L.nil (thn_n ⟨rfl,?_⟩);refine ⟨_,?_,i+1,rfl,by first | rfl | exact vi om_ | exact vs (by first | assumption | (rw [hst];done) | (rw [hst];simp only [List.append_assoc])),by first | rfl | exact vi om_ | exact vs (by first | assumption | (rw [hst];done) | (rw [hst];simp only [List.append_assoc])),by first | rfl | exact vi om_ | exact vs (by first | assumption | (rw [hst];done) | (rw [hst];simp only [List.append_assoc])) | exact vb (by assumption),by first | rfl | exact vi om_ | exact vs (by first | assumption | (rw [hst];done) | (rw [hst];simp only [List.append_assoc])) | exact vb (by assumption),by first | rfl | exact vi om_ | exact vs (by first | assumption | (rw [hst];done) | (rw [hst];simp only [List.append_assoc])),ao_,ao_,ao_⟩;omega
         ·have h73:=of_decide_eq_false g73;have hF:false=frS D (i+1):=by
            simp only [frS,decide_eq_true (show 0<i by omega),Bool.true_and] at g70;simp only [frS,g70,Bool.and_false]
          (iterate 3 refine L.gno (dj:=73) (b:=_) rfl rfl g73 rfl ?_);refine L.gyes' (dj:=70) (b:=_) rfl rfl g70 ?_;refine L.val (x_pick_f (v:=.bool _) (congrArg Value.bool g73) rfl) rfl ?_;refine L.val (x_pick_f (v:=.bool _) (congrArg Value.bool g70) rfl) rfl ?_;refine L.val (x_as (v:=.bool _) rfl) rfl ?_;refine L.nil (blk_n (thn_n (W.region (L.val (x_add rfl rfl (wr64 om_)) rfl ?_))));refine L.val (x_mv (v:=.int _ _) rfl) rfl ?_;refine L.nil (thn_n ⟨rfl,?_⟩);refine ⟨_,?_,i+1,rfl,by first | rfl | exact vi om_ | exact vs (by first | assumption | (rw [hst];done) | (rw [hst];simp only [List.append_assoc])),by first | rfl | exact vi om_ | exact vs (by first | assumption | (rw [hst];done) | (rw [hst];simp only [List.append_assoc])),by first | rfl | exact vi om_ | exact vs (by first | assumption | (rw [hst];done) | (rw [hst];simp only [List.append_assoc])) | exact vb (by assumption),by first | rfl | exact vi om_ | exact vs (by first | assumption | (rw [hst];done) | (rw [hst];simp only [List.append_assoc])) | exact vb (by assumption),by first | rfl | exact vi om_ | exact vs (by first | assumption | (rw [hst];done) | (rw [hst];simp only [List.append_assoc])),ao_,ao_,ao_⟩;omega
      ·have h35:=dlt_f g35;have hi2:i=2:=by omega
       subst hi2;have hp:=hdP_ok D 2;have hlb:=bx5.lt;refine W.exit (thn_x (thn_x (blk_hit ?_)));refine thn_n (W.seq (W.seq (W.region (L.val (x_mv (v:=.bool _) rfl) rfl ?_))));refine L.val (x_not rfl) rfl ?_;refine L.val (x_mv (v:=.bool _) rfl) rfl ?_;refine' L.group0 2 83 84 84 82 true rfl ?_ ?_ ?_;rotate_left 1
       ·intro g82;have h82:=(not_t g82);refine L.gyes' (dj:=82) (b:=_) rfl rfl g82 ?_;refine L.val (x_mv (v:=.bool _) rfl) rfl ?_;refine L.gyes' (dj:=82) (b:=_) rfl rfl g82 ?_;refine L.val (x_not rfl) rfl ?_;refine L.nil (thn_n ⟨rfl,rfl,?_,rfl⟩);repeat (first | exact jeq.refl _ _ _ | refine jeq.upd rfl ?_ | refine jeq.jk rfl rfl ?_)
       ·intro g82;refine L.gno (dj:=82) (b:=_) rfl rfl g82 rfl ?_;refine L.gno (dj:=82) (b:=_) rfl rfl g82 rfl ?_;refine L.nil (thn_n ⟨rfl,rfl,?_⟩);repeat (first | exact jeq.refl _ _ _ | refine jeq.upd rfl ?_ | refine jeq.jk rfl rfl ?_)
       intro J82 j82;refine L.val (x_and rfl j82) rfl ?_;refine L.nil (thn_n (W.cond (b:=_) rfl (fun g85=>?_) (fun g85=>?_)))
       ·have h85:=g85;have hO:=openA_none g85;refine W.seq (W.region (L.val (x_as (v:=.pointer _) rfl) rfl ?_));refine L.val (x_as (v:=.slice _ _ _) rfl) rfl ?_;refine L.val (x_as (v:=.int _ _) rfl) rfl ?_;refine L.nil (thn_n (W.ret (thn_r (fin_mk (.inr rfl) ?_))));rw [hO];exact ⟨hB,.inl ⟨by decide,rfl⟩⟩
       ·have h85:=g85;have hO:=openA_some g85;generalize hP:(hdP D 2).1=p at *;have hst:=stN_le h6 hp.2.1;have hrN:roomN D.pl.length=hlf D.pl.length * 64:=rfl;refine W.skip (thn_n (W.seq (W.region (L.alloc (cs:=[Value.pointer none,Value.slice none 0 0]) kwal8_zr146 rfl rfl (fun w13 bx13 hw hz13=>?_)))));have hB:=hB.carry hw;have bx5:=bx5.carry hw;obtain ⟨bb,hbb⟩:∃ bb,bb=wL35.heap.size:=⟨_,rfl⟩;rw [← hbb] at bx13 ⊢;refine L.nil (thn_n (W.seq (W.seq (W.region (L.val (x_as (v:=.int _ _) rfl) rfl ?_)))));refine L.nil (thn_n (W.block (W.loop (fun m' E w'=>∃ (k:Nat),m'=p.tail+64 - 64 * k∧E 0=.pointer (some ⟨b,0,none⟩)∧E 5=.pointer (some ⟨w.heap.size,0,none⟩)∧E 13=.pointer (some ⟨bb,0,none⟩)∧E 14=.int .i64 (k:Nat)∧(k=0∨64 * (k - 1)<p.tail)∧(Bel w w')∧(Box w' w.heap.size 134 (logV p b false))∧(BuilderIs w' bb (areaS D p k))) (p.tail+64) ?_ ?_)))
        ·exact ⟨0,by omega,by first | rfl | exact vi om_ | exact vs (by first | assumption | (rw [hst];done) | (rw [hst];simp only [List.append_assoc])),by first | rfl | exact vi om_ | exact vs (by first | assumption | (rw [hst];done) | (rw [hst];simp only [List.append_assoc])),by first | rfl | exact vi om_ | exact vs (by first | assumption | (rw [hst];done) | (rw [hst];simp only [List.append_assoc])),by first | rfl | exact vi om_ | exact vs (by first | assumption | (rw [hst];done) | (rw [hst];simp only [List.append_assoc])),ao_,ao_,ao_,(by exact builder_new bx13)⟩
        ·rintro _ E wL86 ⟨k,em,e0,e5,e13,e14,hk,hB,bx5,hD⟩;rw [upd_self e0,upd_self e5,upd_self e13,upd_self e14];refine W.seq (W.seq (W.region (L.val (x_mv (v:=.int _ _) rfl) rfl ?_)));refine L.val (x_mul rfl rfl (wr64 om_)) rfl ?_;refine L.val (x_mv (v:=.pointer _) rfl) rfl ?_;refine L.val (x_nil rfl) rfl ?_;refine L.val (x_fa kwal8_fo134_0 rfl) rfl ?_;refine L.val (x_fa kwal8_fo132_2 rfl) rfl ?_;refine L.val (x_ld (v:=.int _ _) kwal8_oc3 rfl (bx5.cell0 rfl)) rfl ?_;refine L.val (x_lss rfl rfl) rfl ?_;refine L.nil (thn_n (W.cond (b:=_) rfl (fun g93=>?_) (fun g93=>?_)))
         ·have h93:=of_decide_eq_true g93;have hlk:64 * k<p.tail:=by omega
          have hal:(areaS D p k).length=64 * k:=areaS_len hok k (fun i hi=>by omega);have hrl:=rdD_len hok (i:=stN D.pl.length p.half+k) om_;refine W.skip (thn_n (W.seq (W.block (W.seq (W.region ?_)))));(iterate 3 refine L.val (x_mv (v:=.pointer _) rfl) rfl ?_);refine L.val (x_nil rfl) rfl ?_;refine L.val (x_fa kwal8_fo134_0 rfl) rfl ?_;refine L.val (x_fa kwal8_fo132_1 rfl) rfl ?_;refine L.val (x_ld (v:=.int _ _) kwal8_oc3 rfl (bx5.cell0 rfl)) rfl ?_;refine L.ret (x_call kwal8_en88 rfl) rfl (start_w n0 b D p.half _ (h.bel hB) h6 hp.2.1) ?_;rintro _ w104 ⟨rfl,hq104⟩;rw [hq104];refine L.val (x_mv (v:=.int _ _) rfl) rfl ?_;refine L.val (x_add rfl rfl (wr64 om_)) rfl ?_;refine L.ret (x_call kwal8_en85 rfl) rfl (read_d n0 b D (stN D.pl.length p.half+k) _ (h.bel hB) hd om_) ?_;rintro _ w107 ⟨rfl,hw⟩;have hB:=hB.carry hw;have bx5:=bx5.carry hw;have hD:=hD.carryR hw (fun _ _ e=>e);refine L.val (x_mv (v:=_) rfl) rfl ?_;refine L.val (x_ext (v:=S _) rfl rfl) rfl ?_;refine L.val (x_ext (v:=.int _ _) rfl rfl) rfl ?_;refine L.val (x_as (v:=S _) rfl) rfl ?_;refine L.val (x_as (v:=.int _ _) rfl) rfl ?_;refine L.nil (thn_n (W.region (L.val (x_mv (v:=S _) rfl) rfl ?_)));refine L.ret (x_call kwal8_en89 rfl) rfl (wstr_ok _ _ _ _ hD om_) ?_;rintro _ w111 ⟨hD111,hG111⟩;refine L.nil (blk_n (thn_n (W.region ?_)));have hB:=hB.step hG111 (fun i hi e=>by omega);have bx5:=bx5.carryR hG111 (fun e=>by omega);have hD2:BuilderIs w111 bb (areaS D p (k+1)):=by rw [← areaS_succ];exact hD111
          refine L.val (x_mv (v:=.int _ _) rfl) rfl ?_;refine L.val (x_add rfl rfl (wr64 om_)) rfl ?_;refine L.val (x_as (v:=.int _ _) rfl) rfl ?_;refine L.nil (thn_n ⟨rfl,?_⟩);refine ⟨_,?_,k+1,rfl,by first | rfl | exact vi om_ | exact vs (by first | assumption | (rw [hst];done) | (rw [hst];simp only [List.append_assoc])),by first | rfl | exact vi om_ | exact vs (by first | assumption | (rw [hst];done) | (rw [hst];simp only [List.append_assoc])),by first | rfl | exact vi om_ | exact vs (by first | assumption | (rw [hst];done) | (rw [hst];simp only [List.append_assoc])),by first | rfl | exact vi om_ | exact vs (by first | assumption | (rw [hst];done) | (rw [hst];simp only [List.append_assoc])),(by exact .inr om_),ao_,ao_,(by exact hD2)⟩;omega
         ·have h93:=dlt_f g93;have hke:k=(p.tail+63) / 64:=by omega
          have hal:(areaS D p k).length=64 * k:=areaS_len hok k (fun i hi=>by omega);have hsB:=hB.size;refine W.exit (thn_x (thn_x (blk_hit ?_)));refine thn_n (W.seq (W.drawD (fun k=>bb≤k) (fun k=>bb≤k) 0 kwal8_mixed (fun wD112 hw=>?_)));have hB:=hB.carry hw;have bx5:=bx5.carry hw;have hB0:=Gr.refl (fun k=>bb≤k) wD112;have hR0:=Gr.refl (fun k=>bb≤k) wD112;have hD:=hD.carryR hw (fun _ _ e=>e);refine LAD.take0 (i:=1) rfl kr_ kr_ kr_ kr_ (fun w hw=>x_mv (v:=.pointer _) rfl) rfl ?_;refine LAD.take0 (i:=2) rfl kr_ kr_ kr_ kr_ (fun w hw=>x_nil rfl) rfl ?_;refine LAD.take0 (i:=3) rfl kr_ kr_ kr_ kr_ (fun w hw=>x_fa kwal8_fo134_0 rfl) rfl ?_;refine LAD.take0 (i:=4) rfl kr_ kr_ kr_ kr_ (fun w hw=>x_fa kwal8_fo132_2 rfl) rfl ?_;refine LAD.take0 (i:=5) rfl kr_ kr_ kr_ kr_ (fun w hw=>x_ld (v:=.int _ _) kwal8_oc3 rfl (hw.keepR (fun e=>by have e:bb≤_:=e;dsimp only at e;omega) (bx5.cell0 rfl))) rfl ?_;refine LAD.step (rs:=[0]) hR0 (fun _=>hB0) kr_ (by simp) ⟨⟨_,rfl,?_⟩,trivial⟩;refine L.ret (x_call kwal8_en90 rfl) rfl (bstr_ok _ _ _ hD) ?_;rintro _ w112 ⟨rfl,hG112⟩;have hR0:=hR0.trans hG112;refine L.nil (thn_n (LAD.take0 (i:=6) rfl kr_ kr_ kr_ kr_ (fun w hw=>x_slS (j:=p.tail) Tryz.underlying9 rfl rfl rfl om_) rfl ?_));rw [show (areaS D p k).take p.tail=allA D p by unfold allA;rw [hke]];refine LAD.take0 (i:=7) rfl kr_ kr_ kr_ kr_ (fun w hw=>x_as (v:=S _) rfl) rfl ?_;refine LAD.done kr_ kr_ hR0 ?_;have hB:=hB.step hR0 (fun i hi e=>by have e:bb≤_:=e;omega);have bx5:=bx5.carryR hR0 (fun e=>by have e:bb≤_:=e;omega);refine thn_n (W.seq (W.region ?_));have hs118:=hB.size;refine L.val (x_mv (v:=S _) rfl) rfl ?_;refine L.ret (x_call kwal8_en91 rfl) rfl (scan_ok (allA D p) (by unfold allA;rw [List.length_take];omega) _) ?_;rintro _ w121 ⟨⟨u,rfl,hu,hown⟩,hw⟩;have hB:=hB.carry hw;have bx5:=bx5.carry hw;obtain ⟨pu,cu,rfl,-⟩:=id hu;refine L.val (x_mv (v:=_) rfl) rfl ?_;refine L.val (x_ext (v:=.slice _ _ _) rfl rfl) rfl ?_;refine L.val (x_ext (v:=.int _ _) rfl rfl) rfl ?_;refine L.val (x_as (v:=.slice _ _ _) rfl) rfl ?_;refine L.val (x_as (v:=.int _ _) rfl) rfl ?_;refine L.nil (thn_n (W.seq (W.seq (W.region (L.val (x_mv (v:=.int _ _) rfl) rfl ?_)))));refine L.val (x_mv (v:=.pointer _) rfl) rfl ?_;refine L.val (x_nil rfl) rfl ?_;refine L.val (x_fa kwal8_fo134_0 rfl) rfl ?_;refine L.val (x_fa kwal8_fo132_2 rfl) rfl ?_;refine L.val (x_ld (v:=.int _ _) kwal8_oc3 rfl (bx5.cell0 rfl)) rfl ?_;refine L.val (x_neq rfl rfl) rfl ?_;refine L.val (x_mv (v:=.bool _) rfl) rfl ?_;refine L.splitat (dj:=131) (b:=_) rfl (fun g131=>?_) (fun g131=>?_)
          ·have h131:=dne_t g131;have hO2:openA D=(200,pt0,[]):=by rw [hO,if_neg (fun e=>by have:=e.1;omega)]
           (iterate 8 refine L.gno (dj:=131) (b:=_) rfl rfl g131 rfl ?_);refine L.val (x_pick_t (v:=.bool _) (congrArg Value.bool g131) rfl) rfl ?_;refine L.nil (thn_n (W.cond (b:=true) rfl (fun _=>?_) (fun h=>nomatch h)));refine W.seq (W.region (L.val (x_as (v:=.pointer _) rfl) rfl ?_));refine L.val (x_as (v:=.slice _ _ _) rfl) rfl ?_;refine L.val (x_as (v:=.int _ _) rfl) rfl ?_;refine L.nil (thn_n (W.ret (thn_r (fin_mk (.inr rfl) ?_))));rw [hO2];exact ⟨hB,.inl ⟨by decide,rfl⟩⟩
          ·have h131:=dne_f g131;have hz1:(scanS (allA D p)).2=p.tail:=by omega
           refine L.gyes' (dj:=131) (b:=_) rfl rfl g131 ?_;refine L.val (x_mv (v:=.slice _ _ _) rfl) rfl ?_;refine L.gyes' (dj:=131) (b:=_) rfl rfl g131 ?_;refine L.val (x_len_slice Tryz.underlying22 rfl) rfl ?_;refine L.gyes' (dj:=131) (b:=_) rfl rfl g131 ?_;refine L.val (x_mv (v:=.pointer _) rfl) rfl ?_;refine L.gyes' (dj:=131) (b:=_) rfl rfl g131 ?_;refine L.val (x_nil rfl) rfl ?_;refine L.gyes' (dj:=131) (b:=_) rfl rfl g131 ?_;refine L.val (x_fa kwal8_fo134_0 rfl) rfl ?_;refine L.gyes' (dj:=131) (b:=_) rfl rfl g131 ?_;refine L.val (x_fa kwal8_fo132_3 rfl) rfl ?_;refine L.gyes' (dj:=131) (b:=_) rfl rfl g131 ?_;refine L.val (x_ld (v:=.int _ _) kwal8_oc3 rfl (bx5.cell0 rfl)) rfl ?_;refine L.gyes' (dj:=131) (b:=_) rfl rfl g131 ?_;refine L.val (x_neq rfl rfl) rfl ?_;refine L.val (x_pick_f (v:=.bool _) (congrArg Value.bool g131) rfl) rfl ?_;refine L.nil (thn_n (W.cond (b:=_) rfl (fun g139=>?_) (fun g139=>?_)))
           ·have h139:=dne_t g139;have hO2:openA D=(200,pt0,[]):=by rw [hO,if_neg (fun e=>by have:=e.2;omega)]
            refine W.seq (W.region (L.val (x_as (v:=.pointer _) rfl) rfl ?_));refine L.val (x_as (v:=.slice _ _ _) rfl) rfl ?_;refine L.val (x_as (v:=.int _ _) rfl) rfl ?_;refine L.nil (thn_n (W.ret (thn_r (fin_mk (.inr rfl) ?_))));rw [hO2];exact ⟨hB,.inl ⟨by decide,rfl⟩⟩
           ·have h139:=dne_f g139;have hO2:openA D=(0,p,(scanS (allA D p)).1):=by rw [hO,if_pos ⟨hz1,by omega⟩]
            refine W.skip (thn_n (W.seq (W.region (L.val (x_mv (v:=.pointer _) rfl) rfl ?_))));refine L.val (x_mv (v:=.slice _ _ _) rfl) rfl ?_;refine L.val (x_as (v:=.pointer _) rfl) rfl ?_;refine L.val (x_as (v:=.slice _ _ _) rfl) rfl ?_;refine L.val (x_as (v:=.int _ _) rfl) rfl ?_;refine L.nil (thn_n (W.ret (fin_mk (.inr rfl) ?_)));rw [hO2];exact ⟨hB,.inr ⟨rfl,_,_,rfl,⟨Nat.le_refl _,bx5⟩,hu.mono (fun b _ h=>by omega),hown⟩⟩
theorem open_w (n0 b:Nat) (D:Dk) (w:World) (h:DiskAt n0 w b D) (hd:D.dead=false) (h6:6≤D.pl.length):
    Ret Tryz.prog 61 #[.pointer (some ⟨b,0,none⟩)] w fun v w'=>Bel w w'∧((openA D).1≠0∧v=.tuple #[.pointer none,.slice none 0 0,.int .i64 (openA D).1]∨
      (openA D).1=0∧∃ bl u,v=.tuple #[.pointer (some ⟨bl,0,none⟩),u,.int .i64 0]∧LogAt w.heap.size w' bl b (openA D).2.1∧StrsAt (fun k=>k<w.heap.size) w' u (openA D).2.2):=
  (open_own n0 b D w h hd h6).mono fun _ _ h=>⟨h.1,h.2.imp id fun ⟨e,bl,u,h1,h2,h3,_⟩=>⟨e,bl,u,h1,h2,h3⟩⟩
end Go.Gx
namespace Go.Gx
open Go.Proofs
theorem kwal9_mixed:Tryz.prog.follows .mixedOrders=true:=by kernel_rfl
theorem kwal9_oc9:oneCellT Tryz.prog 9=true:=by kernel_rfl
theorem kwal9_sz9:(Tryz.prog.info? 9).map (·.size)=some 1:=by kernel_rfl
theorem same21 (A B:Nat→Prop) (v u:Value) (l m:List Str) (w:World) (h:StrsAt A w v l) (h':StrsAt B w u m):
    Ret Tryz.prog 30 #[v,u] w fun r w'=>r=.bool (decide (l=m))∧Bel w w':=by
  obtain ⟨pl,cl,rfl,a1,a2,a3,a4,-⟩:=id h;obtain ⟨pm,cm,rfl,b1,b2,b3,b4,-⟩:=id h';refine ret_of_W Tryz.func30 rfl (Nat.le_of_ble_eq_true rfl) (res1 rfl) ?_;have hB:=Gr.refl (fun _=>False) w;refine W.seq (W.region (L.val (x_as (v:=.bool _) rfl) rfl ?_));refine L.nil (thn_n (W.seq (W.seq (W.region (L.val (x_mv (v:=.slice _ _ _) rfl) rfl ?_)))));refine L.val (x_len_slice Tryz.underlying22 rfl) rfl ?_;refine L.val (x_mv (v:=.slice _ _ _) rfl) rfl ?_;refine L.val (x_len_slice Tryz.underlying22 rfl) rfl ?_;refine L.val (x_neq rfl rfl) rfl ?_;refine L.nil (thn_n (W.cond (b:=_) rfl (fun g10=>?_) (fun g10=>?_)))
  ·have h10:=dne_t g10;have hne:¬ l=m:=fun e=>by rw [e] at h10;exact h10 rfl
   refine W.seq (W.region (L.val (x_as (v:=.bool _) rfl) rfl ?_));refine L.nil (thn_n (W.ret (thn_r (fin_mk (.inr rfl) ?_))));rw [decide_eq_false hne];exact ⟨rfl,hB⟩
  ·have h10:=dne_f g10;have hlm:l.length=m.length:=by omega
   refine W.skip (thn_n (W.seq (W.seq (W.region (L.val (x_as (v:=.int _ _) rfl) rfl ?_)))));refine L.nil (thn_n (W.block (W.loop (fun m' E w'=>∃ (k:Nat),m'=l.length - k∧E 0=.slice pl l.length cl∧E 1=.slice pm m.length cm∧E 5=.int .i64 (k:Nat)∧(k≤l.length)∧(Bel w w')∧(StrsAt A w' (.slice pl l.length cl) l)∧(StrsAt B w' (.slice pm m.length cm) m)∧(l.take k=m.take k)) (l.length) ?_ ?_)))
   ·exact ⟨0,by omega,vi_,vi_,vi_,ao_,ao_,ao_,ao_,(by rfl)⟩
   ·rintro _ E wL11 ⟨k,em,e0,e1,e5,hk,hB,h,h',heq⟩;rw [upd_self e0,upd_self e1,upd_self e5];refine W.seq (W.seq (W.region (L.val (x_mv (v:=.int _ _) rfl) rfl ?_)));refine L.val (x_mv (v:=.slice _ _ _) rfl) rfl ?_;refine L.val (x_len_slice Tryz.underlying22 rfl) rfl ?_;refine L.val (x_lss rfl rfl) rfl ?_;refine L.nil (thn_n (W.cond (b:=_) rfl (fun g14=>?_) (fun g14=>?_)))
    ·have h14:=of_decide_eq_true g14;have hlt:k<l.length:=by omega
     have hlt2:k<m.length:=by omega
     obtain ⟨bl,ol,rfl,hc⟩:=h.elem hlt;obtain ⟨bm,om,rfl,hc'⟩:=h'.elem hlt2;refine W.skip (thn_n (W.seq (W.block (W.seq (W.drawB kwal9_mixed kr_ ?_)))));refine LQ.val (fun w hw=>x_mv (v:=.slice _ _ _) rfl) rfl ?_;refine LQ.val (fun w hw=>x_mv (v:=.int _ _) rfl) rfl ?_;refine LQ.val (fun w hw=>x_ia1 (j:=k) Tryz.underlying22 kwal9_sz9 rfl rfl om_ om_) rfl ?_;refine LQ.val (fun w hw=>x_ld (v:=S _) kwal9_oc9 rfl (hw.keep hc)) rfl ?_;refine LQ.val (fun w hw=>x_mv (v:=.slice _ _ _) rfl) rfl ?_;refine LQ.val (fun w hw=>x_mv (v:=.int _ _) rfl) rfl ?_;refine LQ.val (fun w hw=>x_ia1 (j:=k) Tryz.underlying22 kwal9_sz9 rfl rfl om_ om_) rfl ?_;refine LQ.val (fun w hw=>x_ld (v:=S _) kwal9_oc9 rfl (hw.keep hc')) rfl ?_;refine LQ.val (fun w hw=>x_nes rfl rfl) rfl ?_;refine LQ.nil ?_;intro w17 hw;have hB:=hB.carry hw;have h:=h.carry hw;have h':=h'.carry hw;refine thn_n (W.cond (b:=_) rfl (fun g25=>?_) (fun g25=>?_))
     ·have h25:=sne_t g25;have hne:¬ l=m:=fun e=>h25 (by rw [e])
      refine W.seq (W.region (L.val (x_as (v:=.bool _) rfl) rfl ?_));refine L.nil (thn_n (W.ret (blk_r (thn_r (thn_r (blk_r (thn_r (fin_mk (.inr rfl) ?_))))))));rw [decide_eq_false hne];exact ⟨rfl,hB⟩
     ·have h25:=sne_f g25;have he25:l.getD k []=m.getD k []:=h25;refine W.skip (blk_n (thn_n (W.region (L.val (x_mv (v:=.int _ _) rfl) rfl ?_))));refine L.val (x_add rfl rfl (wr64 om_)) rfl ?_;refine L.val (x_as (v:=.int _ _) rfl) rfl ?_;refine L.nil (thn_n ⟨rfl,?_⟩);refine ⟨_,?_,k+1,rfl,vi_,vi_,vi_,ao_,ao_,ao_,ao_,(by rw [take_snoc (d:=[]) hlt,take_snoc (d:=[]) hlt2,heq,he25])⟩;omega
    ·have h14:=dlt_f g14;refine W.exit (thn_x (thn_x (blk_hit ?_)));refine thn_n (W.seq (W.region (L.val (x_as (v:=.bool _) rfl) rfl ?_)));refine L.nil (thn_n (W.ret (fin_mk (.inr rfl) ?_)));have hh:l=m:=by
       have e1:l.take k=l:=by rw [show k=l.length by omega,List.take_length]
       have e2:m.take k=m:=by rw [show k=m.length by omega,List.take_length]
       rw [← e1,heq,e2]
     rw [decide_eq_true hh];exact ⟨rfl,hB⟩
def lab:List Str:=[[97],[98]]
def lc:List Str:=[[99]]
def dA0:Dk:=newD 6
def aA1:Int × Dk × Pt:=appA dA0 pt0 lab
def aA2:Int × Dk × Pt:=appA aA1.2.1 aA1.2.2 lc
theorem q0:QOk dA0 pt0:=⟨by decide +kernel,rfl,rfl,rfl,by decide +kernel,by decide +kernel,by decide +kernel,by decide +kernel,by decide +kernel⟩
theorem q1:QOk aA1.2.1 aA1.2.2:=⟨by decide +kernel,by decide +kernel,by decide +kernel,by decide +kernel,by decide +kernel,by decide +kernel,by decide +kernel,by decide +kernel,by decide +kernel⟩
theorem q2:QOk aA2.2.1 aA2.2.2:=⟨by decide +kernel,by decide +kernel,by decide +kernel,by decide +kernel,by decide +kernel,by decide +kernel,by decide +kernel,by decide +kernel,by decide +kernel⟩
theorem LogAt.le {n0 n1 bl b:Nat} {w:World} {p:Pt} (h:LogAt n1 w bl b p) (hn:n0≤n1):LogAt n0 w bl b p:=⟨Nat.le_trans hn h.1,h.2⟩
theorem strs_new {w:World} {b:Nat} (l:List Str) (h:Box w b 9 (l.map S)) (hl:l.length≤70368744177664) (hx:∀ x∈l,x.length≤9223372036854775807):StrsAt (fun _=>False) w (.slice (some ⟨b,0,none⟩) l.length l.length) l:=strs_of_box l h (fun f=>f) hl hx
end Go.Gx
namespace Go.Gx
open Go.Proofs
def NoL (w:World) (p:Option Addr):Prop:=p=none∨∃ b,p=some ⟨b,0,none⟩∧Box w b 134 zeroLog
theorem NoL.carry {w w':World} {p:Option Addr} (h:NoL w p) (g:Bel w w'):NoL w' p:=by
  rcases h with h | ⟨b,h1,h2⟩
  · exact .inl h
  · exact .inr ⟨b,h1,h2.carry g⟩
end Go.Gx
namespace Go.Gx
open Go.Proofs
def BlsAt (A:Nat→Prop) (w:World) (v:Value) (l:List Bool):Prop:=∃ p cap,v=.slice p l.length cap∧l.length≤cap∧cap≤9223372036854775807∧l.length≤140737488355328∧
  (l≠[]→∃ b o,p=some ⟨b,o,none⟩∧¬ A b∧∀ i,i<l.length→w.cell? ⟨b,o+i,none⟩=some (.bool (l.getD i false)))
theorem BlsAt.one {A:Nat→Prop} {w:World} {v:Value} {l:List Bool} (h:BlsAt A w v l):v.oneCell'=true:=by obtain ⟨_,_,rfl,-⟩:=h;rfl
theorem BlsAt.move {A A':Nat→Prop} {w w':World} {v:Value} {l:List Bool} (hc:∀ (a:Addr) v,¬ A a.block→w.cell? a=some v→w'.cell? a=some v∧¬ A' a.block) (h:BlsAt A w v l):BlsAt A' w' v l:=by
  obtain ⟨p,cap,e,a1,a2,a3,a4⟩:=h;refine ⟨p,cap,e,a1,a2,a3,fun hl=>?_⟩;obtain ⟨b,o,hp,hA,hcell⟩:=a4 hl;have h0:=hc _ _ hA (hcell 0 (List.length_pos_iff.2 hl));exact ⟨b,o,hp,h0.2,fun i hi=>(hc _ _ hA (hcell i hi)).1⟩
structure Wc where
  kind:Int
  bods:List Str
  at':Int
  keep:List Bool
  torn:Int
  cut:Int
instance:Inhabited Wc:=⟨⟨0,[],0,[],0,0⟩⟩
def wcV (a:Wc) (vb vk:Value):List Value:=[.int .i64 a.kind,vb,.int .i64 a.at',vk,.int .i64 a.torn,.int .i64 a.cut]
def WcC (A:Nat→Prop) (w:World) (cs:List Value) (a:Wc):Prop:=∃ vb vk,cs=wcV a vb vk∧StrsAt A w vb a.bods∧BlsAt A w vk a.keep∧∀ s∈a.bods,s.length≤140737488355328
instance car_wc:Car WcC 6 where
  pos:=by omega
  len:=fun ⟨_,_,h,_⟩=>by rw [h];rfl
  one:=fun ⟨vb,vk,h,h1,h2,_⟩=>by
    rw [h];intro v hv
    simp only [wcV,List.mem_cons,List.not_mem_nil,or_false] at hv
    rcases hv with rfl | rfl | rfl | rfl | rfl | rfl
    · rfl
    · exact h1.one
    · rfl
    · exact h2.one
    · rfl
    · rfl
  move:=fun hc ⟨vb,vk,h,h1,h2,h3⟩=>⟨vb,vk,h,by
    obtain ⟨p,cap,e,a1,a2,a3,a4,a5⟩:=h1
    refine ⟨p,cap,e,a1,a2,a3,a4,fun hl=>?_⟩
    obtain ⟨b,o,hp,hA,hcell⟩:=a5 hl
    have h0:=hc _ _ hA (hcell 0 (List.length_pos_iff.2 hl))
    exact ⟨b,o,hp,h0.2,fun i hi=>(hc _ _ hA (hcell i hi)).1⟩,h2.move hc,h3⟩
theorem x_tmod {E:Env} {w:World} {P:Program} {x y:Operand} {t u z:TypeId} {k:IntKind} {a b c:Int} (hx:ev E x=.int k a) (hy:ev E y=.int k b) (hb:b≠0) (hc:a.tmod b=c):X P (.binOp .rem u x y z) t E w (.int k c) w:=by
  unfold X;simp [execOp,hx,hy,go_sem,Op.intDiv,hb,hc]
end Go.Gx
namespace Go.Gx
open Go.Proofs
structure After (D:Dk) (q:Pt) (l:List Str) (r:Int × Dk × Pt):Prop where
  len:r.2.1.pl.length=D.pl.length
  ops:r.2.1.ops≤D.ops+need l / 64+6∧D.ops≤r.2.1.ops
  err:r.1≠0→r.2.1=D∧r.2.2=q
  ep:r.2.2.ep≤q.ep+1
  cnt:r.2.2.cnt≤q.cnt+l.length
  ok:q.ep+1<1000000000→q.cnt+l.length<2000000000→D.ops+need l / 64+6<900000000→QOk r.2.1 r.2.2
theorem After.same {D:Dk} {q:Pt} (h:QOk D q) (l:List Str) (e:Int):After D q l (e,D,q):=
  ⟨rfl,by dsimp only;omega,fun _=>⟨rfl,rfl⟩,by dsimp only;omega,by dsimp only;omega,fun _ _ _=>h⟩
theorem q_new {m:Nat} (h:6≤m):QOk (newD m) pt0:=by
  have e:(newD m).pl.length=m:=by simp [newD]
  exact ⟨by rw [e];exact h,rfl,rfl,rfl,by show 0<_;omega,by decide,by show 0≤_;omega,by decide,by decide⟩
end Go.Gx
