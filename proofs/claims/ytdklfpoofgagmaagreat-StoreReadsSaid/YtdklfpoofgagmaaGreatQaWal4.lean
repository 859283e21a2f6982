/- Logs: small functions. Conditions: none. -/
import Derived.Test.YtdklfpoofgagmaaGreatQaDsk1
import Derived.Test.YtdklfpoofgagmaaGreatQaMore
namespace Go.Gx
open Go.Proofs
theorem kwal4_en83:Go.Proofs.Enters Tryz.prog 83:=Go.Proofs.enters_of Tryz.func83 kr_ rfl
theorem kwal4_en84:Go.Proofs.Enters Tryz.prog 84:=Go.Proofs.enters_of Tryz.func84 kr_ rfl
theorem kwal4_fo134_1:fieldOff Tryz.prog 134 1=some 4:=by kernel_rfl
theorem kwal4_fo134_2:fieldOff Tryz.prog 134 2=some 5:=by kernel_rfl
theorem kwal4_oc35:oneCellT Tryz.prog 35=true:=by kernel_rfl
theorem kwal4_oc4:oneCellT Tryz.prog 4=true:=by kernel_rfl
def logV (p:Pt) (b:Nat) (br:Bool):List Value:=ptV p++[.pointer (some ⟨b,0,none⟩),.bool br]
def LogAt (n0:Nat) (w:World) (bl b:Nat) (p:Pt):Prop:=n0≤bl∧Box w bl 134 (logV p b false)
theorem LogAt.bel {n0 bl b:Nat} {w w':World} {p:Pt} (h:LogAt n0 w bl b p) (g:Bel w w'):LogAt n0 w' bl b p:=⟨h.1,h.2.carry g⟩
theorem log_pt {w:World} {bl:Nat} {T:TypeId} {p:Pt} {rest:List Value} (h:Box w bl T (ptV p++rest)):∀ j,j<4→w.cell? ⟨bl,0+0+j,none⟩=(ptV p)[j]? := fun j hj=>by
  have hl:(ptV p).length=4:=rfl;have e:(ptV p)[j]? = some ((ptV p)[j]'om_):=List.getElem?_eq_getElem om_;rw [e];simp only [Nat.zero_add];exact h.cell (by first | rw [List.getElem?_append_left om_,e] | rw [Nat.zero_add,Nat.zero_add,List.getElem?_append_left om_,e])
def hlf (n:Nat):Nat:=(n - 2) / 2
def roomN (n:Nat):Nat:=hlf n * 64
theorem room_w (n0 b:Nat) (D:Dk) (w:World) (h:DiskAt n0 w b D) (h6:6≤D.pl.length):Ret Tryz.prog 78 #[.pointer (some ⟨b,0,none⟩)] w fun v w'=>v=.int .i64 (roomN D.pl.length:Nat)∧w'=w:=by
  have hs:=h.2.1.small;refine ret_of_W Tryz.func78 rfl (Nat.le_of_ble_eq_true rfl) (res1 rfl) ?_;refine W.seq (W.region (L.val (x_as (v:=.int _ _) rfl) rfl ?_));refine L.nil (thn_n (W.seq (W.region (L.val (x_mv (v:=.pointer _) rfl) rfl ?_))));refine L.ret (x_call kwal4_en83 rfl) rfl (sectors_d n0 b D _ h) ?_;rintro _ w4 ⟨rfl,hq⟩;rw [hq];refine L.val (x_sub rfl rfl (wr64 om_)) rfl ?_;refine L.val (x_quo rfl rfl (by decide) (wq64 om_ (by decide))) rfl ?_;refine L.val (x_mul rfl rfl (wr64 om_)) rfl ?_;refine L.val (x_as (v:=.int _ _) rfl) rfl ?_;refine L.nil (thn_n (W.ret (fin_mk (.inr rfl) ?_)));refine ⟨?_,rfl⟩;unfold roomN hlf;show Value.int .i64 _=_;congr 1;omega
def stN (n half:Nat):Nat:=2+half * hlf n
theorem stN_le {n half:Nat} (h6:6≤n) (hh:half≤1):stN n half+hlf n≤n:=by
  unfold stN;have h1:half * hlf n≤1 * hlf n:=Nat.mul_le_mul_right _ hh;have h2:2+2 * hlf n≤n:=by unfold hlf;omega
  omega
theorem start_w (n0 b:Nat) (D:Dk) (half:Nat) (w:World) (h:DiskAt n0 w b D) (h6:6≤D.pl.length) (hh:half≤1):Ret Tryz.prog 88 #[.pointer (some ⟨b,0,none⟩),.int .i64 (half:Nat)] w fun v w'=>v=.int .i64 (stN D.pl.length half:Nat)∧w'=w:=by
  unfold stN;have hs:=h.2.1.small;have hm:(half:Int) * ((((D.pl.length:Nat):Int) - 2) / 2)=((half * hlf D.pl.length:Nat):Int):=by
    have:(((D.pl.length:Nat):Int) - 2) / 2=((hlf D.pl.length:Nat):Int):=by unfold hlf;omega
    rw [this];rfl
  have hb:half * hlf D.pl.length≤4096:=by
    have h1:half * hlf D.pl.length≤1 * hlf D.pl.length:=Nat.mul_le_mul_right _ hh;have h2:hlf D.pl.length≤4096:=by unfold hlf;omega
    omega
  generalize half * hlf D.pl.length=z at hm hb ⊢;refine ret_of_W Tryz.func88 rfl (Nat.le_of_ble_eq_true rfl) (res1 rfl) ?_;refine W.seq (W.region (L.val (x_as (v:=.int _ _) rfl) rfl ?_));refine L.nil (thn_n (W.seq (W.region (L.val (x_mv (v:=.int _ _) rfl) rfl ?_))));refine L.val (x_mv (v:=.pointer _) rfl) rfl ?_;refine L.ret (x_call kwal4_en83 rfl) rfl (sectors_d n0 b D _ h) ?_;rintro _ w7 ⟨rfl,hq⟩;rw [hq];refine L.val (x_sub rfl rfl (wr64 om_)) rfl ?_;refine L.val (x_quo rfl rfl (by decide) (wq64 om_ (by decide))) rfl ?_;refine L.val (x_mul rfl rfl ((congrArg IntKind.i64.wrap hm).trans (wr64 om_))) rfl ?_;refine L.val (x_add rfl rfl (wr64 om_)) rfl ?_;refine L.val (x_as (v:=.int _ _) rfl) rfl ?_;refine L.nil (thn_n (W.ret (fin_mk (.inr rfl) ?_)));refine ⟨?_,rfl⟩;show Value.int .i64 _=_;congr 1
theorem alive_w (n0 bl b:Nat) (D:Dk) (p:Pt) (w:World) (h:DiskAt n0 w b D) (hl:LogAt n0 w bl b p) (hd:D.dead=false):Ret Tryz.prog 75 #[.pointer (some ⟨bl,0,none⟩)] w fun v w'=>v=.int .i64 0∧w'=w:=by
  have hb:=hl.2;refine ret_of_W Tryz.func75 rfl (Nat.le_of_ble_eq_true rfl) (res1 rfl) ?_;refine W.seq (W.region (L.val (x_as (v:=.int _ _) rfl) rfl ?_));refine L.nil (thn_n (W.seq (W.block (W.seq (W.region (L.val (x_mv (v:=.pointer _) rfl) rfl ?_))))));refine L.val (x_eqp0 Tryz.underlying98 rfl rfl) rfl ?_;refine L.val (x_mv (v:=.bool _) rfl) rfl ?_;refine L.splitat (dj:=6) (b:=_) rfl (fun g6=>?_) (fun g6=>?_)
  ·have h6:=g6;cases g6
  ·have h6:=g6;refine L.gyes' (dj:=6) (b:=_) rfl rfl g6 ?_;refine L.val (x_mv (v:=.pointer _) rfl) rfl ?_;refine L.gyes' (dj:=6) (b:=_) rfl rfl g6 ?_;refine L.val (x_nil rfl) rfl ?_;refine L.gyes' (dj:=6) (b:=_) rfl rfl g6 ?_;refine L.val (x_fa kwal4_fo134_1 rfl) rfl ?_;refine L.gyes' (dj:=6) (b:=_) rfl rfl g6 ?_;refine L.val (x_ld (v:=.pointer _) kwal4_oc35 rfl (hb.cell0 rfl)) rfl ?_;refine L.gyes' (dj:=6) (b:=_) rfl rfl g6 ?_;refine L.val (x_eqp0 Tryz.underlying35 rfl rfl) rfl ?_;refine L.val (x_pick_f (v:=.bool _) (congrArg Value.bool g6) rfl) rfl ?_;refine L.val (x_as (v:=.bool _) rfl) rfl ?_;refine L.nil (thn_n (W.cond (b:=_) rfl (fun g11=>?_) (fun g11=>?_)))
   ·have h11:=g11;cases g11
   ·have h11:=g11;refine W.seq (W.region (L.val (x_mv (v:=.pointer _) rfl) rfl ?_));refine L.val (x_nil rfl) rfl ?_;refine L.val (x_fa kwal4_fo134_2 rfl) rfl ?_;refine L.val (x_ld (v:=.bool _) kwal4_oc4 rfl (hb.cell0 rfl)) rfl ?_;refine L.val (x_mv (v:=.bool _) rfl) rfl ?_;refine L.splitat (dj:=18) (b:=_) rfl (fun g18=>?_) (fun g18=>?_)
    ·have h18:=g18;cases g18
    ·have h18:=g18;refine L.gyes' (dj:=18) (b:=_) rfl rfl g18 ?_;refine L.val (x_mv (v:=.pointer _) rfl) rfl ?_;refine L.gyes' (dj:=18) (b:=_) rfl rfl g18 ?_;refine L.val (x_nil rfl) rfl ?_;refine L.gyes' (dj:=18) (b:=_) rfl rfl g18 ?_;refine L.val (x_fa kwal4_fo134_1 rfl) rfl ?_;refine L.gyes' (dj:=18) (b:=_) rfl rfl g18 ?_;refine L.val (x_ld (v:=.pointer _) kwal4_oc35 rfl (hb.cell0 rfl)) rfl ?_;refine L.gyes' (dj:=18) (b:=_) rfl rfl g18 ?_;refine L.ret (x_call kwal4_en84 rfl) rfl (dead_d n0 b D _ h) ?_;rintro _ w23 ⟨rfl,hq⟩;rw [hq];refine L.val (x_pick_f (v:=.bool _) (congrArg Value.bool g18) rfl) rfl ?_;refine L.val (x_as (v:=.bool _) rfl) rfl ?_;refine L.nil (thn_n (W.cond (b:=_) rfl (fun g23=>?_) (fun g23=>?_)))
     ·have h23:=g23;rw [hd] at g23;cases g23
     ·have h23:=g23;refine W.skip (blk_n (thn_n (W.seq (W.region (L.val (x_as (v:=.int _ _) rfl) rfl ?_)))));refine L.nil (thn_n (W.ret (fin_mk (.inr rfl) ?_)));exact ⟨rfl,rfl⟩
theorem alive_nil (w:World):Ret Tryz.prog 75 #[.pointer none] w fun v w'=>v=.int .i64 1∧w'=w:=by
  refine ret_of_W Tryz.func75 rfl (Nat.le_of_ble_eq_true rfl) (res1 rfl) ?_;refine W.seq (W.region (L.val (x_as (v:=.int _ _) rfl) rfl ?_));refine L.nil (thn_n (W.seq (W.block (W.seq (W.region (L.val (x_mv (v:=.pointer _) rfl) rfl ?_))))));refine L.val (x_eqp0 Tryz.underlying98 rfl rfl) rfl ?_;refine L.val (x_mv (v:=.bool _) rfl) rfl ?_;refine L.splitat (dj:=6) (b:=_) rfl (fun g6=>?_) (fun g6=>?_)
  ·have h6:=g6;(iterate 5 refine L.gno (dj:=6) (b:=_) rfl rfl g6 rfl ?_);refine L.val (x_pick_t (v:=.bool _) (congrArg Value.bool g6) rfl) rfl ?_;refine L.val (x_as (v:=.bool _) rfl) rfl ?_;refine L.nil (thn_n (W.cond (b:=true) rfl (fun _=>?_) (fun h=>nomatch h)));refine W.seq (W.region (L.val (x_as (v:=.int _ _) rfl) rfl ?_));refine L.nil (thn_n (W.ret (blk_r (thn_r (fin_mk (.inr rfl) ?_)))));exact ⟨rfl,rfl⟩
  ·have h6:=g6;cases g6
def zeroLog:List Value:=[.int .u64 0,.int .i64 0,.int .i64 0,.int .i64 0,.pointer none,.bool false]
end Go.Gx
namespace Go.Gx
open Go.Proofs
theorem lg_of_dk:∀ T,dkTy T=true→lgTy T=true:=fun T h=>by unfold lgTy;rw [h];rfl
theorem LogAt.dg {n0 n1 bl b:Nat} {w w':World} {p:Pt} (h:LogAt n0 w bl b p) (g:Dg dkTy n1 w w'):LogAt n0 w' bl b p:=⟨h.1,h.2.dg g rfl⟩
theorem DiskAt.log {n0 bl b b':Nat} {w w':World} {p:Pt} {D:Dk} (h:DiskAt n0 w b' D) (hl:LogAt n0 w bl b p) (g:Gr (fun k=>k=bl) w w'):DiskAt n0 w' b' D:=
  h.carryR g (fun k e=>⟨_,_,e ▸ hl.2,by decide,by decide,by decide⟩)
theorem Dg.log {n0 bl b:Nat} {w w':World} {p:Pt} (hl:LogAt n0 w bl b p) (g:Gr (fun k=>k=bl) w w'):Dg lgTy n0 w w':=
  Gr.mono g (fun k _ e=>by have e:k=bl:=e;rw [e];exact DkB.box hl.2 kr_ hl.1)
end Go.Gx
namespace Go.Gx
variable {P:Program} {ops:Array Oper} {Q:Exit→Act→World→Prop} {C0 C1:World→Prop}
def lastN:Nat→List Nat→Nat
  | a,[]=>a
  | _,b :: r=>lastN b r
def linkB (ops:Array Oper):Nat→List Nat→Bool
  | _,[]=>true
  | a,b :: r=>((ops[a]?).map (fun o=>o.after.any fun e=>Region.binds .any e && Nat.beq e.on b)).getD false && linkB ops b r
def closeB (listed:Array Bool):Nat→List Nat→Bool
  | _,[]=>true
  | a,b :: r=>(!listed.getD a false || listed.getD b false) && closeB listed b r
theorem closeB.last {listed:Array Bool}:∀ (p:List Nat) (a:Nat),closeB listed a p=true→listed.getD a false=true→listed.getD (lastN a p) false=true
  | [],_,_,h=>h
  | b :: r,a,h,h1=>by
    simp only [closeB,Bool.and_eq_true,Bool.or_eq_true,Bool.not_eq_true'] at h;refine closeB.last r b h.2 ?_;rcases h.1 with h2 | h2
    · rw [h1] at h2;cases h2
    · exact h2
theorem closeB.step {listed:Array Bool} {j:Nat} (hj:j∈Region.ready .any ops listed):∀ (p:List Nat) (a:Nat),linkB ops a p=true→closeB listed a p=true→closeB (listed.setIfInBounds j true) a p=true
  | [],_,_,_=>rfl
  | b :: r,a,hl,h=>by
    simp only [linkB,closeB,Bool.and_eq_true,Bool.or_eq_true,Bool.not_eq_true'] at hl h ⊢;refine ⟨?_,closeB.step hj r b hl.2 h.2⟩;obtain ⟨hjun,oj,hoj,hall⟩:=mem_ready.1 hj;have mono:∀ k,listed.getD k false=true→(listed.setIfInBounds j true).getD k false=true:=fun k hk=>by
      by_cases e:j=k
      · subst e;rw [unlisted hjun] at hk;cases hk
      · rw [getD_set_ne false e];exact hk
    by_cases e:j=a
    · subst e;refine .inr (mono b ?_);rw [hoj] at hl;simp only [Option.map_some,Option.getD_some] at hl;obtain ⟨e,he,hb⟩:=Array.any_eq_true'.1 hl.1;simp only [Bool.and_eq_true] at hb;have:=hall e he hb.1
      rwa [Nat.eq_of_beq_eq_true hb.2] at this
    · rcases h.1 with h1 | h1
      · exact .inl (by rw [getD_set_ne false e];exact h1)
      · exact .inr (mono b h1)
theorem wpAnyD.takeP {i st:Nat} {oi:Oper} {v:Value} {p:List Nat} (hi:ops[i]? = some oi) (hsel:∀ (j:Nat) (o:Oper) cs b,ops[j]? = some o→o.op≠.select cs b)
    (hQ:∀ c a w,Q (.panic c) (a.put oi.dst v) w→Q (.panic c) a w) (hlk:linkB ops st p=true) (hla:lastN st p=i) (hne:st≠i):
    ∀ (fuel:Nat) (listed:Array Bool) (a:Act) (w:World),
      closeB listed st p=true→
      (∀ j oj,ops[j]? = some oj→j≠i→listed.getD j true=false→(∀ e∈oj.after,Region.binds .any e=true→e.on≠i)→oi.apart ops oj=true)→
      i∈Region.ready .any ops listed→YF P ops C1 oi v a→
      wpAnyD P ops C0 C1 st Q fuel (listed.setIfInBounds i true) (a.put oi.dst v) w→wpAnyD P ops C0 C1 st Q (fuel+1) listed a w:=by
  intro fuel;induction fuel with
  | zero=>
    intro listed a w hcl _ hr hy H;have hun:=(mem_ready.1 hr).1;have hst0:listed.getD st false=false:=by
      cases hh:listed.getD st false
      · rfl
      · have:=closeB.last p st hcl hh;rw [hla,unlisted hun] at this;cases this
    have hC:C1 w:=H.2.1 (by rw [getD_set_ne false hne.symm];exact hst0);refine ⟨H.1,fun _=>hC,fun h=>(by rw [h] at hr;cases hr),fun j hj=>?_⟩;by_cases hji:j=i
    · subst hji;exact hy.take hi hC H
    · have:=ready_mono hj hji;rw [H.2.2.1] at this;cases this
  | succ fuel ih=>
    intro listed a w hcl hfree hr hy H;have hun:=(mem_ready.1 hr).1;have hst0:listed.getD st false=false:=by
      cases hh:listed.getD st false
      · rfl
      · have:=closeB.last p st hcl hh;rw [hla,unlisted hun] at this;cases this
    have hC:C1 w:=H.2.1 (by rw [getD_set_ne false hne.symm];exact hst0);refine ⟨H.1,fun _=>hC,fun h=>(by rw [h] at hr;cases hr),fun j hj=>?_⟩;by_cases hji:j=i
    · subst hji;exact hy.take hi hC H
    · have h1:=H.2.2.2 j (ready_mono hj hji);obtain ⟨hjun,oj,hoj,hall⟩:=mem_ready.1 hj;have hnot:∀ e∈oj.after,Region.binds .any e=true→e.on≠i:=fun e he hb heq=>by
        have h1:=hall e he hb;rw [heq,unlisted hun] at h1;cases h1
      have h2:=wpOp_lateF hoj (hfree j oj hoj hji hjun hnot) (fun cs b=>hsel i oi cs b hi) (fun cs b=>hsel j oj cs b hoj) hQ hy h1;refine wpOp_mono (fun a' w' h3=>ih (listed.setIfInBounds j true) a' w' (closeB.step hj p st hlk hcl) (fun k ok hk hki hu hno=>?_) (ready_mono hr (Ne.symm hji)) h3.1 ?_) h2
      · refine hfree k ok hk hki ?_ hno;by_cases hjk:j=k
        · subst hjk;exact hjun
        · rw [getD_set_ne true hjk] at hu;exact hu
      · rw [Array.setIfInBounds_comm _ _ hji];exact h3.2
section
variable {n st:Nat} {K:List Deferred→Env→World→Prop} {D:List Deferred} {E:Env} {w:World}
theorem LAD.takeP {fuel:Nat} {listed:Array Bool} {i d:Nat} {op:Op} {t:TypeId} {q:String} {af:Array Edge} {v:Value} (p:List Nat)
    (ho:ops[i]? = some ⟨some d,op,t,q,af,none⟩) (hs:Region.noSelect ops=true) (hf:Region.free .any ops listed i=true) (hr:(Region.ready .any ops listed).contains i=true) (hne:Nat.beq st i=false)
    (hlk:(linkB ops st p && Nat.beq (lastN st p) i)=true) (hl:closeB listed st p=true)
    (hx:∀ w,C1 w→X P op t E w v w) (hd:Nat.blt d n=true) (k:LAD P n ops C0 C1 st K fuel (listed.setIfInBounds i true) D (upd E d v) w):LAD P n ops C0 C1 st K (fuel+1) listed D E w:=by
  intro a ha;simp only [Bool.and_eq_true] at hlk;refine wpAnyD.takeP ho (Region.noSelect_spec hs) ?_ hlk.1 (Nat.eq_of_beq_eq_true hlk.2) (fun h=>by subst h;simp at hne) fuel listed a w hl (Region.free_spec ho hf) (by simpa using hr)
    (.inl ⟨by simp [Region.wanted],fun w hw=>?_⟩) (k _ (ha.put v hd))
  · rintro c a w ⟨_,E,_,h,_⟩;cases h
  · have:=hx w hw;unfold X at this;rw [execOp_bare,ha.eval];exact this
end
end Go.Gx
namespace Go.Gx
open Go.Proofs
theorem DiskAt.carry {n0 b:Nat} {w w':World} {D:Dk} (h:DiskAt n0 w b D) (g:Bel w w'):DiskAt n0 w' b D:=h.bel g
theorem LogAt.carry {n0 bl b:Nat} {w w':World} {p:Pt} (h:LogAt n0 w bl b p) (g:Bel w w'):LogAt n0 w' bl b p:=h.bel g
theorem Dg.carry {ty:TypeId→Bool} {n0:Nat} {w w' w'':World} (h:Dg ty n0 w w') (g:Bel w' w''):Dg ty n0 w w'':=h.trans (Dg.of_bel g)
def pad (s:Str):Str:=s++zeros (64 - s.length)
theorem pad_len {s:Str} (h:s.length≤64):(pad s).length=64:=by unfold pad;rw [List.length_append,zeros_len];omega
def ckS (all:Str) (j:Nat):Str:=pad ((all.drop (64 * j)).take 64)
theorem ckS_len (all:Str) (j:Nat):(ckS all j).length=64:=pad_len (by rw [List.length_take];omega)
def wrC (D:Dk) (st:Nat) (all:Str) (j:Nat):Dk:={ D with ca:=D.ca++(List.range j).map (fun k=>(st+k,ckS all k)),ops:=D.ops+j }
def allS (D:Dk) (p:Pt) (at':Nat) (s:Str):Str:=if at' % 64=0 then s else (rdD D (stN D.pl.length p.half+at' / 64)).take (at' % 64)++s
def wrs (D:Dk) (p:Pt) (at':Nat) (s:Str):Dk:=
  wrC D (stN D.pl.length p.half+at' / 64) (allS D p at' s) (if s=[] then 0 else ((allS D p at' s).length+63) / 64)
def comD (D:Dk) (p:Pt) (at':Nat) (s:Str):Dk:=flD (wrD (flD (wrD (wrs D p at' s) (p.ep % 2) (zeros 64))) (p.ep % 2) (hdrS p))
theorem rdD_len {D:Dk} (h:DkOk D) {i:Nat} (hi:i<D.pl.length):(rdD D i).length=64:=by
  unfold rdD;cases hq:D.ca.reverse.find? (fun y=>y.1 == i) with
  | none=>exact h.sec _ (by rw [List.getD_eq_getElem?_getD,List.getElem?_eq_getElem hi];exact List.getElem_mem hi)
  | some x=>exact (h.cac x (by have:=List.mem_of_find?_eq_some hq;simpa using this)).2
theorem allS_len {D:Dk} (h:DkOk D) {p:Pt} {at':Nat} {s:Str} (h6:6≤D.pl.length) (hh:p.half≤1) (hr:at'≤roomN D.pl.length):(allS D p at' s).length=at' % 64+s.length:=by
  unfold allS;have:=stN_le h6 hh;unfold roomN at hr;split
  · omega
  · rw [List.length_append,List.length_take,rdD_len h om_];omega
theorem hdrS_len (p:Pt):(hdrS p).length=64:=by simp [hdrS,turnS,ptS_len,zeros_len]
end Go.Gx
namespace Go.Gx
open Go.Proofs
theorem kwal7_en75:Go.Proofs.Enters Tryz.prog 75:=Go.Proofs.enters_of Tryz.func75 kr_ rfl
def need (l:List Str):Nat:=(l.map fun s=>min s.length 30000+13).sum
theorem makeS_le (l:List Str):(makeS l).1.length≤need l:=by
  unfold makeS;split
  · exact Nat.zero_le _
  · rename_i h
    exact flat_frm (by simpa using h)
theorem len_need (l:List Str):l.length≤need l:=by
  induction l with
  | nil=>exact Nat.zero_le _
  | cons x l ih=>simp only [need,List.map_cons,List.sum_cons,List.length_cons] at ih ⊢;omega
def appP (q:Pt) (l:List Str):Pt:=⟨q.ep+1,q.half,q.tail+(makeS l).1.length,q.cnt+l.length⟩
def appA (D:Dk) (q:Pt) (l:List Str):Int × Dk × Pt:=
  if (makeS l).2=0∧l≠[] then (if roomN D.pl.length<q.tail+(makeS l).1.length then (210,D,q) else (0,comD D (appP q l) q.tail (makeS l).1,appP q l)) else ((makeS l).2,D,q)
def turnP (q:Pt) (l:List Str):Pt:=⟨q.ep+1,1 - q.half,(makeS l).1.length,l.length⟩
structure QOk (D:Dk) (q:Pt):Prop where
  h6:6≤D.pl.length
  arm:D.armed=0
  live:D.dead=false
  ca:D.ca=[]
  ops:D.ops<900000000
  half:q.half≤1
  tail:q.tail≤roomN D.pl.length
  ep:q.ep<1000000000
  cnt:q.cnt<2000000000
theorem roomN_le {n:Nat} (h:n≤4096):roomN n≤1000000:=by unfold roomN hlf;omega
theorem append_nil (v:Value) (w:World):Ret Tryz.prog 41 #[.pointer none,v] w fun v w'=>v=.int .i64 1∧w'=w:=by
  refine ret_of_W Tryz.func41 rfl (Nat.le_of_ble_eq_true rfl) (res1 rfl) ?_;refine W.seq (W.region (L.val (x_as (v:=.int _ _) rfl) rfl ?_));refine L.nil (thn_n (W.seq (W.seq (W.region (L.val (x_mv (v:=.pointer _) rfl) rfl ?_)))));refine L.ret (x_call kwal7_en75 rfl) rfl (alive_nil _) ?_;rintro _ w9 ⟨rfl,hq9⟩;rw [hq9];refine L.val (x_as (v:=.int _ _) rfl) rfl ?_;refine L.nil (thn_n (W.seq (W.region (L.val (x_mv (v:=.int _ _) rfl) rfl ?_))));refine L.val (x_neq rfl rfl) rfl ?_;refine L.nil (thn_n (W.cond (b:=_) rfl (fun g11=>?_) (fun g11=>?_)))
  ·have h11:=dne_t g11;refine W.seq (W.region (L.val (x_mv (v:=.int _ _) rfl) rfl ?_));refine L.val (x_as (v:=.int _ _) rfl) rfl ?_;refine L.nil (thn_n (W.ret (thn_r (fin_mk (.inr rfl) ?_))));exact ⟨rfl,rfl⟩
  ·have h11:=dne_f g11;cases g11
end Go.Gx
