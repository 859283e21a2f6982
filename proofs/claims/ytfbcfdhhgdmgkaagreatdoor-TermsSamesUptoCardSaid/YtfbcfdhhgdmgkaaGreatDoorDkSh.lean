/- Types as trees: the plain functions, and the reference's and the program's walks over them. Conditions: none. -/
import Derived.Test.YtfbcfdhhgdmgkaaGreatDoorDkLex
namespace Go.Gx
open Go.Proofs
theorem ksh_ag45:aggT Tryz.prog 45 5=true:=by kernel_rfl
theorem ksh_en103:Go.Proofs.Enters Tryz.prog 103:=Go.Proofs.enters_of Tryz.func103 kr_ rfl
theorem ksh_en104:Go.Proofs.Enters Tryz.prog 104:=Go.Proofs.enters_of Tryz.func104 kr_ rfl
theorem ksh_en105:Go.Proofs.Enters Tryz.prog 105:=Go.Proofs.enters_of Tryz.func105 kr_ rfl
theorem ksh_en125:Go.Proofs.Enters Tryz.prog 125:=Go.Proofs.enters_of Tryz.func125 kr_ rfl
theorem ksh_en143:Go.Proofs.Enters Tryz.prog 143:=Go.Proofs.enters_of Tryz.func143 kr_ rfl
theorem ksh_en57:Go.Proofs.Enters Tryz.prog 57:=Go.Proofs.enters_of Tryz.func57 kr_ rfl
theorem ksh_en60:Go.Proofs.Enters Tryz.prog 60:=Go.Proofs.enters_of Tryz.func60 kr_ rfl
theorem ksh_fo45_0:fieldOff Tryz.prog 45 0=some 0:=by kernel_rfl
theorem ksh_fo45_1:fieldOff Tryz.prog 45 1=some 1:=by kernel_rfl
theorem ksh_fo45_2:fieldOff Tryz.prog 45 2=some 2:=by kernel_rfl
theorem ksh_fo45_3:fieldOff Tryz.prog 45 3=some 3:=by kernel_rfl
theorem ksh_fo45_4:fieldOff Tryz.prog 45 4=some 4:=by kernel_rfl
theorem ksh_mixed:Tryz.prog.follows .mixedOrders=true:=by kernel_rfl
theorem ksh_oc22:oneCellT Tryz.prog 22=true:=by kernel_rfl
theorem ksh_oc23:oneCellT Tryz.prog 23=true:=by kernel_rfl
theorem ksh_oc3:oneCellT Tryz.prog 3=true:=by kernel_rfl
theorem ksh_oc9:oneCellT Tryz.prog 9=true:=by kernel_rfl
theorem ksh_sz45:(Tryz.prog.info? 45).map (·.size)=some 5:=by kernel_rfl
theorem ksh_sz9:(Tryz.prog.info? 9).map (·.size)=some 1:=by kernel_rfl
mutual
def Sh.size:Sh→Nat | .mk _ _ _ _ ps=>1+sizeL ps
def sizeL:List Sh→Nat | []=>0 | p :: ps=>p.size+sizeL ps
end
mutual
def Sh.deep:Sh→Nat | .mk _ _ _ _ ps=>1+deepL ps
def deepL:List Sh→Nat | []=>0 | p :: ps=>max p.deep (deepL ps)
end
theorem sizeL_take {l:List Sh} {k:Nat} (hk:k<l.length):sizeL (l.take (k+1))=sizeL (l.take k)+(l.getD k default).size:=by
  induction l generalizing k with
  | nil=>simp at hk
  | cons x l ih=>
    cases k with
    | zero=>simp [sizeL]
    | succ k=>have:=ih (k:=k) (by simpa using hk);simp only [List.take_succ_cons,sizeL,this,List.getD_cons_succ];omega
theorem sizeL_le {l:List Sh} {k:Nat}:sizeL (l.take k)≤sizeL l:=by
  induction l generalizing k with
  | nil=>simp
  | cons x l ih=>cases k with
    | zero=>simp [sizeL]
    | succ k=>have:=ih (k:=k);simp only [List.take_succ_cons,sizeL];omega
theorem deepL_take {l:List Sh} {k:Nat} (hk:k<l.length):deepL (l.take (k+1))=max (deepL (l.take k)) (l.getD k default).deep:=by
  induction l generalizing k with
  | nil=>simp at hk
  | cons x l ih=>
    cases k with
    | zero=>simp [deepL]
    | succ k=>have:=ih (k:=k) (by simpa using hk);simp only [List.take_succ_cons,deepL,this,List.getD_cons_succ];omega
theorem Sh.size_eq (s:Sh):s.size=1+sizeL s.parts:=by cases s;rfl
theorem Sh.deep_eq (s:Sh):s.deep=1+deepL s.parts:=by cases s;rfl
theorem size07:∀ (N:Nat) (s:Sh),SizeOf.sizeOf s<N→∀ (A:Nat→Prop) (cs:List Value) (m:Int) (w:World),0≤m→m≤1000000→ShC A w cs s→
    Ret Tryz.prog 103 #[.agg cs.toArray,.int .i64 m] w fun v w'=>v=.int .i64 (min (s.size:Int) (m+1))∧Bel w w':=by
  intro N;induction N with
  | zero=>intro s h;omega
  | succ N ih=>
    intro s hN A cs m w hm0 hm1 hs;obtain ⟨vn,vp,rfl,hn,hp,hof,hnm⟩:=hs.inv;obtain ⟨p,cap,row,rfl,p1,p2,p3,hr⟩:=hp;refine ret_of_W Tryz.func103 rfl (Nat.le_of_ble_eq_true rfl) (res1 rfl) ?_;have hB:=Gr.refl (fun _=>False) w;refine W.seq (W.region (L.box (cs:=_) rfl rfl (fun w2 bx2 hw hz2=>?_)));have hB:=hB.carry hw;have hr:=hr.carry hw;refine L.val (x_as (v:=.int _ _) rfl) rfl ?_;refine L.nil (thn_n (W.seq (W.region (L.val (x_as (v:=.int _ _) rfl) rfl ?_))));refine L.nil (thn_n (W.seq (W.seq (W.region (L.val (x_as (v:=.int _ _) rfl) rfl ?_)))));refine L.nil (thn_n (W.block (W.loop (fun m' E w'=>Bel w w'∧ShRow A w' p row s.parts∧Box w' w.heap.size 45 [.int .i64 s.kind,S s.of,S s.name,vn,.slice p s.parts.length cap]∧∃ k:Nat,k≤s.parts.length∧m'=s.parts.length - k∧E 6=.int .i64 (k:Nat)∧E 5=.int .i64 (min (1+(sizeL (s.parts.take k):Int)) (m+1))∧E 1=.int .i64 m∧E 2=.pointer (some ⟨w.heap.size,0,none⟩)) (s.parts.length) ?_ ?_)))
    ·refine ⟨hB,hr,bx2,0,by omega,rfl,rfl,?_,rfl,rfl⟩;show Value.int .i64 1=_;rw [List.take_zero];exact vi (by simp only [sizeL];omega)
    ·rintro m' E w0 ⟨hB,hr,bx2,k,hk,rfl,e6,e5,e1,e2⟩;rw [upd_self e6,upd_self e5,upd_self e1,upd_self e2];refine W.seq (W.seq (W.region (L.val (x_mv (v:=.int _ _) rfl) rfl ?_)));refine L.val (x_fa ksh_fo45_4 rfl) rfl ?_;refine L.val (x_ld (v:=.slice _ _ _) ksh_oc23 rfl (bx2.cell0 rfl)) rfl ?_;refine L.val (x_len_slice Tryz.underlying23 rfl) rfl ?_;refine L.val (x_lss rfl rfl) rfl ?_;refine L.val (x_mv (v:=.bool _) rfl) rfl ?_;refine' L.group0 3 13 15 15 12 true rfl ?_ ?_ ?_;rotate_left 1
     ·intro g12;have h12:=of_decide_eq_true g12;refine L.gyes' (dj:=12) (b:=_) rfl rfl g12 ?_;refine L.val (x_mv (v:=.int _ _) rfl) rfl ?_;refine L.gyes' (dj:=12) (b:=_) rfl rfl g12 ?_;refine L.val (x_mv (v:=.int _ _) rfl) rfl ?_;refine L.gyes' (dj:=12) (b:=_) rfl rfl g12 ?_;refine L.val (x_leq rfl rfl) rfl ?_;refine L.nil (thn_n ⟨rfl,rfl,?_,rfl⟩);repeat (first | exact jeq.refl _ _ _ | refine jeq.upd rfl ?_ | refine jeq.jk rfl rfl ?_)
     ·intro g12;(iterate 3 refine L.gno (dj:=12) (b:=_) rfl rfl g12 rfl ?_);refine L.nil (thn_n ⟨rfl,rfl,?_⟩);repeat (first | exact jeq.refl _ _ _ | refine jeq.upd rfl ?_ | refine jeq.jk rfl rfl ?_)
     intro J12 j12;refine L.val (x_and rfl j12) rfl ?_;refine L.nil (thn_n (W.cond (b:=_) rfl (fun g16=>?_) (fun g16=>?_)))
     ·have h16:=g16;simp only [Bool.and_eq_true,decide_eq_true_eq] at h16;have hlt:k<s.parts.length:=by omega
      obtain ⟨b,o,rfl,hc⟩:=hr.elem hlt;have hst:=sizeL_take hlt;refine W.skip (thn_n (W.seq (W.block (W.region (L.val (x_mv (v:=.int _ _) rfl) rfl ?_)))));refine L.val (x_fa ksh_fo45_4 rfl) rfl ?_;refine L.val (x_ld (v:=.slice _ _ _) ksh_oc23 rfl (bx2.cell0 rfl)) rfl ?_;refine L.val (x_mv (v:=.int _ _) rfl) rfl ?_;refine L.val (x_ia  Tryz.underlying23 ksh_sz45 rfl rfl rfl om_) rfl ?_;refine L.val (x_ldn (vs:=row k) ksh_ag45 rfl (hr.five k hlt) hc) rfl ?_;refine L.val (x_mv (v:=.int _ _) rfl) rfl ?_;refine L.val (x_mv (v:=.int _ _) rfl) rfl ?_;refine L.val (x_sub rfl rfl (wr64 om_)) rfl ?_;refine L.ret (x_call ksh_en103 rfl) rfl (ih _ (by have:=Sh.part_lt hlt;omega) A _ _ _ om_ om_ (hr.each k hlt)) ?_;rintro _ w28 ⟨rfl,hw⟩;have hB:=hB.carry hw;have hr:=hr.carry hw;have bx2:=bx2.carry hw;refine L.val (x_add rfl rfl (wr64 om_)) rfl ?_;refine L.val (x_as (v:=.int _ _) rfl) rfl ?_;refine L.nil (blk_n (thn_n (W.region (L.val (x_mv (v:=.int _ _) rfl) rfl ?_))));refine L.val (x_add rfl rfl (wr64 om_)) rfl ?_;refine L.val (x_as (v:=.int _ _) rfl) rfl ?_;refine L.nil (thn_n ⟨rfl,?_⟩);refine ⟨s.parts.length - (k+1),by omega,hB,hr,bx2,k+1,by omega,rfl,rfl,?_,rfl,rfl⟩;exact vi (by rw [hst];omega)
     ·have h16:=g16;refine W.exit (thn_x (thn_x (blk_hit ?_)));refine thn_n (W.seq (W.region (L.val (x_mv (v:=.int _ _) rfl) rfl ?_)));refine L.val (x_as (v:=.int _ _) rfl) rfl ?_;refine L.nil (thn_n (W.ret (fin_mk (.inr rfl) ?_)));refine ⟨vi ?_,hB⟩;rw [Sh.size_eq];have hle:=sizeL_le (l:=s.parts) (k:=k);rcases Nat.lt_or_ge k s.parts.length with hlt | hge
      · have:decide ((k:Int)<(s.parts.length:Int))=true:=by simp;omega
        rw [this,Bool.true_and] at h16;have:=of_decide_eq_false h16;omega
      · rw [List.take_of_length_le hge];omega
mutual
theorem Sh.deep_le:∀ s:Sh,s.deep≤s.size
  | .mk _ _ _ _ ps=>by have:=deepL_le ps;simp only [Sh.deep,Sh.size];omega
theorem deepL_le:∀ l:List Sh,deepL l≤sizeL l
  | []=>Nat.le_refl _
  | p :: ps=>by have:=Sh.deep_le p;have:=deepL_le ps;simp only [deepL,sizeL];omega
end
theorem Sh.part_size {s:Sh} {i:Nat} (h:i<s.parts.length):(s.parts.getD i default).size<s.size:=by
  rw [Sh.size_eq s];have h1:=sizeL_take h;have h2:=sizeL_le (l:=s.parts) (k:=i+1);omega
theorem deep07:∀ (N:Nat) (s:Sh),SizeOf.sizeOf s<N→s.size≤1000000→∀ (A:Nat→Prop) (cs:List Value) (w:World),ShC A w cs s→
    Ret Tryz.prog 104 #[.agg cs.toArray] w fun v w'=>v=.int .i64 (s.deep:Nat)∧Bel w w':=by
  intro N;induction N with
  | zero=>intro s h;omega
  | succ N ih=>
    intro s hN hS A cs w hs;obtain ⟨vn,vp,rfl,hn,hp,hof,hnm⟩:=hs.inv;obtain ⟨p,cap,row,rfl,p1,p2,p3,hr⟩:=hp;have hdl:deepL s.parts≤1000000:=by have:=Sh.deep_le s;rw [Sh.deep_eq] at this;omega
    refine ret_of_W Tryz.func104 rfl (Nat.le_of_ble_eq_true rfl) (res1 rfl) ?_;have hB:=Gr.refl (fun _=>False) w;refine W.seq (W.region (L.box (cs:=_) rfl rfl (fun w1 bx1 hw hz1=>?_)));have hB:=hB.carry hw;have hr:=hr.carry hw;refine L.val (x_as (v:=.int _ _) rfl) rfl ?_;refine L.nil (thn_n (W.seq (W.region (L.val (x_as (v:=.int _ _) rfl) rfl ?_))));refine L.nil (thn_n (W.seq (W.seq (W.region (L.val (x_as (v:=.int _ _) rfl) rfl ?_)))));refine L.nil (thn_n (W.block (W.loop (fun m' E w'=>Bel w w'∧ShRow A w' p row s.parts∧Box w' w.heap.size 45 [.int .i64 s.kind,S s.of,S s.name,vn,.slice p s.parts.length cap]∧∃ k:Nat,k≤s.parts.length∧m'=s.parts.length - k∧E 4=.int .i64 (k:Nat)∧E 3=.int .i64 (deepL (s.parts.take k):Nat)∧E 1=.pointer (some ⟨w.heap.size,0,none⟩)) (s.parts.length) ?_ ?_)))
    ·exact ⟨hB,hr,bx1,0,by omega,rfl,rfl,rfl,rfl⟩
    ·rintro m' E w0 ⟨hB,hr,bx1,k,hk,rfl,e4,e3,e1⟩;rw [upd_self e4,upd_self e3,upd_self e1];refine W.seq (W.seq (W.region (L.val (x_mv (v:=.int _ _) rfl) rfl ?_)));refine L.val (x_fa ksh_fo45_4 rfl) rfl ?_;refine L.val (x_ld (v:=.slice _ _ _) ksh_oc23 rfl (bx1.cell0 rfl)) rfl ?_;refine L.val (x_len_slice Tryz.underlying23 rfl) rfl ?_;refine L.val (x_lss rfl rfl) rfl ?_;refine L.nil (thn_n (W.cond (b:=_) rfl (fun g10=>?_) (fun g10=>?_)))
     ·have h10:=of_decide_eq_true g10;have hlt:k<s.parts.length:=by omega
      obtain ⟨b,o,rfl,hc⟩:=hr.elem hlt;have hst:=deepL_take hlt;refine W.skip (thn_n (W.seq (W.block (W.seq (W.region (L.val (x_fa ksh_fo45_4 rfl) rfl ?_))))));refine L.val (x_ld (v:=.slice _ _ _) ksh_oc23 rfl (bx1.cell0 rfl)) rfl ?_;refine L.val (x_mv (v:=.int _ _) rfl) rfl ?_;refine L.val (x_ia  Tryz.underlying23 ksh_sz45 rfl rfl rfl om_) rfl ?_;refine L.val (x_ldn (vs:=row k) ksh_ag45 rfl (hr.five k hlt) hc) rfl ?_;refine L.ret (x_call ksh_en104 rfl) rfl (ih _ (by have:=Sh.part_lt hlt;omega) (by have:=Sh.part_size hlt;omega) A _ _ (hr.each k hlt)) ?_;rintro _ w18 ⟨rfl,hw⟩;have hB:=hB.carry hw;have hr:=hr.carry hw;have bx1:=bx1.carry hw;refine L.val (x_as (v:=.int _ _) rfl) rfl ?_;refine L.nil (thn_n (W.seq (W.region (L.val (x_mv (v:=.int _ _) rfl) rfl ?_))));refine L.val (x_mv (v:=.int _ _) rfl) rfl ?_;refine L.val (x_gtr rfl rfl) rfl ?_;refine L.nil (thn_n (W.cond (b:=_) rfl (fun g21=>?_) (fun g21=>?_)))
      ·have h21:=of_decide_eq_true g21;refine W.region (L.val (x_mv (v:=.int _ _) rfl) rfl ?_);refine L.val (x_as (v:=.int _ _) rfl) rfl ?_;refine L.nil (blk_n (thn_n (W.region (L.val (x_mv (v:=.int _ _) rfl) rfl ?_))));refine L.val (x_add rfl rfl (wr64 om_)) rfl ?_;refine L.val (x_as (v:=.int _ _) rfl) rfl ?_;refine L.nil (thn_n ⟨rfl,?_⟩);refine ⟨s.parts.length - (k+1),by omega,hB,hr,bx1,k+1,by omega,rfl,rfl,?_,rfl⟩;exact vi (by rw [hst];omega)
      ·have h21:=dlt_f g21;refine W.skip (blk_n (thn_n (W.region (L.val (x_mv (v:=.int _ _) rfl) rfl ?_))));refine L.val (x_add rfl rfl (wr64 om_)) rfl ?_;refine L.val (x_as (v:=.int _ _) rfl) rfl ?_;refine L.nil (thn_n ⟨rfl,?_⟩);refine ⟨s.parts.length - (k+1),by omega,hB,hr,bx1,k+1,by omega,rfl,rfl,?_,rfl⟩;exact vi (by rw [hst];omega)
     ·have h10:=dlt_f g10;have hle:deepL (s.parts.take k)≤1000000:=by rw [List.take_of_length_le om_];exact hdl
      refine W.exit (thn_x (thn_x (blk_hit ?_)));refine thn_n (W.seq (W.region (L.val (x_mv (v:=.int _ _) rfl) rfl ?_)));refine L.val (x_add rfl rfl (wr64 om_)) rfl ?_;refine L.val (x_as (v:=.int _ _) rfl) rfl ?_;refine L.nil (thn_n (W.ret (fin_mk (.inr rfl) ?_)));refine ⟨vi ?_,hB⟩;rw [Sh.deep_eq,List.take_of_length_le om_];omega
def nodup:List Str→Bool
  | []=>true
  | x :: l=>!l.contains x && nodup l
theorem nodup_snoc (l:List Str) (x:Str):nodup (l++[x])=(nodup l && !l.contains x):=by
  induction l with
  | nil=>rfl
  | cons y l ih=>
    have e1:(l++[x]).contains y=(l.contains y || decide (y=x)):=by rw [Bool.eq_iff_iff];simp
    have e2:(y :: l).contains x=(decide (y=x) || l.contains x):=by
      rw [Bool.eq_iff_iff];simp;constructor
      · exact fun h=>h.elim (fun h=>.inl h.symm) .inr
      · exact fun h=>h.elim (fun h=>.inl h.symm) .inr
    simp only [List.cons_append,nodup,ih,e1,e2];cases l.contains y <;> cases decide (y=x) <;> cases nodup l <;> cases l.contains x <;> rfl
theorem nodup_take {l:List Str} {k:Nat} (h:nodup l=true):nodup (l.take k)=true:=by
  induction l generalizing k with
  | nil=>simp [nodup]
  | cons y l ih=>
    cases k with
    | zero=>rfl
    | succ k=>
      simp only [nodup,Bool.and_eq_true,Bool.not_eq_true',List.take_succ_cons] at h ⊢;refine ⟨?_,ih h.2⟩;have:=h.1;simp only [List.contains_eq_mem,decide_eq_false_iff_not] at this ⊢;exact fun hm=>this (List.mem_of_mem_take hm)
theorem take_snoc {α : Type} [Inhabited α] {l:List α} {k:Nat} {d:α} (hk:k<l.length):l.take (k+1)=l.take k++[l.getD k d]:=by
  rw [List.take_succ_eq_append_getElem hk,List.getD_eq_getElem?_getD,List.getElem?_eq_getElem hk,Option.getD_some]
def namesOk (l:List Str) (parts:Int):Bool:=l.all nameS && nodup l && decide ((l.length:Int)=parts)
theorem names07 (A:Nat→Prop) (v:Value) (l:List Str) (n:Int) (w:World) (hl:StrsAt A w v l):
    Ret Tryz.prog 143 #[v,.int .i64 n] w fun r w'=>r=.bool (namesOk l n)∧Bel w w':=by
  have hs:=hl;obtain ⟨p,cap,rfl,h1,h2,h3,hL,hl⟩:=hl;have hmem:∀ k,k<l.length→l.getD k []∈l:=fun k hk=>by rw [List.getD_eq_getElem?_getD,List.getElem?_eq_getElem hk];exact List.getElem_mem _
  refine ret_of_W Tryz.func143 rfl (Nat.le_of_ble_eq_true rfl) (res1 rfl) ?_;have hB:=Gr.refl (fun _=>False) w;clear hl;refine W.seq (W.region (L.val (x_as (v:=.bool _) rfl) rfl ?_));refine L.nil (thn_n (W.seq (W.seq (W.region (L.val (x_as (v:=.int _ _) rfl) rfl ?_)))));refine L.nil (thn_n (W.block (W.loop (fun m E w'=>Bel w w'∧StrsAt A w' (.slice p l.length cap) l∧∃ k:Nat,k≤l.length∧m=l.length - k∧E 5=.int .i64 (k:Nat)∧E 0=.slice p l.length cap∧E 1=.int .i64 n∧(l.take k).all nameS=true∧nodup (l.take k)=true) (l.length) ?_ ?_)))
  ·exact ⟨hB,hs,0,by omega,rfl,rfl,rfl,rfl,rfl,rfl⟩
  ·rintro m E w0 ⟨hB,hs,k,hk,rfl,e5,e0,e1,ha,hn⟩;rw [upd_self e5,upd_self e0,upd_self e1];refine W.seq (W.seq (W.region (L.val (x_mv (v:=.int _ _) rfl) rfl ?_)));refine L.val (x_mv (v:=.slice _ _ _) rfl) rfl ?_;refine L.val (x_len_slice Tryz.underlying22 rfl) rfl ?_;refine L.val (x_lss rfl rfl) rfl ?_;refine L.nil (thn_n (W.cond (b:=_) rfl (fun g10=>?_) (fun g10=>?_)))
   ·have h10:=of_decide_eq_true g10;have hlt:k<l.length:=by omega
    obtain ⟨b,o,rfl,hc⟩:=hs.elem hlt;refine W.skip (thn_n (W.seq (W.block (W.seq (W.seq (W.region (L.val (x_mv (v:=.slice _ _ _) rfl) rfl ?_)))))));refine L.val (x_mv (v:=.int _ _) rfl) rfl ?_;refine L.val (x_ia1  Tryz.underlying22 ksh_sz9 rfl rfl rfl om_) rfl ?_;refine L.val (x_ld (v:=S _) ksh_oc9 rfl hc) rfl ?_;refine L.ret (x_call ksh_en57 rfl) rfl (name06 _ (hL _ (hmem k hlt)) _) ?_;rintro _ w17 ⟨rfl,hw⟩;have hB:=hB.carry hw;have hs:=hs.carry hw;refine L.val (x_not rfl) rfl ?_;refine L.nil (thn_n (W.cond (b:=_) rfl (fun g18=>?_) (fun g18=>?_)))
    ·have h18:=(not_t g18);refine W.seq (W.region (L.val (x_as (v:=.bool _) rfl) rfl ?_));refine L.nil (thn_n (W.ret (thn_r (blk_r (thn_r (thn_r (blk_r (thn_r (fin_mk (.inr rfl) ?_)))))))));exact ⟨vb (by
       have:l.all nameS=false:=by rw [List.all_eq_false];exact ⟨_,hmem k hlt,by rw [h18];simp⟩
       unfold namesOk;rw [this];rfl),hB⟩
    ·have h18:=(not_f g18);refine W.skip (thn_n (W.seq (W.region (L.val (x_as (v:=.int _ _) rfl) rfl ?_))));refine L.nil (thn_n (W.block (W.loop (fun m E w'=>Bel w w'∧StrsAt A w' (.slice (some ⟨b,o,none⟩) l.length cap) l∧∃ j:Nat,j≤k∧m=k - j∧E 6=.int .i64 (j:Nat)∧E 5=.int .i64 (k:Nat)∧E 0=.slice (some ⟨b,o,none⟩) l.length cap∧E 1=.int .i64 n∧(l.take j).contains (l.getD k [])=false) (k) ?_ ?_)))
     ·exact ⟨hB,hs,0,by omega,rfl,rfl,rfl,rfl,rfl,by simp⟩
     ·rintro m E w0 ⟨hB,hs,j,hj,rfl,e6,e5,e0,e1,hcon⟩;rw [upd_self e6,upd_self e5,upd_self e0,upd_self e1];refine W.seq (W.seq (W.region (L.val (x_mv (v:=.int _ _) rfl) rfl ?_)));refine L.val (x_mv (v:=.int _ _) rfl) rfl ?_;refine L.val (x_lss rfl rfl) rfl ?_;refine L.nil (thn_n (W.cond (b:=_) rfl (fun g21=>?_) (fun g21=>?_)))
      ·have h21:=of_decide_eq_true g21;have hltj:j<l.length:=by omega
       have hc1:=hs.elemAt hltj;have hc2:=hs.elemAt hlt;refine W.skip (thn_n (W.seq (W.block (W.seq (W.drawB ksh_mixed kr_ ?_)))));refine LQ.val (fun w hw=>x_mv (v:=.slice _ _ _) rfl) rfl ?_;refine LQ.val (fun w hw=>x_mv (v:=.int _ _) rfl) rfl ?_;refine LQ.val (fun w hw=>x_ia1  Tryz.underlying22 ksh_sz9 rfl rfl rfl om_) rfl ?_;refine LQ.val (fun w hw=>x_ld (v:=S _) ksh_oc9 rfl (hw.keep hc1)) rfl ?_;refine LQ.val (fun w hw=>x_mv (v:=.slice _ _ _) rfl) rfl ?_;refine LQ.val (fun w hw=>x_mv (v:=.int _ _) rfl) rfl ?_;refine LQ.val (fun w hw=>x_ia1  Tryz.underlying22 ksh_sz9 rfl rfl rfl om_) rfl ?_;refine LQ.val (fun w hw=>x_ld (v:=S _) ksh_oc9 rfl (hw.keep hc2)) rfl ?_;refine LQ.val (fun w hw=>x_eqs rfl rfl) rfl ?_;refine LQ.nil ?_;intro w24 hw;have hB:=hB.carry hw;have hs:=hs.carry hw;refine thn_n (W.cond (b:=_) rfl (fun g32=>?_) (fun g32=>?_))
       ·have h32:=seq_t g32;refine W.seq (W.region (L.val (x_as (v:=.bool _) rfl) rfl ?_));refine L.nil (thn_n (W.ret (blk_r (thn_r (thn_r (blk_r (blk_r (thn_r (thn_r (blk_r (thn_r (fin_mk (.inr rfl) ?_))))))))))));exact ⟨vb (by
          have hne:nodup (l.take (k+1))=false:=by
            rw [take_snoc (d:=[]) hlt,nodup_snoc];have:(l.take k).contains (l.getD k [])=true:=by
              rw [← h32];have:l.getD j []∈l.take k:=by
                rw [List.getD_eq_getElem?_getD,List.getElem?_eq_getElem hltj,Option.getD_some];exact List.mem_take_iff_getElem.2 ⟨j,by omega,rfl⟩
              simpa using this
            rw [this];simp
          have:nodup l=false:=by
            cases hh:nodup l
            · rfl
            · rw [nodup_take hh] at hne;cases hne
          unfold namesOk;rw [this];simp),hB⟩
       ·have h32:=seq_f g32;refine W.skip (blk_n (thn_n (W.region (L.val (x_mv (v:=.int _ _) rfl) rfl ?_))));refine L.val (x_add rfl rfl (wr64 om_)) rfl ?_;refine L.val (x_as (v:=.int _ _) rfl) rfl ?_;refine L.nil (thn_n ⟨rfl,?_⟩);exact ⟨k - (j+1),by omega,hB,hs,j+1,by omega,rfl,rfl,rfl,rfl,rfl,contains_snoc hltj hcon (fun e=>h32 e.symm)⟩
      ·have h21:=dlt_f g21;refine W.exit (thn_x (thn_x (blk_hit ?_)));refine blk_n (thn_n (W.region (L.val (x_mv (v:=.int _ _) rfl) rfl ?_)));refine L.val (x_add rfl rfl (wr64 om_)) rfl ?_;refine L.val (x_as (v:=.int _ _) rfl) rfl ?_;refine L.nil (thn_n ⟨rfl,?_⟩);have hjk:j=k:=by omega
       subst hjk;refine ⟨l.length - (j+1),by omega,hB,hs,j+1,by omega,rfl,rfl,rfl,rfl,?_,?_⟩
       · rw [take_snoc (d:=[]) hlt,List.all_append,ha];show (true && (nameS (l.getD j []) && true))=true;rw [h18];rfl
       · rw [take_snoc (d:=[]) hlt,nodup_snoc,hn,hcon];rfl
   ·have h10:=dlt_f g10;refine W.exit (thn_x (thn_x (blk_hit ?_)));refine thn_n (W.seq (W.region (L.val (x_mv (v:=.slice _ _ _) rfl) rfl ?_)));refine L.val (x_len_slice Tryz.underlying22 rfl) rfl ?_;refine L.val (x_mv (v:=.int _ _) rfl) rfl ?_;refine L.val (x_eql rfl rfl) rfl ?_;refine L.val (x_as (v:=.bool _) rfl) rfl ?_;refine L.nil (thn_n (W.ret (fin_mk (.inr rfl) ?_)));have hkl:k=l.length:=by omega
    subst hkl;rw [List.take_length] at ha hn;exact ⟨vb (by unfold namesOk;rw [ha,hn];rfl),hB⟩
def plainS (s:Str):Bool:=s == [73,110,116] || s == [66,111,111,108] || s == [84,101,120,116] || s == [65,110,121]
def fitsS (s:Sh):Bool:=
  if (decide (s.kind=9) || decide (s.kind=10))=true then upperS s.name && (nameS s.of || (s.of == [] && decide (s.kind=9) && !plainS s.name)) && decide ((s.names.length:Int)=0) && decide ((s.parts.length:Int)=0)
  else if (!(s.of == []) || !(s.name == []))=true then false
  else if (decide (s.kind=6) || decide (s.kind=7))=true then namesOk s.names s.parts.length
  else if (0:Int)<s.names.length then false
  else if s.kind=8 then decide ((1:Int)≤s.parts.length)
  else if s.kind=5 then decide ((s.parts.length:Int)=1)
  else decide (1≤s.kind) && decide (s.kind≤4) && decide ((s.parts.length:Int)=0)
theorem fits07 (A:Nat→Prop) (s:Sh) (cs:List Value) (w:World) (hs:ShC A w cs s):
    Ret Tryz.prog 125 #[.agg cs.toArray] w fun v w'=>v=.bool (fitsS s)∧Bel w w':=by
  obtain ⟨vn,vp,rfl,hn,hp,hof,hnm⟩:=hs.inv;obtain ⟨p,cap,row,rfl,p1,p2,p3,hr⟩:=hp;have hn':=hn;obtain ⟨pn,capn,rfl,-⟩:=hn';refine ret_of_W Tryz.func125 rfl (Nat.le_of_ble_eq_true rfl) (res1 rfl) ?_;have hB:=Gr.refl (fun _=>False) w;refine W.seq (W.region (L.box (cs:=_) rfl rfl (fun w1 bx1 hw hz1=>?_)));have hB:=hB.carry hw;have hn:=hn.carry hw;refine L.val (x_as (v:=.bool _) rfl) rfl ?_;refine L.nil (thn_n (W.seq (W.seq (W.region (L.val (x_fa ksh_fo45_0 rfl) rfl ?_)))));refine L.val (x_ld (v:=.int _ _) ksh_oc3 rfl (bx1.cell0 rfl)) rfl ?_;refine L.val (x_eql rfl rfl) rfl ?_;refine L.val (x_mv (v:=.bool _) rfl) rfl ?_;refine' L.group0 3 9 11 11 8 false rfl ?_ ?_ ?_;rotate_left 1
  ·intro g8;have h8:=of_decide_eq_false g8;refine L.gyes' (dj:=8) (b:=_) rfl rfl g8 ?_;refine L.val (x_fa ksh_fo45_0 rfl) rfl ?_;refine L.gyes' (dj:=8) (b:=_) rfl rfl g8 ?_;refine L.val (x_ld (v:=.int _ _) ksh_oc3 rfl (bx1.cell0 rfl)) rfl ?_;refine L.gyes' (dj:=8) (b:=_) rfl rfl g8 ?_;refine L.val (x_eql rfl rfl) rfl ?_;refine L.nil (thn_n ⟨rfl,rfl,?_,rfl⟩);repeat (first | exact jeq.refl _ _ _ | refine jeq.upd rfl ?_ | refine jeq.jk rfl rfl ?_)
  ·intro g8;(iterate 3 refine L.gno (dj:=8) (b:=_) rfl rfl g8 rfl ?_);refine L.nil (thn_n ⟨rfl,rfl,?_⟩);repeat (first | exact jeq.refl _ _ _ | refine jeq.upd rfl ?_ | refine jeq.jk rfl rfl ?_)
  intro J8 j8;refine L.val (x_or rfl j8) rfl ?_;refine L.nil (thn_n (W.cond (b:=_) rfl (fun g12=>?_) (fun g12=>?_)))
  ·have h12:=g12;refine W.seq (W.region (L.val (x_fa ksh_fo45_2 rfl) rfl ?_));refine L.val (x_ld (v:=S _) ksh_oc9 rfl (bx1.cell0 rfl)) rfl ?_;refine L.val (x_eqs rfl rfl) rfl ?_;refine L.val (x_mv (v:=.bool _) rfl) rfl ?_;refine' L.group0 3 17 19 19 16 false rfl ?_ ?_ ?_;rotate_left 1
   ·intro g16;have h16:=seq_f g16;refine L.gyes' (dj:=16) (b:=_) rfl rfl g16 ?_;refine L.val (x_fa ksh_fo45_2 rfl) rfl ?_;refine L.gyes' (dj:=16) (b:=_) rfl rfl g16 ?_;refine L.val (x_ld (v:=S _) ksh_oc9 rfl (bx1.cell0 rfl)) rfl ?_;refine L.gyes' (dj:=16) (b:=_) rfl rfl g16 ?_;refine L.val (x_eqs rfl rfl) rfl ?_;refine L.nil (thn_n ⟨rfl,rfl,?_,rfl⟩);repeat (first | exact jeq.refl _ _ _ | refine jeq.upd rfl ?_ | refine jeq.jk rfl rfl ?_)
   ·intro g16;(iterate 3 refine L.gno (dj:=16) (b:=_) rfl rfl g16 rfl ?_);refine L.nil (thn_n ⟨rfl,rfl,?_⟩);repeat (first | exact jeq.refl _ _ _ | refine jeq.upd rfl ?_ | refine jeq.jk rfl rfl ?_)
   intro J16 j16;refine L.val (x_or rfl j16) rfl ?_;refine L.val (x_mv (v:=.bool _) rfl) rfl ?_;refine' L.group0 3 22 24 24 21 false rfl ?_ ?_ ?_;rotate_left 1
   ·intro g21;have h21:=g21;refine L.gyes' (dj:=21) (b:=_) rfl rfl g21 ?_;refine L.val (x_fa ksh_fo45_2 rfl) rfl ?_;refine L.gyes' (dj:=21) (b:=_) rfl rfl g21 ?_;refine L.val (x_ld (v:=S _) ksh_oc9 rfl (bx1.cell0 rfl)) rfl ?_;refine L.gyes' (dj:=21) (b:=_) rfl rfl g21 ?_;refine L.val (x_eqs rfl rfl) rfl ?_;refine L.nil (thn_n ⟨rfl,rfl,?_,rfl⟩);repeat (first | exact jeq.refl _ _ _ | refine jeq.upd rfl ?_ | refine jeq.jk rfl rfl ?_)
   ·intro g21;(iterate 3 refine L.gno (dj:=21) (b:=_) rfl rfl g21 rfl ?_);refine L.nil (thn_n ⟨rfl,rfl,?_⟩);repeat (first | exact jeq.refl _ _ _ | refine jeq.upd rfl ?_ | refine jeq.jk rfl rfl ?_)
   intro J21 j21;refine L.val (x_or rfl j21) rfl ?_;refine L.val (x_mv (v:=.bool _) rfl) rfl ?_;refine' L.group0 3 27 29 29 26 false rfl ?_ ?_ ?_;rotate_left 1
   ·intro g26;have h26:=g26;refine L.gyes' (dj:=26) (b:=_) rfl rfl g26 ?_;refine L.val (x_fa ksh_fo45_2 rfl) rfl ?_;refine L.gyes' (dj:=26) (b:=_) rfl rfl g26 ?_;refine L.val (x_ld (v:=S _) ksh_oc9 rfl (bx1.cell0 rfl)) rfl ?_;refine L.gyes' (dj:=26) (b:=_) rfl rfl g26 ?_;refine L.val (x_eqs rfl rfl) rfl ?_;refine L.nil (thn_n ⟨rfl,rfl,?_,rfl⟩);repeat (first | exact jeq.refl _ _ _ | refine jeq.upd rfl ?_ | refine jeq.jk rfl rfl ?_)
   ·intro g26;(iterate 3 refine L.gno (dj:=26) (b:=_) rfl rfl g26 rfl ?_);refine L.nil (thn_n ⟨rfl,rfl,?_⟩);repeat (first | exact jeq.refl _ _ _ | refine jeq.upd rfl ?_ | refine jeq.jk rfl rfl ?_)
   intro J26 j26;refine L.val (x_or rfl j26) rfl ?_;refine L.val (x_as (v:=.bool _) rfl) rfl ?_;refine L.nil (thn_n (W.seq (W.region (L.val (x_fa ksh_fo45_1 rfl) rfl ?_))));refine L.val (x_ld (v:=S _) ksh_oc9 rfl (bx1.cell0 rfl)) rfl ?_;refine L.ret (x_call ksh_en57 rfl) rfl (name06 _ hof _) ?_;rintro _ w33 ⟨rfl,hw⟩;have hB:=hB.carry hw;have hn:=hn.carry hw;have bx1:=bx1.carry hw;refine L.val (x_mv (v:=.bool _) rfl) rfl ?_;refine' L.group0 12 35 46 46 34 false rfl ?_ ?_ ?_;rotate_left 1
   ·intro g34;have h34:=g34;refine L.gyes' (dj:=34) (b:=_) rfl rfl g34 ?_;refine L.val (x_fa ksh_fo45_1 rfl) rfl ?_;refine L.gyes' (dj:=34) (b:=_) rfl rfl g34 ?_;refine L.val (x_ld (v:=S _) ksh_oc9 rfl (bx1.cell0 rfl)) rfl ?_;refine L.gyes' (dj:=34) (b:=_) rfl rfl g34 ?_;refine L.val (x_eqs rfl rfl) rfl ?_;refine L.gyes' (dj:=34) (b:=_) rfl rfl g34 ?_;refine L.val (x_mv (v:=.bool _) rfl) rfl ?_;refine' L.group0 3 39 41 41 38 true rfl ?_ ?_ ?_;rotate_left 1
    ·intro g38;have h38:=seq_t g38;refine L.gyes' (dj:=38) (b:=_) rfl rfl g38 ?_;refine L.val (x_fa ksh_fo45_0 rfl) rfl ?_;refine L.gyes' (dj:=38) (b:=_) rfl rfl g38 ?_;refine L.val (x_ld (v:=.int _ _) ksh_oc3 rfl (bx1.cell0 rfl)) rfl ?_;refine L.gyes' (dj:=38) (b:=_) rfl rfl g38 ?_;refine L.val (x_eql rfl rfl) rfl ?_;refine L.nil (thn_n ⟨rfl,rfl,?_,rfl⟩);repeat (first | exact jeq.refl _ _ _ | refine jeq.upd rfl ?_ | refine jeq.jk rfl rfl ?_)
    ·intro g38;(iterate 3 refine L.gno (dj:=38) (b:=_) rfl rfl g38 rfl ?_);refine L.nil (thn_n ⟨rfl,rfl,?_⟩);repeat (first | exact jeq.refl _ _ _ | refine jeq.upd rfl ?_ | refine jeq.jk rfl rfl ?_)
    intro J38 j38;refine L.gyes' (dj:=34) (b:=_) rfl rfl g34 ?_;refine L.val (x_and rfl j38) rfl ?_;refine L.gyes' (dj:=34) (b:=_) rfl rfl g34 ?_;refine L.val (x_mv (v:=.bool _) rfl) rfl ?_;refine' L.group0 2 44 45 45 43 true rfl ?_ ?_ ?_;rotate_left 1
    ·intro g43;have h43:=g43;refine L.gyes' (dj:=43) (b:=_) rfl rfl g43 ?_;refine L.val (x_mv (v:=.bool _) rfl) rfl ?_;refine L.gyes' (dj:=43) (b:=_) rfl rfl g43 ?_;refine L.val (x_not rfl) rfl ?_;refine L.nil (thn_n ⟨rfl,rfl,?_,rfl⟩);repeat (first | exact jeq.refl _ _ _ | refine jeq.upd rfl ?_ | refine jeq.jk rfl rfl ?_)
    ·intro g43;refine L.gno (dj:=43) (b:=_) rfl rfl g43 rfl ?_;refine L.gno (dj:=43) (b:=_) rfl rfl g43 rfl ?_;refine L.nil (thn_n ⟨rfl,rfl,?_⟩);repeat (first | exact jeq.refl _ _ _ | refine jeq.upd rfl ?_ | refine jeq.jk rfl rfl ?_)
    intro J43 j43;refine L.gyes' (dj:=34) (b:=_) rfl rfl g34 ?_;refine L.val (x_and rfl j43) rfl ?_;refine L.nil (thn_n ⟨rfl,rfl,?_,rfl⟩);repeat (first | exact jeq.refl _ _ _ | refine jeq.upd rfl ?_ | refine jeq.jk rfl rfl ?_)
   ·intro g34;(iterate 4 refine L.gno (dj:=34) (b:=_) rfl rfl g34 rfl ?_);(iterate 3 refine L.gun (dj:=38) rfl rfl rfl ?_);refine L.gno (dj:=34) (b:=_) rfl rfl g34 rfl ?_;refine L.gno (dj:=34) (b:=_) rfl rfl g34 rfl ?_;refine L.gun (dj:=43) rfl rfl rfl ?_;refine L.gun (dj:=43) rfl rfl rfl ?_;refine L.gno (dj:=34) (b:=_) rfl rfl g34 rfl ?_;refine L.nil (thn_n ⟨rfl,rfl,?_⟩);repeat (first | exact jeq.refl _ _ _ | refine jeq.upd rfl ?_ | refine jeq.jk rfl rfl ?_)
   intro J34 j34;refine L.val (x_or rfl j34) rfl ?_;refine L.val (x_as (v:=.bool _) rfl) rfl ?_;refine L.nil (thn_n (W.seq (W.region (L.val (x_fa ksh_fo45_2 rfl) rfl ?_))));refine L.val (x_ld (v:=S _) ksh_oc9 rfl (bx1.cell0 rfl)) rfl ?_;refine L.ret (x_call ksh_en60 rfl) rfl (upper06 _ hnm _) ?_;rintro _ w50 ⟨rfl,hw⟩;have hB:=hB.carry hw;have hn:=hn.carry hw;have bx1:=bx1.carry hw;refine L.val (x_mv (v:=.bool _) rfl) rfl ?_;refine' L.group0 1 52 52 52 51 true rfl ?_ ?_ ?_;rotate_left 1
   ·intro g51;have h51:=g51;refine L.gyes' (dj:=51) (b:=_) rfl rfl g51 ?_;refine L.val (x_mv (v:=.bool _) rfl) rfl ?_;refine L.nil (thn_n ⟨rfl,rfl,?_,rfl⟩);repeat (first | exact jeq.refl _ _ _ | refine jeq.upd rfl ?_ | refine jeq.jk rfl rfl ?_)
   ·intro g51;refine L.gno (dj:=51) (b:=_) rfl rfl g51 rfl ?_;refine L.nil (thn_n ⟨rfl,rfl,?_⟩);repeat (first | exact jeq.refl _ _ _ | refine jeq.upd rfl ?_ | refine jeq.jk rfl rfl ?_)
   intro J51 j51;refine L.val (x_and rfl j51) rfl ?_;refine L.val (x_mv (v:=.bool _) rfl) rfl ?_;refine' L.group0 4 55 58 58 54 true rfl ?_ ?_ ?_;rotate_left 1
   ·intro g54;have h54:=g54;refine L.gyes' (dj:=54) (b:=_) rfl rfl g54 ?_;refine L.val (x_fa ksh_fo45_3 rfl) rfl ?_;refine L.gyes' (dj:=54) (b:=_) rfl rfl g54 ?_;refine L.val (x_ld (v:=.slice _ _ _) ksh_oc22 rfl (bx1.cell0 rfl)) rfl ?_;refine L.gyes' (dj:=54) (b:=_) rfl rfl g54 ?_;refine L.val (x_len_slice Tryz.underlying22 rfl) rfl ?_;refine L.gyes' (dj:=54) (b:=_) rfl rfl g54 ?_;refine L.val (x_eql rfl rfl) rfl ?_;refine L.nil (thn_n ⟨rfl,rfl,?_,rfl⟩);repeat (first | exact jeq.refl _ _ _ | refine jeq.upd rfl ?_ | refine jeq.jk rfl rfl ?_)
   ·intro g54;(iterate 4 refine L.gno (dj:=54) (b:=_) rfl rfl g54 rfl ?_);refine L.nil (thn_n ⟨rfl,rfl,?_⟩);repeat (first | exact jeq.refl _ _ _ | refine jeq.upd rfl ?_ | refine jeq.jk rfl rfl ?_)
   intro J54 j54;refine L.val (x_and rfl j54) rfl ?_;refine L.val (x_mv (v:=.bool _) rfl) rfl ?_;refine' L.group0 4 61 64 64 60 true rfl ?_ ?_ ?_;rotate_left 1
   ·intro g60;have h60:=g60;refine L.gyes' (dj:=60) (b:=_) rfl rfl g60 ?_;refine L.val (x_fa ksh_fo45_4 rfl) rfl ?_;refine L.gyes' (dj:=60) (b:=_) rfl rfl g60 ?_;refine L.val (x_ld (v:=.slice _ _ _) ksh_oc23 rfl (bx1.cell0 rfl)) rfl ?_;refine L.gyes' (dj:=60) (b:=_) rfl rfl g60 ?_;refine L.val (x_len_slice Tryz.underlying23 rfl) rfl ?_;refine L.gyes' (dj:=60) (b:=_) rfl rfl g60 ?_;refine L.val (x_eql rfl rfl) rfl ?_;refine L.nil (thn_n ⟨rfl,rfl,?_,rfl⟩);repeat (first | exact jeq.refl _ _ _ | refine jeq.upd rfl ?_ | refine jeq.jk rfl rfl ?_)
   ·intro g60;(iterate 4 refine L.gno (dj:=60) (b:=_) rfl rfl g60 rfl ?_);refine L.nil (thn_n ⟨rfl,rfl,?_⟩);repeat (first | exact jeq.refl _ _ _ | refine jeq.upd rfl ?_ | refine jeq.jk rfl rfl ?_)
   intro J60 j60;refine L.val (x_and rfl j60) rfl ?_;refine L.val (x_as (v:=.bool _) rfl) rfl ?_;refine L.nil (thn_n (W.ret (thn_r (fin_mk (.inr rfl) ?_))));exact ⟨vb (by unfold fitsS;rw [if_pos h12];rfl),hB⟩
  ·have h12:=g12;refine W.skip (thn_n (W.seq (W.seq (W.region (L.val (x_fa ksh_fo45_1 rfl) rfl ?_)))));refine L.val (x_ld (v:=S _) ksh_oc9 rfl (bx1.cell0 rfl)) rfl ?_;refine L.val (x_nes rfl rfl) rfl ?_;refine L.val (x_mv (v:=.bool _) rfl) rfl ?_;refine' L.group0 3 70 72 72 69 false rfl ?_ ?_ ?_;rotate_left 1
   ·intro g69;have h69:=sne_f g69;refine L.gyes' (dj:=69) (b:=_) rfl rfl g69 ?_;refine L.val (x_fa ksh_fo45_2 rfl) rfl ?_;refine L.gyes' (dj:=69) (b:=_) rfl rfl g69 ?_;refine L.val (x_ld (v:=S _) ksh_oc9 rfl (bx1.cell0 rfl)) rfl ?_;refine L.gyes' (dj:=69) (b:=_) rfl rfl g69 ?_;refine L.val (x_nes rfl rfl) rfl ?_;refine L.nil (thn_n ⟨rfl,rfl,?_,rfl⟩);repeat (first | exact jeq.refl _ _ _ | refine jeq.upd rfl ?_ | refine jeq.jk rfl rfl ?_)
   ·intro g69;(iterate 3 refine L.gno (dj:=69) (b:=_) rfl rfl g69 rfl ?_);refine L.nil (thn_n ⟨rfl,rfl,?_⟩);repeat (first | exact jeq.refl _ _ _ | refine jeq.upd rfl ?_ | refine jeq.jk rfl rfl ?_)
   intro J69 j69;refine L.val (x_or rfl j69) rfl ?_;refine L.nil (thn_n (W.cond (b:=_) rfl (fun g73=>?_) (fun g73=>?_)))
   ·have h73:=g73;refine W.seq (W.region (L.val (x_as (v:=.bool _) rfl) rfl ?_));refine L.nil (thn_n (W.ret (thn_r (fin_mk (.inr rfl) ?_))));exact ⟨vb (by unfold fitsS;rw [if_neg (by rw [h12];simp),if_pos h73]),hB⟩
   ·have h73:=g73;refine W.skip (thn_n (W.seq (W.seq (W.region (L.val (x_fa ksh_fo45_0 rfl) rfl ?_)))));refine L.val (x_ld (v:=.int _ _) ksh_oc3 rfl (bx1.cell0 rfl)) rfl ?_;refine L.val (x_eql rfl rfl) rfl ?_;refine L.val (x_mv (v:=.bool _) rfl) rfl ?_;refine' L.group0 3 78 80 80 77 false rfl ?_ ?_ ?_;rotate_left 1
    ·intro g77;have h77:=of_decide_eq_false g77;refine L.gyes' (dj:=77) (b:=_) rfl rfl g77 ?_;refine L.val (x_fa ksh_fo45_0 rfl) rfl ?_;refine L.gyes' (dj:=77) (b:=_) rfl rfl g77 ?_;refine L.val (x_ld (v:=.int _ _) ksh_oc3 rfl (bx1.cell0 rfl)) rfl ?_;refine L.gyes' (dj:=77) (b:=_) rfl rfl g77 ?_;refine L.val (x_eql rfl rfl) rfl ?_;refine L.nil (thn_n ⟨rfl,rfl,?_,rfl⟩);repeat (first | exact jeq.refl _ _ _ | refine jeq.upd rfl ?_ | refine jeq.jk rfl rfl ?_)
    ·intro g77;(iterate 3 refine L.gno (dj:=77) (b:=_) rfl rfl g77 rfl ?_);refine L.nil (thn_n ⟨rfl,rfl,?_⟩);repeat (first | exact jeq.refl _ _ _ | refine jeq.upd rfl ?_ | refine jeq.jk rfl rfl ?_)
    intro J77 j77;refine L.val (x_or rfl j77) rfl ?_;refine L.nil (thn_n (W.cond (b:=_) rfl (fun g81=>?_) (fun g81=>?_)))
    ·have h81:=g81;refine W.seq (W.region (L.val (x_fa ksh_fo45_3 rfl) rfl ?_));refine L.val (x_ld (v:=.slice _ _ _) ksh_oc22 rfl (bx1.cell0 rfl)) rfl ?_;refine L.val (x_fa ksh_fo45_4 rfl) rfl ?_;refine L.val (x_ld (v:=.slice _ _ _) ksh_oc23 rfl (bx1.cell0 rfl)) rfl ?_;refine L.val (x_len_slice Tryz.underlying23 rfl) rfl ?_;refine L.ret (x_call ksh_en143 rfl) rfl (names07 A _ s.names s.parts.length _ hn) ?_;rintro _ w87 ⟨rfl,hw⟩;have hB:=hB.carry hw;have hn:=hn.carry hw;have bx1:=bx1.carry hw;refine L.val (x_as (v:=.bool _) rfl) rfl ?_;refine L.nil (thn_n (W.ret (thn_r (fin_mk (.inr rfl) ?_))));exact ⟨vb (by unfold fitsS;rw [if_neg (by rw [h12];simp),if_neg (by rw [h73];simp),if_pos h81]),hB⟩
    ·have h81:=g81;refine W.skip (thn_n (W.seq (W.seq (W.region (L.val (x_fa ksh_fo45_3 rfl) rfl ?_)))));refine L.val (x_ld (v:=.slice _ _ _) ksh_oc22 rfl (bx1.cell0 rfl)) rfl ?_;refine L.val (x_len_slice Tryz.underlying22 rfl) rfl ?_;refine L.val (x_gtr rfl rfl) rfl ?_;refine L.nil (thn_n (W.cond (b:=_) rfl (fun g91=>?_) (fun g91=>?_)))
     ·have h91:=of_decide_eq_true g91;refine W.seq (W.region (L.val (x_as (v:=.bool _) rfl) rfl ?_));refine L.nil (thn_n (W.ret (thn_r (fin_mk (.inr rfl) ?_))));exact ⟨vb (by unfold fitsS;rw [if_neg (by rw [h12];simp),if_neg (by rw [h73];simp),if_neg (by rw [h81];simp),if_pos h91]),hB⟩
     ·have h91:=dlt_f g91;refine W.skip (thn_n (W.seq (W.seq (W.region (L.val (x_fa ksh_fo45_0 rfl) rfl ?_)))));refine L.val (x_ld (v:=.int _ _) ksh_oc3 rfl (bx1.cell0 rfl)) rfl ?_;refine L.val (x_eql rfl rfl) rfl ?_;refine L.nil (thn_n (W.cond (b:=_) rfl (fun g94=>?_) (fun g94=>?_)))
      ·have h94:=of_decide_eq_true g94;refine W.seq (W.region (L.val (x_fa ksh_fo45_4 rfl) rfl ?_));refine L.val (x_ld (v:=.slice _ _ _) ksh_oc23 rfl (bx1.cell0 rfl)) rfl ?_;refine L.val (x_len_slice Tryz.underlying23 rfl) rfl ?_;refine L.val (x_geq rfl rfl) rfl ?_;refine L.val (x_as (v:=.bool _) rfl) rfl ?_;refine L.nil (thn_n (W.ret (thn_r (fin_mk (.inr rfl) ?_))));exact ⟨vb (by unfold fitsS;rw [if_neg (by rw [h12];simp),if_neg (by rw [h73];simp),if_neg (by rw [h81];simp),if_neg om_,if_pos h94]),hB⟩
      ·have h94:=of_decide_eq_false g94;refine W.skip (thn_n (W.seq (W.seq (W.region (L.val (x_fa ksh_fo45_0 rfl) rfl ?_)))));refine L.val (x_ld (v:=.int _ _) ksh_oc3 rfl (bx1.cell0 rfl)) rfl ?_;refine L.val (x_eql rfl rfl) rfl ?_;refine L.nil (thn_n (W.cond (b:=_) rfl (fun g101=>?_) (fun g101=>?_)))
       ·have h101:=of_decide_eq_true g101;refine W.seq (W.region (L.val (x_fa ksh_fo45_4 rfl) rfl ?_));refine L.val (x_ld (v:=.slice _ _ _) ksh_oc23 rfl (bx1.cell0 rfl)) rfl ?_;refine L.val (x_len_slice Tryz.underlying23 rfl) rfl ?_;refine L.val (x_eql rfl rfl) rfl ?_;refine L.val (x_as (v:=.bool _) rfl) rfl ?_;refine L.nil (thn_n (W.ret (thn_r (fin_mk (.inr rfl) ?_))));exact ⟨vb (by unfold fitsS;rw [if_neg (by rw [h12];simp),if_neg (by rw [h73];simp),if_neg (by rw [h81];simp),if_neg om_,if_neg h94,if_pos h101]),hB⟩
       ·have h101:=of_decide_eq_false g101;refine W.skip (thn_n (W.seq (W.region (L.val (x_fa ksh_fo45_0 rfl) rfl ?_))));refine L.val (x_ld (v:=.int _ _) ksh_oc3 rfl (bx1.cell0 rfl)) rfl ?_;refine L.val (x_geq rfl rfl) rfl ?_;refine L.val (x_mv (v:=.bool _) rfl) rfl ?_;refine' L.group0 3 110 112 112 109 true rfl ?_ ?_ ?_;rotate_left 1
        ·intro g109;have h109:=of_decide_eq_true g109;refine L.gyes' (dj:=109) (b:=_) rfl rfl g109 ?_;refine L.val (x_fa ksh_fo45_0 rfl) rfl ?_;refine L.gyes' (dj:=109) (b:=_) rfl rfl g109 ?_;refine L.val (x_ld (v:=.int _ _) ksh_oc3 rfl (bx1.cell0 rfl)) rfl ?_;refine L.gyes' (dj:=109) (b:=_) rfl rfl g109 ?_;refine L.val (x_leq rfl rfl) rfl ?_;refine L.nil (thn_n ⟨rfl,rfl,?_,rfl⟩);repeat (first | exact jeq.refl _ _ _ | refine jeq.upd rfl ?_ | refine jeq.jk rfl rfl ?_)
        ·intro g109;(iterate 3 refine L.gno (dj:=109) (b:=_) rfl rfl g109 rfl ?_);refine L.nil (thn_n ⟨rfl,rfl,?_⟩);repeat (first | exact jeq.refl _ _ _ | refine jeq.upd rfl ?_ | refine jeq.jk rfl rfl ?_)
        intro J109 j109;refine L.val (x_and rfl j109) rfl ?_;refine L.val (x_mv (v:=.bool _) rfl) rfl ?_;refine' L.group0 4 115 118 118 114 true rfl ?_ ?_ ?_;rotate_left 1
        ·intro g114;have h114:=g114;refine L.gyes' (dj:=114) (b:=_) rfl rfl g114 ?_;refine L.val (x_fa ksh_fo45_4 rfl) rfl ?_;refine L.gyes' (dj:=114) (b:=_) rfl rfl g114 ?_;refine L.val (x_ld (v:=.slice _ _ _) ksh_oc23 rfl (bx1.cell0 rfl)) rfl ?_;refine L.gyes' (dj:=114) (b:=_) rfl rfl g114 ?_;refine L.val (x_len_slice Tryz.underlying23 rfl) rfl ?_;refine L.gyes' (dj:=114) (b:=_) rfl rfl g114 ?_;refine L.val (x_eql rfl rfl) rfl ?_;refine L.nil (thn_n ⟨rfl,rfl,?_,rfl⟩);repeat (first | exact jeq.refl _ _ _ | refine jeq.upd rfl ?_ | refine jeq.jk rfl rfl ?_)
        ·intro g114;(iterate 4 refine L.gno (dj:=114) (b:=_) rfl rfl g114 rfl ?_);refine L.nil (thn_n ⟨rfl,rfl,?_⟩);repeat (first | exact jeq.refl _ _ _ | refine jeq.upd rfl ?_ | refine jeq.jk rfl rfl ?_)
        intro J114 j114;refine L.val (x_and rfl j114) rfl ?_;refine L.val (x_as (v:=.bool _) rfl) rfl ?_;refine L.nil (thn_n (W.ret (fin_mk (.inr rfl) ?_)));exact ⟨vb (by unfold fitsS;rw [if_neg (by rw [h12];simp),if_neg (by rw [h73];simp),if_neg (by rw [h81];simp),if_neg om_,if_neg h94,if_neg h101]),hB⟩
mutual
def Sh.allB (p:Sh→Bool):Sh→Bool | .mk k o n l ps=>p (.mk k o n l ps) && allL p ps
def allL (p:Sh→Bool):List Sh→Bool | []=>true | x :: xs=>x.allB p && allL p xs
end
theorem Sh.allB_eq (p:Sh→Bool) (s:Sh):s.allB p=(p s && allL p s.parts):=by cases s;rfl
theorem allL_take {p:Sh→Bool} {l:List Sh} {k:Nat} (hk:k<l.length):allL p (l.take (k+1))=(allL p (l.take k) && (l.getD k default).allB p):=by
  induction l generalizing k with
  | nil=>simp at hk
  | cons x l ih=>
    cases k with
    | zero=>simp [allL]
    | succ k=>have:=ih (k:=k) (by simpa using hk);simp only [List.take_succ_cons,allL,this,List.getD_cons_succ,Bool.and_assoc]
theorem allL_miss {p:Sh→Bool} {l:List Sh} {k:Nat} (hk:k<l.length) (h:(l.getD k default).allB p=false):allL p l=false:=by
  induction l generalizing k with
  | nil=>simp at hk
  | cons x l ih=>
    cases k with
    | zero=>simp only [allL];rw [show x.allB p=false from h];rfl
    | succ k=>simp only [allL];rw [ih (k:=k) (by simpa using hk) h];simp
theorem right07:∀ (N:Nat) (s:Sh),SizeOf.sizeOf s<N→∀ (A:Nat→Prop) (cs:List Value) (w:World),ShC A w cs s→
    Ret Tryz.prog 105 #[.agg cs.toArray] w fun v w'=>v=.bool (s.allB fitsS)∧Bel w w':=by
  intro N;induction N with
  | zero=>intro s h;omega
  | succ N ih=>
    intro s hN A cs w hs;obtain ⟨vn,vp,rfl,hn,hp,hof,hnm⟩:=hs.inv;obtain ⟨p,cap,row,rfl,p1,p2,p3,hr⟩:=hp;refine ret_of_W Tryz.func105 rfl (Nat.le_of_ble_eq_true rfl) (res1 rfl) ?_;have hB:=Gr.refl (fun _=>False) w;refine W.seq (W.region (L.box (cs:=_) rfl rfl (fun w1 bx1 hw hz1=>?_)));have hB:=hB.carry hw;have hr:=hr.carry hw;have hs:=hs.carry hw;refine L.val (x_as (v:=.bool _) rfl) rfl ?_;refine L.nil (thn_n (W.seq (W.seq (W.region (L.val (x_ldn (vs:=_) ksh_ag45 rfl rfl (bx1.row rfl)) rfl ?_)))));refine L.ret (x_call ksh_en125 rfl) rfl (fits07 A s _ _ hs) ?_;rintro _ w5 ⟨rfl,hw⟩;have hB:=hB.carry hw;have hr:=hr.carry hw;have hs:=hs.carry hw;have bx1:=bx1.carry hw;refine L.val (x_not rfl) rfl ?_;refine L.nil (thn_n (W.cond (b:=_) rfl (fun g6=>?_) (fun g6=>?_)))
    ·have h6:=(not_t g6);refine W.seq (W.region (L.val (x_as (v:=.bool _) rfl) rfl ?_));refine L.nil (thn_n (W.ret (thn_r (fin_mk (.inr rfl) ?_))));exact ⟨vb (by rw [Sh.allB_eq,h6];rfl),hB⟩
    ·have h6:=(not_f g6);refine W.skip (thn_n (W.seq (W.seq (W.region (L.val (x_as (v:=.int _ _) rfl) rfl ?_)))));refine L.nil (thn_n (W.block (W.loop (fun m' E w'=>Bel w w'∧ShRow A w' p row s.parts∧Box w' w.heap.size 45 [.int .i64 s.kind,S s.of,S s.name,vn,.slice p s.parts.length cap]∧∃ k:Nat,k≤s.parts.length∧m'=s.parts.length - k∧E 3=.int .i64 (k:Nat)∧E 1=.pointer (some ⟨w.heap.size,0,none⟩)∧allL fitsS (s.parts.take k)=true) (s.parts.length) ?_ ?_)))
     ·exact ⟨hB,hr,bx1,0,by omega,rfl,rfl,rfl,rfl⟩
     ·rintro m' E w0 ⟨hB,hr,bx1,k,hk,rfl,e3,e1,ha⟩;rw [upd_self e3,upd_self e1];refine W.seq (W.seq (W.region (L.val (x_mv (v:=.int _ _) rfl) rfl ?_)));refine L.val (x_fa ksh_fo45_4 rfl) rfl ?_;refine L.val (x_ld (v:=.slice _ _ _) ksh_oc23 rfl (bx1.cell0 rfl)) rfl ?_;refine L.val (x_len_slice Tryz.underlying23 rfl) rfl ?_;refine L.val (x_lss rfl rfl) rfl ?_;refine L.nil (thn_n (W.cond (b:=_) rfl (fun g11=>?_) (fun g11=>?_)))
      ·have h11:=of_decide_eq_true g11;have hlt:k<s.parts.length:=by omega
       obtain ⟨b,o,rfl,hc⟩:=hr.elem hlt;refine W.skip (thn_n (W.seq (W.block (W.seq (W.region (L.val (x_fa ksh_fo45_4 rfl) rfl ?_))))));refine L.val (x_ld (v:=.slice _ _ _) ksh_oc23 rfl (bx1.cell0 rfl)) rfl ?_;refine L.val (x_mv (v:=.int _ _) rfl) rfl ?_;refine L.val (x_ia  Tryz.underlying23 ksh_sz45 rfl rfl rfl om_) rfl ?_;refine L.val (x_ldn (vs:=row k) ksh_ag45 rfl (hr.five k hlt) hc) rfl ?_;refine L.ret (x_call ksh_en105 rfl) rfl (ih _ (by have:=Sh.part_lt hlt;omega) A _ _ (hr.each k hlt)) ?_;rintro _ w19 ⟨rfl,hw⟩;have hB:=hB.carry hw;have hr:=hr.carry hw;have bx1:=bx1.carry hw;refine L.val (x_not rfl) rfl ?_;refine L.nil (thn_n (W.cond (b:=_) rfl (fun g20=>?_) (fun g20=>?_)))
       ·have h20:=(not_t g20);refine W.seq (W.region (L.val (x_as (v:=.bool _) rfl) rfl ?_));refine L.nil (thn_n (W.ret (blk_r (thn_r (thn_r (blk_r (thn_r (fin_mk (.inr rfl) ?_))))))));exact ⟨vb (by rw [Sh.allB_eq,allL_miss hlt h20];simp),hB⟩
       ·have h20:=(not_f g20);refine W.skip (blk_n (thn_n (W.region (L.val (x_mv (v:=.int _ _) rfl) rfl ?_))));refine L.val (x_add rfl rfl (wr64 om_)) rfl ?_;refine L.val (x_as (v:=.int _ _) rfl) rfl ?_;refine L.nil (thn_n ⟨rfl,?_⟩);exact ⟨s.parts.length - (k+1),by omega,hB,hr,bx1,k+1,by omega,rfl,rfl,rfl,by rw [allL_take hlt,ha,h20];rfl⟩
      ·have h11:=dlt_f g11;refine W.exit (thn_x (thn_x (blk_hit ?_)));refine thn_n (W.seq (W.region (L.val (x_as (v:=.bool _) rfl) rfl ?_)));refine L.nil (thn_n (W.ret (fin_mk (.inr rfl) ?_)));rw [List.take_of_length_le om_] at ha;exact ⟨vb (by rw [Sh.allB_eq,h6,ha];rfl),hB⟩
def checkS (s:Sh):Int:=if 400<s.size then 3 else if 40<s.deep then 91 else if s.allB fitsS=false then 70 else 0
theorem check07 (A:Nat→Prop) (s:Sh) (cs:List Value) (w:World) (hs:ShC A w cs s):
    Ret Tryz.prog 82 #[.agg cs.toArray] w fun v w'=>v=.int .i64 (checkS s)∧Bel w w':=by
  obtain ⟨vn,vp,rfl,hn,hp,hof,hnm⟩:=hs.inv;refine ret_of_W Tryz.func82 rfl (Nat.le_of_ble_eq_true rfl) (res1 rfl) ?_;have hB:=Gr.refl (fun _=>False) w;refine W.seq (W.region (L.box (cs:=_) rfl rfl (fun w1 bx1 hw hz1=>?_)));have hB:=hB.carry hw;have hs:=hs.carry hw;refine L.val (x_as (v:=.int _ _) rfl) rfl ?_;refine L.nil (thn_n (W.seq (W.seq (W.region (L.val (x_ldn (vs:=_) ksh_ag45 rfl rfl (bx1.row rfl)) rfl ?_)))));refine L.ret (x_call ksh_en103 rfl) rfl (size07 _ s (Nat.lt_succ_self _) A _ 400 _ om_ om_ hs) ?_;rintro _ w4 ⟨rfl,hw⟩;have hB:=hB.carry hw;have hs:=hs.carry hw;have bx1:=bx1.carry hw;refine L.val (x_gtr rfl rfl) rfl ?_;refine L.nil (thn_n (W.cond (b:=_) rfl (fun g5=>?_) (fun g5=>?_)))
  ·have h5:=of_decide_eq_true g5;refine W.seq (W.region (L.val (x_as (v:=.int _ _) rfl) rfl ?_));refine L.nil (thn_n (W.ret (thn_r (fin_mk (.inr rfl) ?_))));exact ⟨vi (by unfold checkS;rw [if_pos om_]),hB⟩
  ·have h5:=dlt_f g5;refine W.skip (thn_n (W.seq (W.seq (W.region (L.val (x_ldn (vs:=_) ksh_ag45 rfl rfl (bx1.row rfl)) rfl ?_)))));refine L.ret (x_call ksh_en104 rfl) rfl (deep07 _ s (Nat.lt_succ_self _) om_ A _ _ hs) ?_;rintro _ w7 ⟨rfl,hw⟩;have hB:=hB.carry hw;have hs:=hs.carry hw;have bx1:=bx1.carry hw;refine L.val (x_gtr rfl rfl) rfl ?_;refine L.nil (thn_n (W.cond (b:=_) rfl (fun g8=>?_) (fun g8=>?_)))
   ·have h8:=of_decide_eq_true g8;refine W.seq (W.region (L.val (x_as (v:=.int _ _) rfl) rfl ?_));refine L.nil (thn_n (W.ret (thn_r (fin_mk (.inr rfl) ?_))));exact ⟨vi (by unfold checkS;rw [if_neg om_,if_pos om_]),hB⟩
   ·have h8:=dlt_f g8;refine W.skip (thn_n (W.seq (W.seq (W.region (L.val (x_ldn (vs:=_) ksh_ag45 rfl rfl (bx1.row rfl)) rfl ?_)))));refine L.ret (x_call ksh_en105 rfl) rfl (right07 _ s (Nat.lt_succ_self _) A _ _ hs) ?_;rintro _ w10 ⟨rfl,hw⟩;have hB:=hB.carry hw;have hs:=hs.carry hw;have bx1:=bx1.carry hw;refine L.val (x_not rfl) rfl ?_;refine L.nil (thn_n (W.cond (b:=_) rfl (fun g11=>?_) (fun g11=>?_)))
    ·have h11:=(not_t g11);refine W.seq (W.region (L.val (x_as (v:=.int _ _) rfl) rfl ?_));refine L.nil (thn_n (W.ret (thn_r (fin_mk (.inr rfl) ?_))));exact ⟨vi (by unfold checkS;rw [if_neg om_,if_neg om_,if_pos h11]),hB⟩
    ·have h11:=(not_f g11);refine W.skip (thn_n (W.seq (W.region (L.val (x_as (v:=.int _ _) rfl) rfl ?_))));refine L.nil (thn_n (W.ret (fin_mk (.inr rfl) ?_)));exact ⟨vi (by unfold checkS;rw [if_neg om_,if_neg om_,if_neg (by rw [h11];simp)]),hB⟩
end Go.Gx
