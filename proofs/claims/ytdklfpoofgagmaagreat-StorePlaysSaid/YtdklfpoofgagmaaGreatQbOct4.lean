/- Numbers and texts taken off bytes; frames taken. Conditions: none. -/
import Derived.Test.YtdklfpoofgagmaaGreatQbOct2
namespace Go.Gx
open Go.Proofs
theorem koct4_en127:Go.Proofs.Enters Tryz.prog 127:=Go.Proofs.enters_of Tryz.func127 kr_ rfl
theorem koct4_en135:Go.Proofs.Enters Tryz.prog 135:=Go.Proofs.enters_of Tryz.func135 kr_ rfl
theorem koct4_mixed:Tryz.prog.follows .mixedOrders=true:=by kernel_rfl
theorem koct4_oc3:oneCellT Tryz.prog 3=true:=by kernel_rfl
theorem koct4_oc4:oneCellT Tryz.prog 4=true:=by kernel_rfl
theorem koct4_oc9:oneCellT Tryz.prog 9=true:=by kernel_rfl
theorem koct4_sz3:(Tryz.prog.info? 3).map (·.size)=some 1:=by kernel_rfl
theorem koct4_sz4:(Tryz.prog.info? 4).map (·.size)=some 1:=by kernel_rfl
theorem koct4_zr4:(Tryz.prog.info? 4).bind (·.zero)=some (Value.bool false):=by kernel_rfl
def beV (l:Str):Nat:=l.foldl (fun n b=>n * 256+b.toNat) 0
theorem beV_snoc (l:Str) (b:UInt8):beV (l++[b])=beV l * 256+b.toNat:=by unfold beV;rw [List.foldl_append];rfl
theorem beV_lt0:∀ (l:Str) (n:Nat),l.foldl (fun n b=>n * 256+b.toNat) n<(n+1) * 256 ^ l.length
  | [],n=>by simp
  | b :: l,n=>by
    have h1:=beV_lt0 l (n * 256+b.toNat);have hb:=b.toNat_lt;have h2:(n * 256+b.toNat+1) * 256 ^ l.length≤((n+1) * 256) * 256 ^ l.length:=Nat.mul_le_mul_right _ om_;rw [List.foldl_cons,List.length_cons,Nat.pow_succ,Nat.mul_comm (256 ^ l.length) 256,← Nat.mul_assoc];omega
theorem beV_lt (l:Str):beV l<256 ^ l.length:=by have:=beV_lt0 l 0;simpa [beV] using this
def takeNum (s:Str) (at_:Nat):Nat × Nat × Int:=
  match s.drop at_ with
  | []=>(0,0,10)
  | f :: r=>
    if f.toNat<248 then (f.toNat,at_+1,0)
    else if r.length<f.toNat - 247 then (0,0,10)
    else if beV (r.take (f.toNat - 247))<248∨widN (beV (r.take (f.toNat - 247)))≠f.toNat - 247 then (0,0,11)
    else (beV (r.take (f.toNat - 247)),at_+1+(f.toNat - 247),0)
def takeText (s:Str) (at_:Nat):Str × Nat × Int:=
  let (n,p,e):=takeNum s at_
  if e≠0 then ([],0,e)
  else if s.length - p<n then ([],0,10)
  else ((s.drop p).take n,p+n,0)
theorem nextB_ok (ba bs bf:Nat) (s:Str) (at_:Nat) (sh:Bool) (w:World) (h1:Box w ba 3 [.int .i64 (at_:Nat)]) (h2:Box w bs 9 [S s]) (h3:Box w bf 4 [.bool sh]) (hat:at_≤s.length) (hs:s.length≤9223372036854775806) (hd:ba≠bs∧ba≠bf∧bs≠bf):
    Ret Tryz.prog 135 #[.pointer (some ⟨ba,0,none⟩),.pointer (some ⟨bs,0,none⟩),.pointer (some ⟨bf,0,none⟩)] w fun v w'=>v=.int .u8 ((s.getD at_ 0).toNat:Nat)∧Box w' ba 3 [.int .i64 (if at_=s.length then at_ else at_+1:Nat)]∧Box w' bs 9 [S s]∧Box w' bf 4 [.bool (sh || decide (at_=s.length))]∧Gr (fun k=>k=ba∨k=bf) w w':=by
  refine ret_of_W Tryz.func135 rfl (Nat.le_of_ble_eq_true rfl) (res1 rfl) ?_;refine W.seq (W.region (L.val (x_as (v:=.int _ _) rfl) rfl ?_));refine L.nil (thn_n (W.seq (W.seq (W.region (L.val (x_ld (v:=.int _ _) koct4_oc3 rfl (h1.cell (i:=0) rfl)) rfl ?_)))));refine L.val (x_ld (v:=S _) koct4_oc9 rfl (h2.cell (i:=0) rfl)) rfl ?_;refine L.val (x_len_str Tryz.underlying9 rfl) rfl ?_;refine L.val (x_eql rfl rfl) rfl ?_;refine L.nil (thn_n (W.cond (b:=_) rfl (fun g7=>?_) (fun g7=>?_)))
  ·have h7:=of_decide_eq_true g7;have he:at_=s.length:=by omega
   refine W.seq (W.region (L.set (v:=.bool _) koct4_sz4 rfl rfl rfl h3 rfl (fun wl6 h3 hw hzl6=>?_)));have h1:=h1.carryR hw om_;have h2:=h2.carryR hw om_;have hG:=hw.mono (R':=fun k=>k=ba∨k=bf) (fun k _ e=>.inr e);refine L.nil (thn_n (W.seq (W.region (L.val (x_as (v:=.int _ _) rfl) rfl ?_))));refine L.nil (thn_n (W.ret (thn_r (fin_mk (.inr rfl) ?_))));have e1:decide (at_=s.length)=true:=decide_eq_true he;have e0:s.getD at_ 0=0:=by rw [List.getD_eq_getElem?_getD,List.getElem?_eq_none om_];rfl
   rw [e1,Bool.or_true,e0,if_pos he];exact ⟨rfl,h1,h2,h3,hG⟩
  ·have h7:=of_decide_eq_false g7;have hlt:at_<s.length:=by omega
   refine W.skip (thn_n (W.seq (W.region (L.val (x_ld (v:=.int _ _) koct4_oc3 rfl (h1.cell (i:=0) rfl)) rfl ?_))));refine L.val (x_add rfl rfl (wr64 om_)) rfl ?_;refine L.set (v:=.int _ _) koct4_sz3 rfl rfl rfl h1 rfl (fun wl10 h1 hw hzl10=>?_);have h2:=h2.carryR hw om_;have h3:=h3.carryR hw om_;have hG:=hw.mono (R':=fun k=>k=ba∨k=bf) (fun k _ e=>.inl e);refine L.nil (thn_n (W.seq (W.region (L.val (x_ld (v:=S _) koct4_oc9 rfl (h2.cell (i:=0) rfl)) rfl ?_))));refine L.val (x_ld (v:=.int _ _) koct4_oc3 rfl (h1.cell (i:=0) rfl)) rfl ?_;refine L.val (x_sub rfl rfl (wr64 om_)) rfl ?_;refine L.val (x_ixs (j:=at_) Tryz.underlying9 rfl rfl om_ om_) rfl ?_;refine L.val (x_as (v:=.int _ _) rfl) rfl ?_;refine L.nil (thn_n (W.ret (fin_mk (.inr rfl) ?_)));have e1:decide (at_=s.length)=false:=decide_eq_false om_;rw [e1,Bool.or_false,if_neg (show ¬ at_=s.length by omega)];exact ⟨rfl,h1,h2,h3,hG⟩
theorem x_shl8 {P:Program} {E:Env} {w:World} {x y:Operand} {t u z:TypeId} {k':IntKind} {n:Nat} (hx:ev E x=.int .u64 (n:Nat)) (hy:ev E y=.int k' 8) (hn:n<72057594037927936):X P (.binOp .shl u x y z) t E w (.int .u64 ((n * 256:Nat):Int)) w:=by
  have h:=x_shl (P:=P) (t:=t) (u:=u) (z:=z) (w:=w) hx hy om_ (by show (8:Int)≤((64:Nat):Int);omega);have e:IntKind.u64.wrap ((n:Int) * 2 ^ (8:Int).toNat)=((n * 256:Nat):Int):=by
    rw [show (8:Int).toNat=8 from rfl];rw [wru64 om_];omega
  rwa [e] at h
theorem x_orB {P:Program} {E:Env} {w:World} {x y:Operand} {t u z:TypeId} {n b:Nat} (hx:ev E x=.int .u64 ((n * 256:Nat):Int)) (hy:ev E y=.int .u64 (b:Nat)) (hn:n<72057594037927936) (hb:b<256):X P (.binOp .or u x y z) t E w (.int .u64 ((n * 256+b:Nat):Int)) w:=by
  have h:=x_bor (P:=P) (t:=t) (u:=u) (z:=z) (w:=w) hx hy;have e:bits .or .u64 ((n * 256:Nat):Int) (b:Nat)=((n * 256+b:Nat):Int):=by
    rw [bits_or_u64_nat _ _ om_ om_];have:=Nat.shiftLeft_add_eq_or_of_lt (i:=8) (b:=b) om_ n;rw [Nat.shiftLeft_eq] at this;rw [← this]
  rwa [e] at h
theorem drop_cons {s:Str} {k:Nat} (h:k<s.length):s.drop k=s.getD k 0 :: s.drop (k+1):=by
  rw [List.drop_eq_getElem_cons h,List.getD_eq_getElem?_getD,List.getElem?_eq_getElem h];rfl
theorem takeNum_end {s:Str} {k:Nat} (h:s.length≤k):takeNum s k=(0,0,10):=by
  unfold takeNum;rw [List.drop_of_length_le h]
theorem takeNum_at {s:Str} {k:Nat} (h:k<s.length):takeNum s k=
    if (s.getD k 0).toNat<248 then ((s.getD k 0).toNat,k+1,0)
    else if s.length - (k+1)<(s.getD k 0).toNat - 247 then (0,0,10)
    else if beV ((s.drop (k+1)).take ((s.getD k 0).toNat - 247))<248∨widN (beV ((s.drop (k+1)).take ((s.getD k 0).toNat - 247)))≠(s.getD k 0).toNat - 247 then (0,0,11)
    else (beV ((s.drop (k+1)).take ((s.getD k 0).toNat - 247)),k+1+((s.getD k 0).toNat - 247),0):=by
  unfold takeNum;rw [drop_cons h];dsimp only;rw [List.length_drop]
def NumSt (s:Str) (at_ K n0 j a n:Nat) (sh:Bool):Prop:=
  a≤s.length∧n<256 ^ j+248∧(0<K→n<256 ^ j)∧(sh=false→a=at_+1+j∧n=if K=0 then n0 else beV ((s.drop (at_+1)).take j))∧(sh=true→s.length<at_+1+j)
theorem takeNum_ok (s:Str) (at_:Nat) (hat:at_≤s.length) (hs:s.length≤1000000000) (w:World):
    Ret Tryz.prog 118 #[S s,.int .i64 (at_:Nat)] w fun v w'=>v=.tuple #[.int .u64 ((takeNum s at_).1:Nat),.int .i64 ((takeNum s at_).2.1:Nat),.int .i64 (takeNum s at_).2.2]∧Bel w w':=by
  have hb8:=b8_lt (s.getD at_ 0);refine ret_of_W Tryz.func118 rfl (Nat.le_of_ble_eq_true rfl) (res3 rfl) ?_;have hB:=Gr.refl (fun _=>False) w;refine W.seq (W.region (L.box (cs:=[S s]) rfl rfl (fun w2 bx2 hw hz2=>?_)));have hB:=hB.carry hw;refine L.box (cs:=[.int .i64 (at_:Nat)]) rfl rfl (fun w3 bx3 hw hz3=>?_);have hB:=hB.carry hw;have bx2:=bx2.carry hw;(iterate 3 refine L.val (x_as (v:=.int _ _) rfl) rfl ?_);refine L.nil (thn_n (W.seq (W.seq (W.region (L.val (x_ld (v:=.int _ _) koct4_oc3 rfl (bx3.cell (i:=0) rfl)) rfl ?_)))));refine L.val (x_lss rfl rfl) rfl ?_;refine L.val (x_mv (v:=.bool _) rfl) rfl ?_;refine' L.group0 4 15 18 18 14 false rfl ?_ ?_ ?_;rotate_left 1
  ·intro g14;have h14:=dlt_f g14;refine L.gyes' (dj:=14) (b:=_) rfl rfl g14 ?_;refine L.val (x_ld (v:=.int _ _) koct4_oc3 rfl (bx3.cell (i:=0) rfl)) rfl ?_;refine L.gyes' (dj:=14) (b:=_) rfl rfl g14 ?_;refine L.val (x_ld (v:=S _) koct4_oc9 rfl (bx2.cell (i:=0) rfl)) rfl ?_;refine L.gyes' (dj:=14) (b:=_) rfl rfl g14 ?_;refine L.val (x_len_str Tryz.underlying9 rfl) rfl ?_;refine L.gyes' (dj:=14) (b:=_) rfl rfl g14 ?_;refine L.val (x_gtr rfl rfl) rfl ?_;refine L.nil (thn_n ⟨rfl,rfl,?_,rfl⟩);repeat (first | exact jeq.refl _ _ _ | refine jeq.upd rfl ?_ | refine jeq.jk rfl rfl ?_)
  ·intro g14;(iterate 4 refine L.gno (dj:=14) (b:=_) rfl rfl g14 rfl ?_);refine L.nil (thn_n ⟨rfl,rfl,?_⟩);repeat (first | exact jeq.refl _ _ _ | refine jeq.upd rfl ?_ | refine jeq.jk rfl rfl ?_)
  intro J14 j14;refine L.val (x_or rfl j14) rfl ?_;refine L.nil (thn_n (W.cond (b:=_) rfl (fun g19=>?_) (fun g19=>?_)))
  ·have h19:=g19;simp only [Bool.or_eq_true,decide_eq_true_eq] at g19;omega
  ·have h19:=g19;refine W.skip (thn_n (W.seq (W.region (L.alloc (cs:=[Value.bool false]) koct4_zr4 rfl rfl (fun w7 bx7 hw hz7=>?_)))));have hB:=hB.carry hw;have bx2:=bx2.carry hw;have bx3:=bx3.carry hw;refine L.set (v:=.bool _) koct4_sz4 rfl rfl rfl bx7 rfl (fun wl18 bx7 hw hzl18=>?_);have hsz:=hB.size;have hB:=hB.set hw om_;have bx2:=bx2.carryR hw om_;have bx3:=bx3.carryR hw om_;refine L.nil (thn_n (W.seq (W.region ?_)));have hz3:=hz3;refine L.val (x_mkfn rfl rfl) rfl ?_;refine L.val (x_as (v:=_) rfl) rfl ?_;refine L.nil (thn_n (W.seq (W.region (L.val (x_mv (v:=_) rfl) rfl ?_))));refine L.ret (x_callv koct4_en135 rfl rfl) rfl (nextB_ok _ _ _ s at_ false _ bx3 bx2 bx7 hat om_ ⟨by omega,by omega,by omega⟩) ?_;rintro _ w22 ⟨rfl,bx3,bx2,bx7,hG22⟩;have hsz22:=hG22.size;have hB:=hB.step hG22 (fun i hi e=>by rcases e with rfl | rfl <;> omega);rw [Bool.false_or] at bx7;refine L.val (x_as (v:=.int _ _) rfl) rfl ?_;refine L.nil (thn_n (W.seq (W.region (L.val (x_mv (v:=.int _ _) rfl) rfl ?_))));refine L.val (x_conv (k':=.u64) (by rw [Tryz.underlying5];rfl) Tryz.underlying80 rfl (wru64 om_)) rfl ?_;refine L.val (x_as (v:=.int _ _) rfl) rfl ?_;refine L.val (x_as (v:=.int _ _) rfl) rfl ?_;refine L.nil (thn_n (W.cut (fun D' E' w'=>D'=[]∧∃ K n0:Nat,w'=w22∧E' 2=.pointer (some ⟨w.heap.size,0,none⟩)∧E' 3=.pointer (some ⟨w2.heap.size,0,none⟩)∧E' 7=.pointer (some ⟨w3.heap.size,0,none⟩)∧E' 8=(Value.func (.func 135) ([]:List Value).toArray [.pointer (some ⟨w2.heap.size,0,none⟩),.pointer (some ⟨w.heap.size,0,none⟩),.pointer (some ⟨w3.heap.size,0,none⟩)].toArray)∧E' 10=.int .u64 (n0:Nat)∧E' 11=.int .i64 (K:Nat)∧((s.getD at_ 0).toNat<248∧K=0∧n0=(s.getD at_ 0).toNat∨248≤(s.getD at_ 0).toNat∧K=(s.getD at_ 0).toNat - 247∧n0=0)) ?_ ?_))
   ·refine W.seq (W.region (L.val (x_mv (v:=.int _ _) rfl) rfl ?_));refine L.val (x_geq rfl rfl) rfl ?_;refine L.nil (thn_n (W.cond (b:=_) rfl (fun g26=>?_) (fun g26=>?_)))
    ·have h26:=of_decide_eq_true g26;have hf:248≤(s.getD at_ 0).toNat:=by omega
     have hKn:(s.getD at_ 0).toNat<248∧(s.getD at_ 0).toNat - 247=0∧0=(s.getD at_ 0).toNat∨248≤(s.getD at_ 0).toNat∧(s.getD at_ 0).toNat - 247=(s.getD at_ 0).toNat - 247∧0=0:=.inr ⟨hf,rfl,rfl⟩;refine W.region (L.val (x_mv (v:=.int _ _) rfl) rfl ?_);refine L.val (x_conv (k':=.i64) (by rw [Tryz.underlying5];rfl) Tryz.underlying3 rfl (wr64 om_)) rfl ?_;refine L.val (x_sub rfl rfl (wr64 om_)) rfl ?_;refine L.val (x_add rfl rfl (wr64 om_)) rfl ?_;refine L.val (x_as (v:=.int _ _) rfl) rfl ?_;refine L.val (x_as (v:=.int _ _) rfl) rfl ?_;refine L.nil (thn_n ?_);exact ⟨rfl,(s.getD at_ 0).toNat - 247,0,rfl,rfl,rfl,rfl,rfl,rfl,congrArg (Value.int .i64) om_,.inr ⟨hf,rfl,rfl⟩⟩
    ·have h26:=dle_f g26;have hf:(s.getD at_ 0).toNat<248:=by omega
     refine W.skip (thn_n ?_);exact ⟨rfl,0,(s.getD at_ 0).toNat,rfl,rfl,rfl,rfl,rfl,rfl,rfl,.inl ⟨hf,rfl,rfl⟩⟩
   ·rintro D E w31 ⟨rfl,K,n0,rfl,e2,e3,e7,e8,e10,e11,hK⟩;rw [upd_self e2,upd_self e3,upd_self e7,upd_self e8,upd_self e10,upd_self e11];have hK8:K≤8:=by omega
    have hst0:NumSt s at_ K n0 0 (if at_=s.length then at_ else at_+1) n0 (decide (at_=s.length)):=by
      refine ⟨by split <;> omega,by omega,fun h=>by omega,fun h=>?_,fun h=>?_⟩
      · have:¬ at_=s.length:=of_decide_eq_false h;rw [if_neg this];refine ⟨rfl,?_⟩;split
        · rfl
        · rw [List.take_zero];show n0=0;omega
      · have:=of_decide_eq_true h;omega
    refine W.seq (W.seq (W.region (L.val (x_mv (v:=.int _ _) rfl) rfl ?_)));refine L.val (x_mv (v:=.int _ _) rfl) rfl ?_;refine L.nil (thn_n (W.block (W.loop (fun m' E w'=>∃ (j a n:Nat) (sh:Bool),m'=K - j∧E 2=.pointer (some ⟨w.heap.size,0,none⟩)∧E 3=.pointer (some ⟨w2.heap.size,0,none⟩)∧E 7=.pointer (some ⟨w3.heap.size,0,none⟩)∧E 8=(Value.func (.func 135) ([]:List Value).toArray [.pointer (some ⟨w2.heap.size,0,none⟩),.pointer (some ⟨w.heap.size,0,none⟩),.pointer (some ⟨w3.heap.size,0,none⟩)].toArray)∧E 10=.int .u64 (n:Nat)∧E 11=.int .i64 (K:Nat)∧E 31=.int .i64 (K:Nat)∧E 32=.int .i64 (j:Nat)∧(j≤K)∧(Bel w w')∧(Box w' w.heap.size 9 [S s])∧(Box w' w2.heap.size 3 [.int .i64 (a:Nat)])∧(Box w' w3.heap.size 4 [.bool sh])∧(NumSt s at_ K n0 j a n sh)) (K) ?_ ?_)))
    ·exact ⟨0,_,n0,_,by omega,by first | rfl | exact vi om_ | exact vs (by first | assumption | (rw [hst];done) | (rw [hst];simp only [List.append_assoc])),by first | rfl | exact vi om_ | exact vs (by first | assumption | (rw [hst];done) | (rw [hst];simp only [List.append_assoc])),by first | rfl | exact vi om_ | exact vs (by first | assumption | (rw [hst];done) | (rw [hst];simp only [List.append_assoc])),by first | rfl | exact vi om_ | exact vs (by first | assumption | (rw [hst];done) | (rw [hst];simp only [List.append_assoc])),by first | rfl | exact vi om_ | exact vs (by first | assumption | (rw [hst];done) | (rw [hst];simp only [List.append_assoc])),by first | rfl | exact vi om_ | exact vs (by first | assumption | (rw [hst];done) | (rw [hst];simp only [List.append_assoc])),by first | rfl | exact vi om_ | exact vs (by first | assumption | (rw [hst];done) | (rw [hst];simp only [List.append_assoc])),by first | rfl | exact vi om_ | exact vs (by first | assumption | (rw [hst];done) | (rw [hst];simp only [List.append_assoc])),ao_,ao_,ao_,ao_,ao_,(by exact hst0)⟩
    ·rintro _ E wL33 ⟨j,a,n,sh,em,e2,e3,e7,e8,e10,e11,e31,e32,hj,hB,bx2,bx3,bx7,hst⟩;rw [upd_self e2,upd_self e3,upd_self e7,upd_self e8,upd_self e10,upd_self e11,upd_self e31,upd_self e32];refine W.seq (W.region (L.val (x_lss rfl rfl) rfl ?_));refine L.nil (thn_n (W.seq (W.cond (b:=_) rfl (fun g33=>?_) (fun g33=>?_))))
     ·have h33:=of_decide_eq_true g33;have hlt:j<K:=by omega
      obtain ⟨s1,-,s2,s3,s4⟩:=hst;have hn7:n<72057594037927936:=Nat.lt_of_lt_of_le (s2 om_) (Nat.le_trans (Nat.pow_le_pow_right om_ (show j≤7 by omega)) (by decide));have hba:=b8_lt (s.getD a 0);refine W.skip (thn_n (W.seq (W.block (W.region (L.val (x_mv (v:=.int _ _) rfl) rfl ?_)))));refine L.val (x_shl8 rfl rfl hn7) rfl ?_;refine L.val (x_mv (v:=_) rfl) rfl ?_;refine L.ret (x_callv koct4_en135 rfl rfl) rfl (nextB_ok _ _ _ s a sh _ bx3 bx2 bx7 s1 om_ ⟨by omega,by omega,by omega⟩) ?_;rintro _ w37 ⟨rfl,bx3,bx2,bx7,hG37⟩;refine L.val (x_conv (k':=.u64) (by rw [Tryz.underlying5];rfl) Tryz.underlying80 rfl (wru64 om_)) rfl ?_;refine L.val (x_orB (n:=n) (b:=(s.getD a 0).toNat) rfl rfl hn7 om_) rfl ?_;have hB:=hB.step hG37 (fun i hi e=>by rcases e with rfl | rfl <;> omega);have hst2:NumSt s at_ K n0 (j+1) (if a=s.length then a else a+1) (n * 256+(s.getD a 0).toNat) (sh || decide (a=s.length)):=by
        have hp:n * 256+(s.getD a 0).toNat<256 ^ (j+1):=by have:=s2 om_;rw [Nat.pow_succ];omega
        refine ⟨by split <;> omega,by omega,fun _=>hp,fun h=>?_,fun h=>?_⟩
        · rw [Bool.or_eq_false_iff] at h;have hne:¬ a=s.length:=of_decide_eq_false h.2;obtain ⟨ea,en⟩:=s3 h.1;rw [if_neg hne];refine ⟨by omega,?_⟩;rw [if_neg om_] at en ⊢;have e1:(s.drop (at_+1)).take (j+1)=(s.drop (at_+1)).take j++[s.getD a 0]:=by
            rw [take_snoc (d:=0) (by rw [List.length_drop];omega),List.getD_eq_getElem?_getD,List.getElem?_drop,← ea,← List.getD_eq_getElem?_getD]
          rw [e1,beV_snoc,en]
        · rw [Bool.or_eq_true] at h;rcases h with h | h
          · have:=s4 h;omega
          · have:=of_decide_eq_true h;cases hsh:sh with
            | true=>have:=s4 hsh;omega
            | false=>have:=(s3 hsh).1;omega
      refine L.val (x_as (v:=.int _ _) rfl) rfl ?_;refine L.nil (blk_n (thn_n (W.region (L.val (x_add rfl rfl (wr64 om_)) rfl ?_))));refine L.val (x_mv (v:=.int _ _) rfl) rfl ?_;refine L.nil (thn_n ⟨rfl,?_⟩);refine ⟨_,?_,j+1,_,_,_,rfl,by first | rfl | exact vi om_ | exact vs (by first | assumption | (rw [hst];done) | (rw [hst];simp only [List.append_assoc])),by first | rfl | exact vi om_ | exact vs (by first | assumption | (rw [hst];done) | (rw [hst];simp only [List.append_assoc])),by first | rfl | exact vi om_ | exact vs (by first | assumption | (rw [hst];done) | (rw [hst];simp only [List.append_assoc])),by first | rfl | exact vi om_ | exact vs (by first | assumption | (rw [hst];done) | (rw [hst];simp only [List.append_assoc])),by first | rfl | exact vi om_ | exact vs (by first | assumption | (rw [hst];done) | (rw [hst];simp only [List.append_assoc])),by first | rfl | exact vi om_ | exact vs (by first | assumption | (rw [hst];done) | (rw [hst];simp only [List.append_assoc])),by first | rfl | exact vi om_ | exact vs (by first | assumption | (rw [hst];done) | (rw [hst];simp only [List.append_assoc])),by first | rfl | exact vi om_ | exact vs (by first | assumption | (rw [hst];done) | (rw [hst];simp only [List.append_assoc])),ao_,ao_,ao_,ao_,ao_,(by exact hst2)⟩;omega
     ·have h33:=dlt_f g33;have hjK:j=K:=by omega
      subst hjK;obtain ⟨s1,s5,s2,s3,s4⟩:=hst;have hnb:n<18446744073709551616:=by
        by_cases h0:0<j
        · exact Nat.lt_of_lt_of_le (s2 h0) (Nat.le_trans (Nat.pow_le_pow_right om_ hK8) (by decide))
        · have:j=0:=by omega
          subst this;omega
      refine W.exit (thn_x (thn_x (blk_hit ?_)));refine thn_n (W.seq (W.block (W.seq (W.region (L.val (x_ld (v:=.bool _) koct4_oc4 rfl (bx7.cell (i:=0) rfl)) rfl ?_)))));refine L.val (x_as (v:=.bool _) rfl) rfl ?_;refine L.nil (thn_n (W.cond (b:=_) rfl (fun g42=>?_) (fun g42=>?_)))
      ·have h42:=g42;have hlt:=s4 g42;have e:takeNum s at_=(0,0,10):=by
         by_cases he:at_=s.length
         · exact takeNum_end om_
         · rw [takeNum_at om_,if_neg om_,if_pos om_]
       refine W.seq (W.region ?_);(iterate 3 refine L.val (x_as (v:=.int _ _) rfl) rfl ?_);refine L.nil (thn_n (W.ret (blk_r (thn_r (fin_mk (.inr rfl) ?_)))));rw [e];exact ⟨rfl,hB⟩
      ·have h42:=g42;obtain ⟨ea,en⟩:=s3 g42;have hat2:at_<s.length:=by omega
       refine W.seq (W.region (L.val (x_mv (v:=.int _ _) rfl) rfl ?_));refine L.val (x_gtr rfl rfl) rfl ?_;refine L.val (x_mv (v:=.bool _) rfl) rfl ?_;refine L.splitat (dj:=46) (b:=_) rfl (fun g46=>?_) (fun g46=>?_)
       ·have h46:=of_decide_eq_true g46;have hf8:248≤(s.getD at_ 0).toNat:=by omega
        have hj7:(s.getD at_ 0).toNat - 247=j:=by omega
        have hlen:at_+1+j≤s.length:=by omega
        rw [if_neg om_] at en;have e0:takeNum s at_=if n<248∨widN n≠j then (0,0,11) else (n,at_+1+j,0):=by
          rw [takeNum_at hat2,if_neg om_,if_neg om_,hj7,← en]
        refine L.gyes' (dj:=46) (b:=_) rfl rfl g46 ?_;refine L.val (x_mv (v:=.int _ _) rfl) rfl ?_;refine L.gyes' (dj:=46) (b:=_) rfl rfl g46 ?_;refine L.val (x_lss rfl rfl) rfl ?_;refine L.gyes' (dj:=46) (b:=_) rfl rfl g46 ?_;refine L.val (x_mv (v:=.bool _) rfl) rfl ?_;refine L.splitat (dj:=49) (b:=_) rfl (fun g49=>?_) (fun g49=>?_)
        ·have h49:=of_decide_eq_true g49;have e:takeNum s at_=(0,0,11):=by rw [e0,if_pos (.inl om_)]
         (iterate 4 refine L.gno (dj:=49) (b:=_) rfl rfl g49 rfl ?_);refine L.gyes' (dj:=46) (b:=_) rfl rfl g46 ?_;refine L.val (x_pick_t (v:=.bool _) (congrArg Value.bool g49) rfl) rfl ?_;refine L.val (x_pick_t (v:=.bool _) (congrArg Value.bool g46) rfl) rfl ?_;refine L.val (x_as (v:=.bool _) rfl) rfl ?_;refine L.nil (thn_n (W.cond (b:=true) rfl (fun _=>?_) (fun h=>nomatch h)));refine W.seq (W.region ?_);(iterate 3 refine L.val (x_as (v:=.int _ _) rfl) rfl ?_);refine L.nil (thn_n (W.ret (blk_r (thn_r (fin_mk (.inr rfl) ?_)))));rw [e];exact ⟨rfl,hB⟩
        ·have h49:=dlt_f g49;refine L.gyes' (dj:=49) (b:=_) rfl rfl g49 ?_;refine L.val (x_mv (v:=.int _ _) rfl) rfl ?_;refine L.gyes' (dj:=49) (b:=_) rfl rfl g49 ?_;refine L.ret (x_call koct4_en127 rfl) rfl (width_ok n hnb _) ?_;rintro _ w51 ⟨rfl,hq51⟩;rw [hq51];refine L.gyes' (dj:=49) (b:=_) rfl rfl g49 ?_;refine L.val (x_mv (v:=.int _ _) rfl) rfl ?_;refine L.gyes' (dj:=49) (b:=_) rfl rfl g49 ?_;refine L.val (x_neq rfl rfl) rfl ?_;refine L.gyes' (dj:=46) (b:=_) rfl rfl g46 ?_;refine L.val (x_pick_f (v:=.bool _) (congrArg Value.bool g49) rfl) rfl ?_;refine L.val (x_pick_t (v:=.bool _) (congrArg Value.bool g46) rfl) rfl ?_;refine L.val (x_as (v:=.bool _) rfl) rfl ?_;refine L.nil (thn_n (W.cond (b:=_) rfl (fun g53=>?_) (fun g53=>?_)))
         ·have h53:=dne_t g53;have e:takeNum s at_=(0,0,11):=by rw [e0,if_pos (.inr om_)]
          refine W.seq (W.region ?_);(iterate 3 refine L.val (x_as (v:=.int _ _) rfl) rfl ?_);refine L.nil (thn_n (W.ret (blk_r (thn_r (fin_mk (.inr rfl) ?_)))));rw [e];exact ⟨rfl,hB⟩
         ·have h53:=dne_f g53;have e:takeNum s at_=(n,at_+1+j,0):=by rw [e0,if_neg om_]
          refine W.skip (blk_n (thn_n (W.seq (W.drawB koct4_mixed kr_ ?_))));refine LQ.val (fun w hw=>x_mv (v:=.int _ _) rfl) rfl ?_;refine LQ.val (fun w hw=>x_ld (v:=.int _ _) koct4_oc3 rfl (hw.keep (bx3.cell (i:=0) rfl))) rfl ?_;(iterate 3 refine LQ.val (fun w hw=>x_as (v:=.int _ _) rfl) rfl ?_);refine LQ.nil ?_;intro w56 hw;have hB:=hB.carry hw;have bx2:=bx2.carry hw;have bx3:=bx3.carry hw;have bx7:=bx7.carry hw;refine thn_n (W.ret (fin_mk (.inr rfl) ?_));rw [e,ea];exact ⟨rfl,hB⟩
       ·have h46:=dlt_f g46;have hj0:j=0:=by omega
        subst hj0;rw [if_pos rfl] at en;have e:takeNum s at_=(n,at_+1,0):=by
          rw [takeNum_at hat2,if_pos om_];have:n=(s.getD at_ 0).toNat:=by omega
          rw [this]
        (iterate 3 refine L.gno (dj:=46) (b:=_) rfl rfl g46 rfl ?_);(iterate 4 refine L.gun (dj:=49) rfl rfl rfl ?_);refine L.gno (dj:=46) (b:=_) rfl rfl g46 rfl ?_;refine L.val (x_pick_f (v:=.bool _) (congrArg Value.bool g46) rfl) rfl ?_;refine L.val (x_as (v:=.bool _) rfl) rfl ?_;refine L.nil (thn_n (W.cond (b:=false) rfl (fun h=>nomatch h) (fun _=>?_)));refine W.skip (blk_n (thn_n (W.seq (W.drawB koct4_mixed kr_ ?_))));refine LQ.val (fun w hw=>x_mv (v:=.int _ _) rfl) rfl ?_;refine LQ.val (fun w hw=>x_ld (v:=.int _ _) koct4_oc3 rfl (hw.keep (bx3.cell (i:=0) rfl))) rfl ?_;(iterate 3 refine LQ.val (fun w hw=>x_as (v:=.int _ _) rfl) rfl ?_);refine LQ.nil ?_;intro w56 hw;have hB:=hB.carry hw;have bx2:=bx2.carry hw;have bx3:=bx3.carry hw;have bx7:=bx7.carry hw;refine thn_n (W.ret (fin_mk (.inr rfl) ?_));rw [e,ea];exact ⟨rfl,hB⟩
end Go.Gx
namespace Go.Gx
open Go.Proofs
theorem koct5_en106:Go.Proofs.Enters Tryz.prog 106:=Go.Proofs.enters_of Tryz.func106 kr_ rfl
theorem koct5_en118:Go.Proofs.Enters Tryz.prog 118:=Go.Proofs.enters_of Tryz.func118 kr_ rfl
theorem koct5_en119:Go.Proofs.Enters Tryz.prog 119:=Go.Proofs.enters_of Tryz.func119 kr_ rfl
theorem koct5_en134:Go.Proofs.Enters Tryz.prog 134:=Go.Proofs.enters_of Tryz.func134 kr_ rfl
theorem koct5_mixed:Tryz.prog.follows .mixedOrders=true:=by kernel_rfl
theorem koct5_oc9:oneCellT Tryz.prog 9=true:=by kernel_rfl
theorem takeNum_le {s:Str} {k:Nat} (h:(takeNum s k).2.2=0):k<(takeNum s k).2.1∧(takeNum s k).2.1≤s.length∧k<s.length:=by
  by_cases hk:k<s.length
  · rw [takeNum_at hk] at h ⊢;split at h
    · rename_i h1;rw [if_pos h1];exact ⟨by show k<k+1;omega,by show k+1≤_;omega,hk⟩
    · rename_i h1
      rw [if_neg h1];split at h
      · cases h
      · rename_i h2
        rw [if_neg h2];split at h
        · cases h
        · rename_i h3
          rw [if_neg h3];exact ⟨by show k<k+1+_;omega,by show k+1+_≤_;omega,hk⟩
  · rw [takeNum_end om_] at h;cases h
theorem takeNum_lt (s:Str) (k:Nat):(takeNum s k).1<18446744073709551616:=by
  by_cases hk:k<s.length
  · rw [takeNum_at hk];have hb:=b8_lt (s.getD k 0);split
    · show (s.getD k 0).toNat<_;omega
    · split
      · exact (by omega:(0:Nat)<18446744073709551616)
      · split
        · exact (by omega:(0:Nat)<18446744073709551616)
        · have h1:beV ((s.drop (k+1)).take ((s.getD k 0).toNat - 247))<256 ^ 8:=Nat.lt_of_lt_of_le (beV_lt _) (Nat.pow_le_pow_right om_ (by rw [List.length_take];omega));have h3:(256:Nat) ^ 8=18446744073709551616:=by decide
          rw [h3] at h1;dsimp only;exact h1
  · have h0:(takeNum s k).1=0:=by rw [takeNum_end om_]
    rw [h0];omega
theorem takeText_eq (s:Str) (k:Nat):takeText s k=if (takeNum s k).2.2≠0 then ([],0,(takeNum s k).2.2) else if s.length - (takeNum s k).2.1<(takeNum s k).1 then ([],0,10) else ((s.drop (takeNum s k).2.1).take (takeNum s k).1,(takeNum s k).2.1+(takeNum s k).1,0):=rfl
theorem takeText_ok (s:Str) (at_:Nat) (hat:at_≤s.length) (hs:s.length≤1000000000) (w:World):
    Ret Tryz.prog 119 #[S s,.int .i64 (at_:Nat)] w fun v w'=>v=.tuple #[S (takeText s at_).1,.int .i64 ((takeText s at_).2.1:Nat),.int .i64 (takeText s at_).2.2]∧Bel w w':=by
  have hlt:=takeNum_lt s at_;rw [takeText_eq];refine ret_of_W Tryz.func119 rfl (Nat.le_of_ble_eq_true rfl) (res3 rfl) ?_;have hB:=Gr.refl (fun _=>False) w;refine W.seq (W.region (L.val (x_as (v:=S _) rfl) rfl ?_));refine L.val (x_as (v:=.int _ _) rfl) rfl ?_;refine L.val (x_as (v:=.int _ _) rfl) rfl ?_;refine L.nil (thn_n (W.seq (W.region (L.val (x_mv (v:=S _) rfl) rfl ?_))));refine L.val (x_mv (v:=.int _ _) rfl) rfl ?_;refine L.ret (x_call koct5_en118 rfl) rfl (takeNum_ok s at_ hat hs _) ?_;rintro _ w14 ⟨rfl,hw⟩;have hB:=hB.carry hw;refine L.val (x_mv (v:=_) rfl) rfl ?_;(iterate 3 refine L.val (x_ext (v:=.int _ _) rfl rfl) rfl ?_);(iterate 3 refine L.val (x_as (v:=.int _ _) rfl) rfl ?_);refine L.nil (thn_n (W.seq (W.seq (W.region (L.val (x_mv (v:=.int _ _) rfl) rfl ?_)))));refine L.val (x_neq rfl rfl) rfl ?_;refine L.nil (thn_n (W.cond (b:=_) rfl (fun g19=>?_) (fun g19=>?_)))
  ·have h19:=dne_t g19;have he:(takeNum s at_).2.2≠0:=h19;refine W.seq (W.region (L.val (x_mv (v:=.int _ _) rfl) rfl ?_));refine L.val (x_as (v:=S _) rfl) rfl ?_;refine L.val (x_as (v:=.int _ _) rfl) rfl ?_;refine L.val (x_as (v:=.int _ _) rfl) rfl ?_;refine L.nil (thn_n (W.ret (thn_r (fin_mk (.inr rfl) ?_))));rw [if_pos he];exact ⟨rfl,hB⟩
  ·have h19:=dne_f g19;have he:(takeNum s at_).2.2=0:=by simpa using h19
   obtain ⟨l1,l2,l3⟩:=takeNum_le he;rw [if_neg (by rw [he];decide)];refine W.skip (thn_n (W.seq (W.seq (W.region (L.val (x_mv (v:=.int _ _) rfl) rfl ?_)))));refine L.val (x_mv (v:=S _) rfl) rfl ?_;refine L.val (x_len_str Tryz.underlying9 rfl) rfl ?_;refine L.val (x_mv (v:=.int _ _) rfl) rfl ?_;refine L.val (x_sub rfl rfl (wr64 om_)) rfl ?_;refine L.val (x_conv (k':=.u64) (by rw [Tryz.underlying3];rfl) Tryz.underlying80 rfl (wru64 om_)) rfl ?_;refine L.val (x_gtr rfl rfl) rfl ?_;refine L.nil (thn_n (W.cond (b:=_) rfl (fun g27=>?_) (fun g27=>?_)))
   ·have h27:=of_decide_eq_true g27;have h2:s.length - (takeNum s at_).2.1<(takeNum s at_).1:=by omega
    refine W.seq (W.region (L.val (x_as (v:=S _) rfl) rfl ?_));refine L.val (x_as (v:=.int _ _) rfl) rfl ?_;refine L.val (x_as (v:=.int _ _) rfl) rfl ?_;refine L.nil (thn_n (W.ret (thn_r (fin_mk (.inr rfl) ?_))));rw [if_pos h2];exact ⟨rfl,hB⟩
   ·have h27:=dlt_f g27;have h2:¬ s.length - (takeNum s at_).2.1<(takeNum s at_).1:=by omega
    rw [if_neg h2];refine W.skip (thn_n (W.seq (W.region (L.val (x_mv (v:=.int _ _) rfl) rfl ?_))));refine L.val (x_mv (v:=.int _ _) rfl) rfl ?_;refine L.val (x_conv (k':=.i64) (by rw [Tryz.underlying80];rfl) Tryz.underlying3 rfl (wr64 om_)) rfl ?_;refine L.val (x_add rfl rfl (wr64 om_)) rfl ?_;refine L.val (x_as (v:=.int _ _) rfl) rfl ?_;refine L.nil (thn_n (W.seq (W.region (L.val (x_mv (v:=S _) rfl) rfl ?_))));refine L.val (x_mv (v:=.int _ _) rfl) rfl ?_;refine L.val (x_mv (v:=.int _ _) rfl) rfl ?_;refine L.val (x_slAB (j:=(takeNum s at_).2.1) (j':=(takeNum s at_).2.1+(takeNum s at_).1) Tryz.underlying9 rfl rfl rfl rfl om_ om_ om_) rfl ?_;refine L.val (x_mv (v:=.int _ _) rfl) rfl ?_;refine L.val (x_as (v:=S _) rfl) rfl ?_;refine L.val (x_as (v:=.int _ _) rfl) rfl ?_;refine L.val (x_as (v:=.int _ _) rfl) rfl ?_;refine L.nil (thn_n (W.ret (fin_mk (.inr rfl) ?_)));rw [show (takeNum s at_).2.1+(takeNum s at_).1 - (takeNum s at_).2.1=(takeNum s at_).1 by omega];exact ⟨by rw [Int.natCast_add];rfl,hB⟩
def takeF (s:Str) (k:Nat):Str × Nat × Int:=
  if (takeText s k).2.2≠0 then ([],0,(takeText s k).2.2)
  else if 20000<(takeText s k).1.length then ([],0,3)
  else if s.length - (takeText s k).2.1<4 then ([],0,10)
  else if sumB ((s.drop k).take ((takeText s k).2.1 - k))≠(s.drop (takeText s k).2.1).take 4 then ([],0,200)
  else ((takeText s k).1,(takeText s k).2.1+4,0)
theorem takeText_le {s:Str} {k:Nat} (h:(takeText s k).2.2=0):k<(takeText s k).2.1∧(takeText s k).2.1≤s.length∧k<s.length:=by
  rw [takeText_eq] at h ⊢;split at h
  · rename_i h1;exact absurd h h1
  · rename_i h1
    rw [if_neg h1];obtain ⟨l1,l2,l3⟩:=takeNum_le (by simpa using h1);split at h
    · cases h
    · rename_i h2
      rw [if_neg h2];exact ⟨by show k<_+_;omega,by show _+_≤_;omega,l3⟩
theorem takeText_len (s:Str) (k:Nat):(takeText s k).1.length≤s.length:=by
  rw [takeText_eq];split
  · simp
  · split
    · simp
    · rw [List.length_take,List.length_drop];omega
theorem takeF_le {s:Str} {k:Nat} (h:(takeF s k).2.2=0):k+4<(takeF s k).2.1∧(takeF s k).2.1≤s.length∧k<s.length:=by
  unfold takeF at h ⊢;split at h
  · rename_i h1;exact absurd h h1
  · rename_i h1
    rw [if_neg h1];obtain ⟨l1,l2,l3⟩:=takeText_le (by simpa using h1);split at h
    · cases h
    · rename_i h2
      rw [if_neg h2];split at h
      · cases h
      · rename_i h3
        rw [if_neg h3];split at h
        · cases h
        · rename_i h4
          rw [if_neg h4];exact ⟨by show k+4<_+4;omega,by show _+4≤_;omega,l3⟩
theorem take_ok (s:Str) (at_:Nat) (hat:at_≤s.length) (hs:s.length≤1000000000) (w:World):
    Ret Tryz.prog 134 #[S s,.int .i64 (at_:Nat)] w fun v w'=>v=.tuple #[S (takeF s at_).1,.int .i64 ((takeF s at_).2.1:Nat),.int .i64 (takeF s at_).2.2]∧Bel w w':=by
  have hlen:=takeText_len s at_;unfold takeF;refine ret_of_W Tryz.func134 rfl (Nat.le_of_ble_eq_true rfl) (res3 rfl) ?_;have hB:=Gr.refl (fun _=>False) w;refine W.seq (W.region (L.val (x_as (v:=S _) rfl) rfl ?_));refine L.val (x_as (v:=.int _ _) rfl) rfl ?_;refine L.val (x_as (v:=.int _ _) rfl) rfl ?_;refine L.nil (thn_n (W.seq (W.region (L.val (x_mv (v:=S _) rfl) rfl ?_))));refine L.val (x_mv (v:=.int _ _) rfl) rfl ?_;refine L.ret (x_call koct5_en119 rfl) rfl (takeText_ok s at_ hat hs _) ?_;rintro _ w13 ⟨rfl,hw⟩;have hB:=hB.carry hw;refine L.val (x_mv (v:=_) rfl) rfl ?_;refine L.val (x_ext (v:=S _) rfl rfl) rfl ?_;refine L.val (x_ext (v:=.int _ _) rfl rfl) rfl ?_;refine L.val (x_ext (v:=.int _ _) rfl rfl) rfl ?_;refine L.val (x_as (v:=S _) rfl) rfl ?_;refine L.val (x_as (v:=.int _ _) rfl) rfl ?_;refine L.val (x_as (v:=.int _ _) rfl) rfl ?_;refine L.nil (thn_n (W.seq (W.block (W.seq (W.region (L.val (x_mv (v:=.int _ _) rfl) rfl ?_))))));refine L.val (x_neq rfl rfl) rfl ?_;refine L.val (x_as (v:=.bool _) rfl) rfl ?_;refine L.nil (thn_n (W.cond (b:=_) rfl (fun g19=>?_) (fun g19=>?_)))
  ·have h19:=dne_t g19;have he:(takeText s at_).2.2≠0:=h19;refine W.seq (W.region (L.val (x_mv (v:=.int _ _) rfl) rfl ?_));refine L.val (x_as (v:=S _) rfl) rfl ?_;refine L.val (x_as (v:=.int _ _) rfl) rfl ?_;refine L.val (x_as (v:=.int _ _) rfl) rfl ?_;refine L.nil (thn_n (W.ret (blk_r (thn_r (fin_mk (.inr rfl) ?_)))));rw [if_pos he];exact ⟨rfl,hB⟩
  ·have h19:=dne_f g19;have he:(takeText s at_).2.2=0:=by simpa using h19
   obtain ⟨l1,l2,l3⟩:=takeText_le he;rw [if_neg (by rw [he];decide)];refine W.seq (W.region (L.val (x_mv (v:=S _) rfl) rfl ?_));refine L.val (x_len_str Tryz.underlying9 rfl) rfl ?_;refine L.val (x_gtr rfl rfl) rfl ?_;refine L.val (x_as (v:=.bool _) rfl) rfl ?_;refine L.nil (thn_n (W.cond (b:=_) rfl (fun g24=>?_) (fun g24=>?_)))
   ·have h24:=of_decide_eq_true g24;rw [if_pos (show 20000<(takeText s at_).1.length by omega)];refine W.seq (W.region (L.val (x_as (v:=S _) rfl) rfl ?_));refine L.val (x_as (v:=.int _ _) rfl) rfl ?_;refine L.val (x_as (v:=.int _ _) rfl) rfl ?_;refine L.nil (thn_n (W.ret (blk_r (thn_r (fin_mk (.inr rfl) ?_)))));exact ⟨rfl,hB⟩
   ·have h24:=dlt_f g24;rw [if_neg (show ¬ 20000<(takeText s at_).1.length by omega)];refine W.seq (W.region (L.val (x_mv (v:=S _) rfl) rfl ?_));refine L.val (x_len_str Tryz.underlying9 rfl) rfl ?_;refine L.val (x_mv (v:=.int _ _) rfl) rfl ?_;refine L.val (x_sub rfl rfl (wr64 om_)) rfl ?_;refine L.val (x_lss rfl rfl) rfl ?_;refine L.val (x_as (v:=.bool _) rfl) rfl ?_;refine L.nil (thn_n (W.cond (b:=_) rfl (fun g30=>?_) (fun g30=>?_)))
    ·have h30:=of_decide_eq_true g30;rw [if_pos (show s.length - (takeText s at_).2.1<4 by omega)];refine W.seq (W.region (L.val (x_as (v:=S _) rfl) rfl ?_));refine L.val (x_as (v:=.int _ _) rfl) rfl ?_;refine L.val (x_as (v:=.int _ _) rfl) rfl ?_;refine L.nil (thn_n (W.ret (blk_r (thn_r (fin_mk (.inr rfl) ?_)))));exact ⟨rfl,hB⟩
    ·have h30:=dlt_f g30;have hroom:¬ s.length - (takeText s at_).2.1<4:=by omega
     rw [if_neg hroom];refine W.seq (W.drawB koct5_mixed kr_ ?_);refine LQ.val (fun w hw=>x_mv (v:=S _) rfl) rfl ?_;refine LQ.val (fun w hw=>x_mv (v:=.int _ _) rfl) rfl ?_;refine LQ.val (fun w hw=>x_mv (v:=.int _ _) rfl) rfl ?_;refine LQ.val (fun w hw=>x_slAB (j:=at_) (j':=(takeText s at_).2.1) Tryz.underlying9 rfl rfl rfl rfl rfl om_ om_) rfl ?_;refine LQ.ret (fun w=>x_call koct5_en106 rfl) (fun w hw=>Ret.mono (fsum_ok _ (by rw [List.length_take,List.length_drop];omega) _) (fun _ _ h=>⟨h.1,Gr.trans hw h.2⟩)) rfl ?_;refine LQ.val (fun w hw=>x_mv (v:=S _) rfl) rfl ?_;refine LQ.val (fun w hw=>x_mv (v:=.int _ _) rfl) rfl ?_;refine LQ.val (fun w hw=>x_mv (v:=.int _ _) rfl) rfl ?_;refine LQ.val (fun w hw=>x_add rfl rfl (wr64 om_)) rfl ?_;refine LQ.val (fun w hw=>x_slAB (j:=(takeText s at_).2.1) (j':=(takeText s at_).2.1+4) Tryz.underlying9 rfl rfl rfl rfl om_ om_ om_) rfl ?_;refine LQ.val (fun w hw=>x_nes rfl rfl) rfl ?_;refine LQ.val (fun w hw=>x_as (v:=.bool _) rfl) rfl ?_;refine LQ.nil ?_;intro w32 hw;have hB:=hB.carry hw;refine thn_n (W.cond (b:=_) rfl (fun g42=>?_) (fun g42=>?_))
     ·have h42:=sne_t g42;have hne:sumB ((s.drop at_).take ((takeText s at_).2.1 - at_))≠(s.drop (takeText s at_).2.1).take 4:=by
        rw [show (takeText s at_).2.1+4 - (takeText s at_).2.1=4 by omega] at h42;exact h42
      refine W.seq (W.region (L.val (x_as (v:=S _) rfl) rfl ?_));refine L.val (x_as (v:=.int _ _) rfl) rfl ?_;refine L.val (x_as (v:=.int _ _) rfl) rfl ?_;refine L.nil (thn_n (W.ret (blk_r (thn_r (fin_mk (.inr rfl) ?_)))));rw [if_pos hne];exact ⟨rfl,hB⟩
     ·have h42:=sne_f g42;have hne:¬ sumB ((s.drop at_).take ((takeText s at_).2.1 - at_))≠(s.drop (takeText s at_).2.1).take 4:=by
        rw [show (takeText s at_).2.1+4 - (takeText s at_).2.1=4 by omega] at h42;exact fun hh=>hh h42
      refine W.skip (blk_n (thn_n (W.seq (W.region (L.val (x_mv (v:=S _) rfl) rfl ?_)))));refine L.val (x_mv (v:=.int _ _) rfl) rfl ?_;refine L.val (x_add rfl rfl (wr64 om_)) rfl ?_;refine L.val (x_as (v:=S _) rfl) rfl ?_;refine L.val (x_as (v:=.int _ _) rfl) rfl ?_;refine L.val (x_as (v:=.int _ _) rfl) rfl ?_;refine L.nil (thn_n (W.ret (fin_mk (.inr rfl) ?_)));rw [if_neg hne];exact ⟨by rw [Int.natCast_add];rfl,hB⟩
section
variable {P:Program} {n m:Nat} {Q:Post} {D:List Deferred} {E:Env} {w:World} {F:Fence}
theorem LI.gyes {ops:Array Oper} {r:List Oper} {dst:Option Tmp} {op:Op} {t:TypeId} {p:String} {af:Array Edge} {j dj:Nat} {want b:Bool}
    (hj:(ops[j]?).bind (·.dst)=some dj) (hw:E dj=.bool b) (hb:b=want) (k:LI F m P n ops Q (⟨dst,op,t,p,af,none⟩ :: r) D E w):
    LI F m P n ops Q (⟨dst,op,t,p,af,some (j,want)⟩ :: r) D E w:=by
  subst hb;intro a ha;have h:=k a ha;unfold wpListIn at h ⊢;rw [if_pos (wanted_yes rfl hj ha hw)];rw [if_pos (by simp [Region.wanted])] at h;exact h
theorem LI.gno {ops:Array Oper} {r:List Oper} {d:Nat} {op:Op} {t:TypeId} {p:String} {af:Array Edge} {j dj:Nat} {want b:Bool}
    (hj:(ops[j]?).bind (·.dst)=some dj) (hw:E dj=.bool b) (hb:b=!want) (hF:∀ f,F.fn f) (hd:Nat.blt d n=true) (k:LI F m P n ops Q r D (upd E d undef) w):
    LI F m P n ops Q (⟨some d,op,t,p,af,some (j,want)⟩ :: r) D E w:=by
  intro a ha;unfold wpListIn;rw [if_neg (by rw [wanted_no rfl hj ha hw hb];simp)];exact ⟨fun f _=>hF f,k _ (ha.put _ hd)⟩
end
def scanF:Nat→Str→Nat→List (Str × Nat)
  | 0,_,_=>[]
  | f+1,s,k=>if (takeF s k).2.2≠0 then [] else ((takeF s k).1,(takeF s k).2.1) :: scanF f s (takeF s k).2.1
theorem scanF_more {s:Str}:∀ {f g k:Nat},s.length<f+k→s.length<g+k→scanF f s k=scanF g s k
  | 0,0,_,_,_=>rfl
  | 0,g+1,k,h1,_=>by
    have:(takeF s k).2.2≠0:=fun e=>by have:=(takeF_le e).2.2;omega
    rw [scanF,scanF,if_pos this]
  | f+1,0,k,_,h2=>by
    have:(takeF s k).2.2≠0:=fun e=>by have:=(takeF_le e).2.2;omega
    rw [scanF,scanF,if_pos this]
  | f+1,g+1,k,h1,h2=>by
    rw [scanF,scanF];split
    · rfl
    · rename_i h
      have:=takeF_le (by simpa using h);rw [scanF_more (f:=f) (g:=g) om_ om_]
def frames (s:Str):List (Str × Nat):=scanF (s.length+1) s 0
theorem scanF_len {s:Str}:∀ {f k:Nat},k≤s.length→(scanF f s k).length+k≤s.length
  | 0,k,h=>by simpa [scanF] using h
  | f+1,k,h=>by
    rw [scanF];split
    · simpa using h
    · rename_i h1
      have h2:=takeF_le (by simpa using h1);have:=scanF_len (f:=f) h2.2.1;rw [List.length_cons];omega
def encFr (x:Str × Nat):Array Value:=#[S x.1,.int .i64 (x.2:Nat)]
theorem frames_seq_ok (Kp:World→World→Prop) (l Bs:Nat) (s:Str) (hs:s.length≤1000000000) (hkb:∀ W W',Kp W W'→W.cell? ⟨Bs,0,none⟩=some (S s)→W'.cell? ⟨Bs,0,none⟩=some (S s)) (J Jx:List (Str × Nat)→World→Prop)
    (hY:∀ pre x W,J pre W→pre.length<(frames s).length→YieldAt Fence.wide 0 Tryz.prog l (encFr x) W fun e W'=>
      (e=.returned (.bool true)∧J (pre++[x]) W'∧Kp W W')∨(e=.returned (.bool false)∧Jx (pre++[x]) W'))
    (hJB:∀ pre W W',J pre W→Bel W W'→J pre W')
    (w:World) (hBs:w.cell? ⟨Bs,0,none⟩=some (S s)) (h0:J [] w):
    Ret Tryz.prog 133 #[.func (.yield l) #[] #[],.pointer (some ⟨Bs,0,none⟩)] w fun _ W'=>(∃ xs,xs=frames s∧J xs W')∨(∃ pre,True∧Jx pre W'):=by
  refine ret_of_W Tryz.func133 rfl (Nat.le_of_ble_eq_true rfl) (res0 rfl) ?_;refine W.seq (W.region (L.val (x_as (v:=.int _ _) rfl) rfl ?_));refine L.nil (thn_n (W.block (W.loop (fun m' E w'=>∃ (k at_:Nat),m'=(frames s).length - k∧E 0=.func (.yield l) #[] #[]∧E 1=.pointer (some ⟨Bs,0,none⟩)∧E 3=.int .i64 (at_:Nat)∧(k≤(frames s).length)∧(at_≤s.length)∧(J ((frames s).take k) w')∧(scanF (s.length+1) s at_=(frames s).drop k)∧(w'.cell? ⟨Bs,0,none⟩=some (S s))) ((frames s).length) ?_ ?_)))
  ·exact ⟨0,0,by omega,by first | rfl | exact vi om_ | exact vs (by first | assumption | (rw [hst];done) | (rw [hst];simp only [List.append_assoc])),by first | rfl | exact vi om_ | exact vs (by first | assumption | (rw [hst];done) | (rw [hst];simp only [List.append_assoc])),by first | rfl | exact vi om_ | exact vs (by first | assumption | (rw [hst];done) | (rw [hst];simp only [List.append_assoc])),ao_,ao_,(by simpa using h0),(by rfl),ao_⟩
  ·rintro _ E wL8 ⟨k,at_,em,e0,e1,e3,hk,hat,hJ,hrest,hBs⟩;rw [upd_self e0,upd_self e1,upd_self e3];refine W.block (W.seq (W.region (L.val (x_ld (v:=S _) koct5_oc9 rfl hBs) rfl ?_)));refine L.val (x_mv (v:=.int _ _) rfl) rfl ?_;refine L.ret (x_call koct5_en134 rfl) rfl (take_ok s at_ hat hs _) ?_;rintro _ w10 ⟨rfl,hw⟩;have hBs:=hw.keep hBs;have hJ:=hJB _ _ _ hJ hw;refine L.val (x_mv (v:=_) rfl) rfl ?_;refine L.val (x_ext (v:=S _) rfl rfl) rfl ?_;refine L.val (x_ext (v:=.int _ _) rfl rfl) rfl ?_;refine L.val (x_ext (v:=.int _ _) rfl rfl) rfl ?_;refine L.val (x_as (v:=S _) rfl) rfl ?_;refine L.val (x_as (v:=.int _ _) rfl) rfl ?_;refine L.val (x_as (v:=.int _ _) rfl) rfl ?_;refine L.nil (thn_n (W.seq (W.seq ?_)));refine W.mono (Q:=fun e D' E' w'=>e=.normal∧D'=[]∧∃ z:Bool,E' 0=.func (.yield l) #[] #[]∧E' 1=.pointer (some ⟨Bs,0,none⟩)∧E' 5=.int .i64 ((takeF s at_).2.1:Nat)∧E' 22=.bool z∧(z=true→(∃ xs,xs=frames s∧J xs w')∨(∃ pre,True∧Jx pre w'))∧
       (z=false→(takeF s at_).2.2=0∧k<(frames s).length∧J ((frames s).take (k+1)) w'∧scanF (s.length+1) s (takeF s at_).2.1=(frames s).drop (k+1)∧w'.cell? ⟨Bs,0,none⟩=some (S s))) ?_ ?_
   · by_cases he:(takeF s at_).2.2=0
     · have hl:=takeF_le he;have hst:scanF (s.length+1) s at_=((takeF s at_).1,(takeF s at_).2.1) :: scanF (s.length+1) s (takeF s at_).2.1:=by
         conv=>lhs;rw [scanF]
         rw [if_neg (by rw [he];decide),scanF_more (f:=s.length) (g:=s.length+1) om_ om_]
       rw [hst] at hrest;have hklt:k<(frames s).length:=by
         refine Decidable.byContradiction fun hh=>?_
         rw [List.drop_of_length_le om_] at hrest;cases hrest
       have hdk:=List.drop_eq_getElem_cons hklt;rw [← hrest] at hdk;simp only [List.cons.injEq] at hdk;have htk:(frames s).take (k+1)=(frames s).take k++[((takeF s at_).1,(takeF s at_).2.1)]:=by
         rw [List.take_add_one,List.getElem?_eq_getElem hklt,← hdk.1];rfl
       refine W.wide (m:=1) (WI.region ?_);refine LI.val (fun _=>trivial) (fun _ h=>by cases h) (x_mv (v:=.int _ _) rfl) rfl ?_;refine LI.val (fun _=>trivial) (fun _ h=>by cases h) (x_neq rfl rfl) rfl ?_;refine LI.val (fun _=>trivial) (fun _ h=>by cases h) (x_mv (v:=.bool _) rfl) rfl ?_;refine LI.gyes (dj:=16) (b:=_) rfl rfl (by simp [he]) (LI.val (fun _=>trivial) (fun _ h=>by cases h) (x_mv (v:=.func _ _ _) rfl) rfl ?_);refine LI.gyes (dj:=16) (b:=_) rfl rfl (by simp [he]) (LI.val (fun _=>trivial) (fun _ h=>by cases h) (x_mv (v:=S _) rfl) rfl ?_);refine LI.gyes (dj:=16) (b:=_) rfl rfl (by simp [he]) (LI.val (fun _=>trivial) (fun _ h=>by cases h) (x_mv (v:=.int _ _) rfl) rfl ?_);refine LI.gyes (dj:=16) (b:=_) rfl rfl (by simp [he]) ?_;refine LI.yieldN (vs:=(encFr ((takeF s at_).1,(takeF s at_).2.1)).toList) (R:=fun e W'=>∃ z,e=.returned (.bool z)∧(z=true→J ((frames s).take (k+1)) W'∧Kp w10 W')∧(z=false→Jx ((frames s).take (k+1)) W')) (fun _=>trivial) rfl rfl rfl rfl ((hY ((frames s).take k) ((takeF s at_).1,(takeF s at_).2.1) w10 hJ (by rw [List.length_take];omega)).mono ?_) (fun e w' ⟨z,h,_⟩=>⟨_,h⟩) ?_
       · rintro e W' (⟨rfl,a1,a2⟩ | ⟨rfl,a1⟩)
         · exact ⟨true,rfl,fun _=>⟨by rw [htk];exact a1,a2⟩,fun h=>by cases h⟩
         · exact ⟨false,rfl,fun h=>(by cases h),fun _=>by rw [htk];exact a1⟩
       rintro u w13 ⟨z,hz,r1,r2⟩;cases hz;refine LI.gyes (dj:=16) (b:=_) rfl rfl (by simp [he]) (LI.val (fun _=>trivial) (fun _ h=>by cases h) (x_not rfl) rfl ?_);refine LI.val (fun _=>trivial) (fun _ h=>by cases h) (x_pick_f (v:=.bool _) (congrArg Value.bool (by simp [he])) rfl) rfl ?_;refine LI.nil ⟨rfl,rfl,!z,rfl,rfl,rfl,rfl,fun h=>.inr ⟨_,trivial,r2 (by simpa using h)⟩,fun h=>?_⟩;have hz:z=true:=by simpa using h
       obtain ⟨j1,j2⟩:=r1 hz;exact ⟨he,hklt,j1,hdk.2,hkb _ _ j2 hBs⟩
     · have hst:scanF (s.length+1) s at_=[]:=by rw [scanF,if_pos he]
       rw [hst] at hrest;have hkl:(frames s).length≤k:=List.drop_eq_nil_iff.1 hrest.symm;refine W.wide (m:=1) (WI.region ?_);refine LI.val (fun _=>trivial) (fun _ h=>by cases h) (x_mv (v:=.int _ _) rfl) rfl ?_;refine LI.val (fun _=>trivial) (fun _ h=>by cases h) (x_neq rfl rfl) rfl ?_;refine LI.val (fun _=>trivial) (fun _ h=>by cases h) (x_mv (v:=.bool _) rfl) rfl ?_;(iterate 5 refine LI.gno (dj:=16) (b:=_) rfl rfl (by simp [he]) (fun _=>trivial) rfl ?_);refine LI.val (fun _=>trivial) (fun _ h=>by cases h) (x_pick_t (v:=.bool true) (congrArg Value.bool (by simp [he])) rfl) rfl ?_;refine LI.nil ⟨rfl,rfl,true,rfl,rfl,rfl,rfl,fun _=>.inl ⟨_,rfl,by rw [List.take_of_length_le hkl] at hJ;exact hJ⟩,fun h=>by cases h⟩
   rintro e D E w14 ⟨rfl,rfl,z,e0,e1,e5,e22,hz1,hz0⟩;rw [upd_self e0,upd_self e1,upd_self e5,upd_self e22];refine thn_n (W.cond (b:=_) rfl (fun g22=>?_) (fun g22=>?_))
   ·have h22:=g22;refine W.ret (thn_r (blk_r (thn_r (blk_r (fin_mk (.inr rfl) ?_)))));exact hz1 g22
   ·have h22:=g22;obtain ⟨he,hklt,hJ2,hrest2,hBs⟩:=hz0 g22;have hl:=takeF_le he;refine W.skip (thn_n (W.region (L.val (x_mv (v:=.int _ _) rfl) rfl ?_)));refine L.val (x_as (v:=.int _ _) rfl) rfl ?_;refine L.nil (blk_n (thn_n ⟨rfl,?_⟩));refine ⟨_,?_,k+1,_,rfl,by first | rfl | exact vi om_ | exact vs (by first | assumption | (rw [hst];done) | (rw [hst];simp only [List.append_assoc])),by first | rfl | exact vi om_ | exact vs (by first | assumption | (rw [hst];done) | (rw [hst];simp only [List.append_assoc])),by first | rfl | exact vi om_ | exact vs (by first | assumption | (rw [hst];done) | (rw [hst];simp only [List.append_assoc])),ao_,ao_,(by exact hJ2),(by exact hrest2),ao_⟩;omega
end Go.Gx
