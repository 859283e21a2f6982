/- Numbers and texts taken off bytes; frames taken. Conditions: none. -/
import Derived.Test.YtcncoaabbedhfaaGreatCcDrawD
import Derived.Test.YtcncoaabbedhfaaGreatCcSh
namespace Go.Gx
open Go.Proofs
theorem koct4_en49:Go.Proofs.Enters Tryz.prog 49:=Go.Proofs.enters_of Tryz.func49 kr_ rfl
theorem koct4_en92:Go.Proofs.Enters Tryz.prog 92:=Go.Proofs.enters_of Tryz.func92 kr_ rfl
theorem koct4_mixed:Tryz.prog.follows .mixedOrders=true:=by kernel_rfl
theorem koct4_oc3:oneCellT Tryz.prog 3=true:=by kernel_rfl
theorem koct4_oc4:oneCellT Tryz.prog 4=true:=by kernel_rfl
theorem koct4_oc9:oneCellT Tryz.prog 9=true:=by kernel_rfl
theorem koct4_sz3:(Tryz.prog.info? 3).map (·.size)=some 1:=by kernel_rfl
theorem koct4_sz4:(Tryz.prog.info? 4).map (·.size)=some 1:=by kernel_rfl
theorem koct4_zr4:(Tryz.prog.info? 4).bind (·.zero)=some (Value.bool false):=by kernel_rfl
def beV (l:Str):Nat:=l.foldl (fun n b=>n * 256+b.toNat) 0
theorem beV_snoc (l:Str) (b:UInt8):beV (l++[b])=beV l * 256+b.toNat:=by unfold beV;rw [List.foldl_append];rfl
theorem beV_lt0:∀ (l:Str) (n:Nat),l.foldl (fun n b=>n * 256+b.toNat) n<(n+1) * 256 ^ l.length
  | [],n=>by simp
  | b :: l,n=>by
    have h1:=beV_lt0 l (n * 256+b.toNat);have hb:=b.toNat_lt;have h2:(n * 256+b.toNat+1) * 256 ^ l.length≤((n+1) * 256) * 256 ^ l.length:=Nat.mul_le_mul_right _ om_;rw [List.foldl_cons,List.length_cons,Nat.pow_succ,Nat.mul_comm (256 ^ l.length) 256,← Nat.mul_assoc];omega
theorem beV_lt (l:Str):beV l<256 ^ l.length:=by have:=beV_lt0 l 0;simpa [beV] using this
def takeNum (s:Str) (at_:Nat):Nat × Nat × Int:=
  match s.drop at_ with
  | []=>(0,0,10)
  | f :: r=>
    if f.toNat<248 then (f.toNat,at_+1,0)
    else if r.length<f.toNat - 247 then (0,0,10)
    else if beV (r.take (f.toNat - 247))<248∨widN (beV (r.take (f.toNat - 247)))≠f.toNat - 247 then (0,0,11)
    else (beV (r.take (f.toNat - 247)),at_+1+(f.toNat - 247),0)
def takeText (s:Str) (at_:Nat):Str × Nat × Int:=
  let (n,p,e):=takeNum s at_
  if e≠0 then ([],0,e)
  else if s.length - p<n then ([],0,10)
  else ((s.drop p).take n,p+n,0)
theorem nextB_ok (ba bs bf:Nat) (s:Str) (at_:Nat) (sh:Bool) (w:World) (h1:Box w ba 3 [.int .i64 (at_:Nat)]) (h2:Box w bs 9 [S s]) (h3:Box w bf 4 [.bool sh]) (hat:at_≤s.length) (hs:s.length≤9223372036854775806) (hd:ba≠bs∧ba≠bf∧bs≠bf):
    Ret Tryz.prog 92 #[.pointer (some ⟨ba,0,none⟩),.pointer (some ⟨bs,0,none⟩),.pointer (some ⟨bf,0,none⟩)] w fun v w'=>v=.int .u8 ((s.getD at_ 0).toNat:Nat)∧Box w' ba 3 [.int .i64 (if at_=s.length then at_ else at_+1:Nat)]∧Box w' bs 9 [S s]∧Box w' bf 4 [.bool (sh || decide (at_=s.length))]∧Gr (fun k=>k=ba∨k=bf) w w':=by
  refine ret_of_W Tryz.func92 rfl (Nat.le_of_ble_eq_true rfl) (res1 rfl) ?_;refine W.seq (W.region (L.val (x_as (v:=.int _ _) rfl) rfl ?_));refine L.nil (thn_n (W.seq (W.seq (W.region (L.val (x_ld (v:=.int _ _) koct4_oc3 rfl (h1.cell (i:=0) rfl)) rfl ?_)))));refine L.val (x_ld (v:=S _) koct4_oc9 rfl (h2.cell (i:=0) rfl)) rfl ?_;refine L.val (x_len_str Tryz.underlying9 rfl) rfl ?_;refine L.val (x_eql rfl rfl) rfl ?_;refine L.nil (thn_n (W.cond (b:=_) rfl (fun g7=>?_) (fun g7=>?_)))
  ·have h7:=of_decide_eq_true g7;have he:at_=s.length:=by omega
   refine W.seq (W.region (L.set (v:=.bool _) koct4_sz4 rfl rfl rfl h3 rfl (fun wl6 h3 hw hzl6=>?_)));have h1:=h1.carryR hw om_;have h2:=h2.carryR hw om_;have hG:=hw.mono (R':=fun k=>k=ba∨k=bf) (fun k _ e=>.inr e);refine L.nil (thn_n (W.seq (W.region (L.val (x_as (v:=.int _ _) rfl) rfl ?_))));refine L.nil (thn_n (W.ret (thn_r (fin_mk (.inr rfl) ?_))));have e1:decide (at_=s.length)=true:=decide_eq_true he;have e0:s.getD at_ 0=0:=by rw [List.getD_eq_getElem?_getD,List.getElem?_eq_none om_];rfl
   rw [e1,Bool.or_true,e0,if_pos he];exact ⟨rfl,h1,h2,h3,hG⟩
  ·have h7:=of_decide_eq_false g7;have hlt:at_<s.length:=by omega
   refine W.skip (thn_n (W.seq (W.region (L.val (x_ld (v:=.int _ _) koct4_oc3 rfl (h1.cell (i:=0) rfl)) rfl ?_))));refine L.val (x_add rfl rfl (wr64 om_)) rfl ?_;refine L.set (v:=.int _ _) koct4_sz3 rfl rfl rfl h1 rfl (fun wl10 h1 hw hzl10=>?_);have h2:=h2.carryR hw om_;have h3:=h3.carryR hw om_;have hG:=hw.mono (R':=fun k=>k=ba∨k=bf) (fun k _ e=>.inl e);refine L.nil (thn_n (W.seq (W.region (L.val (x_ld (v:=S _) koct4_oc9 rfl (h2.cell (i:=0) rfl)) rfl ?_))));refine L.val (x_ld (v:=.int _ _) koct4_oc3 rfl (h1.cell (i:=0) rfl)) rfl ?_;refine L.val (x_sub rfl rfl (wr64 om_)) rfl ?_;refine L.val (x_ixs (j:=at_) Tryz.underlying9 rfl rfl om_ om_) rfl ?_;refine L.val (x_as (v:=.int _ _) rfl) rfl ?_;refine L.nil (thn_n (W.ret (fin_mk (.inr rfl) ?_)));have e1:decide (at_=s.length)=false:=decide_eq_false om_;rw [e1,Bool.or_false,if_neg (show ¬ at_=s.length by omega)];exact ⟨rfl,h1,h2,h3,hG⟩
theorem x_shl8 {P:Program} {E:Env} {w:World} {x y:Operand} {t u z:TypeId} {k':IntKind} {n:Nat} (hx:ev E x=.int .u64 (n:Nat)) (hy:ev E y=.int k' 8) (hn:n<72057594037927936):X P (.binOp .shl u x y z) t E w (.int .u64 ((n * 256:Nat):Int)) w:=by
  have h:=x_shl (P:=P) (t:=t) (u:=u) (z:=z) (w:=w) hx hy om_ (by show (8:Int)≤((64:Nat):Int);omega);have e:IntKind.u64.wrap ((n:Int) * 2 ^ (8:Int).toNat)=((n * 256:Nat):Int):=by
    rw [show (8:Int).toNat=8 from rfl];rw [wru64 om_];omega
  rwa [e] at h
theorem x_orB {P:Program} {E:Env} {w:World} {x y:Operand} {t u z:TypeId} {n b:Nat} (hx:ev E x=.int .u64 ((n * 256:Nat):Int)) (hy:ev E y=.int .u64 (b:Nat)) (hn:n<72057594037927936) (hb:b<256):X P (.binOp .or u x y z) t E w (.int .u64 ((n * 256+b:Nat):Int)) w:=by
  have h:=x_bor (P:=P) (t:=t) (u:=u) (z:=z) (w:=w) hx hy;have e:bits .or .u64 ((n * 256:Nat):Int) (b:Nat)=((n * 256+b:Nat):Int):=by
    rw [bits_or_u64_nat _ _ om_ om_];have:=Nat.shiftLeft_add_eq_or_of_lt (i:=8) (b:=b) om_ n;rw [Nat.shiftLeft_eq] at this;rw [← this]
  rwa [e] at h
theorem drop_cons {s:Str} {k:Nat} (h:k<s.length):s.drop k=s.getD k 0 :: s.drop (k+1):=by
  rw [List.drop_eq_getElem_cons h,List.getD_eq_getElem?_getD,List.getElem?_eq_getElem h];rfl
theorem takeNum_end {s:Str} {k:Nat} (h:s.length≤k):takeNum s k=(0,0,10):=by
  unfold takeNum;rw [List.drop_of_length_le h]
theorem takeNum_at {s:Str} {k:Nat} (h:k<s.length):takeNum s k=
    if (s.getD k 0).toNat<248 then ((s.getD k 0).toNat,k+1,0)
    else if s.length - (k+1)<(s.getD k 0).toNat - 247 then (0,0,10)
    else if beV ((s.drop (k+1)).take ((s.getD k 0).toNat - 247))<248∨widN (beV ((s.drop (k+1)).take ((s.getD k 0).toNat - 247)))≠(s.getD k 0).toNat - 247 then (0,0,11)
    else (beV ((s.drop (k+1)).take ((s.getD k 0).toNat - 247)),k+1+((s.getD k 0).toNat - 247),0):=by
  unfold takeNum;rw [drop_cons h];dsimp only;rw [List.length_drop]
def NumSt (s:Str) (at_ K n0 j a n:Nat) (sh:Bool):Prop:=
  a≤s.length∧n<256 ^ j+248∧(0<K→n<256 ^ j)∧(sh=false→a=at_+1+j∧n=if K=0 then n0 else beV ((s.drop (at_+1)).take j))∧(sh=true→s.length<at_+1+j)
theorem takeNum_ok (s:Str) (at_:Nat) (hat:at_≤s.length) (hs:s.length≤1000000000) (w:World):
    Ret Tryz.prog 62 #[S s,.int .i64 (at_:Nat)] w fun v w'=>v=.tuple #[.int .u64 ((takeNum s at_).1:Nat),.int .i64 ((takeNum s at_).2.1:Nat),.int .i64 (takeNum s at_).2.2]∧Bel w w':=by
  have hb8:=b8_lt (s.getD at_ 0);refine ret_of_W Tryz.func62 rfl (Nat.le_of_ble_eq_true rfl) (res3 rfl) ?_;have hB:=Gr.refl (fun _=>False) w;refine W.seq (W.region (L.box (cs:=[S s]) rfl rfl (fun w2 bx2 hw hz2=>?_)));have hB:=hB.carry hw;refine L.box (cs:=[.int .i64 (at_:Nat)]) rfl rfl (fun w3 bx3 hw hz3=>?_);have hB:=hB.carry hw;have bx2:=bx2.carry hw;(iterate 3 refine L.val (x_as (v:=.int _ _) rfl) rfl ?_);refine L.nil (thn_n (W.seq (W.seq (W.region (L.val (x_ld (v:=.int _ _) koct4_oc3 rfl (bx3.cell (i:=0) rfl)) rfl ?_)))));refine L.val (x_lss rfl rfl) rfl ?_;refine L.val (x_mv (v:=.bool _) rfl) rfl ?_;refine' L.group0 4 15 18 18 14 false rfl ?_ ?_ ?_;rotate_left 1
  ·intro g14;have h14:=dlt_f g14;refine L.gyes' (dj:=14) (b:=_) rfl rfl g14 ?_;refine L.val (x_ld (v:=.int _ _) koct4_oc3 rfl (bx3.cell (i:=0) rfl)) rfl ?_;refine L.gyes' (dj:=14) (b:=_) rfl rfl g14 ?_;refine L.val (x_ld (v:=S _) koct4_oc9 rfl (bx2.cell (i:=0) rfl)) rfl ?_;refine L.gyes' (dj:=14) (b:=_) rfl rfl g14 ?_;refine L.val (x_len_str Tryz.underlying9 rfl) rfl ?_;refine L.gyes' (dj:=14) (b:=_) rfl rfl g14 ?_;refine L.val (x_gtr rfl rfl) rfl ?_;refine L.nil (thn_n ⟨rfl,rfl,?_,rfl⟩);repeat (first | exact jeq.refl _ _ _ | refine jeq.upd rfl ?_ | refine jeq.jk rfl rfl ?_)
  ·intro g14;(iterate 4 refine L.gno (dj:=14) (b:=_) rfl rfl g14 rfl ?_);refine L.nil (thn_n ⟨rfl,rfl,?_⟩);repeat (first | exact jeq.refl _ _ _ | refine jeq.upd rfl ?_ | refine jeq.jk rfl rfl ?_)
  intro J14 j14;refine L.val (x_or rfl j14) rfl ?_;refine L.nil (thn_n (W.cond (b:=_) rfl (fun g19=>?_) (fun g19=>?_)))
  ·have h19:=g19;simp only [Bool.or_eq_true,decide_eq_true_eq] at g19;omega
  ·have h19:=g19;refine W.skip (thn_n (W.seq (W.region (L.alloc (cs:=[Value.bool false]) koct4_zr4 rfl rfl (fun w7 bx7 hw hz7=>?_)))));have hB:=hB.carry hw;have bx2:=bx2.carry hw;have bx3:=bx3.carry hw;refine L.set (v:=.bool _) koct4_sz4 rfl rfl rfl bx7 rfl (fun wl18 bx7 hw hzl18=>?_);have hsz:=hB.size;have hB:=hB.set hw om_;have bx2:=bx2.carryR hw om_;have bx3:=bx3.carryR hw om_;refine L.nil (thn_n (W.seq (W.region ?_)));have hz3:=hz3;refine L.val (x_mkfn rfl rfl) rfl ?_;refine L.val (x_as (v:=_) rfl) rfl ?_;refine L.nil (thn_n (W.seq (W.region (L.val (x_mv (v:=_) rfl) rfl ?_))));refine L.ret (x_callv koct4_en92 rfl rfl) rfl (nextB_ok _ _ _ s at_ false _ bx3 bx2 bx7 hat om_ ⟨by omega,by omega,by omega⟩) ?_;rintro _ w22 ⟨rfl,bx3,bx2,bx7,hG22⟩;have hsz22:=hG22.size;have hB:=hB.step hG22 (fun i hi e=>by rcases e with rfl | rfl <;> omega);rw [Bool.false_or] at bx7;refine L.val (x_as (v:=.int _ _) rfl) rfl ?_;refine L.nil (thn_n (W.seq (W.region (L.val (x_mv (v:=.int _ _) rfl) rfl ?_))));refine L.val (x_conv (k':=.u64) (by rw [Tryz.underlying5];rfl) Tryz.underlying59 rfl (wru64 om_)) rfl ?_;refine L.val (x_as (v:=.int _ _) rfl) rfl ?_;refine L.val (x_as (v:=.int _ _) rfl) rfl ?_;refine L.nil (thn_n (W.cut (fun D' E' w'=>D'=[]∧∃ K n0:Nat,w'=w22∧E' 2=.pointer (some ⟨w.heap.size,0,none⟩)∧E' 3=.pointer (some ⟨w2.heap.size,0,none⟩)∧E' 7=.pointer (some ⟨w3.heap.size,0,none⟩)∧E' 8=(Value.func (.func 92) ([]:List Value).toArray [.pointer (some ⟨w2.heap.size,0,none⟩),.pointer (some ⟨w.heap.size,0,none⟩),.pointer (some ⟨w3.heap.size,0,none⟩)].toArray)∧E' 10=.int .u64 (n0:Nat)∧E' 11=.int .i64 (K:Nat)∧((s.getD at_ 0).toNat<248∧K=0∧n0=(s.getD at_ 0).toNat∨248≤(s.getD at_ 0).toNat∧K=(s.getD at_ 0).toNat - 247∧n0=0)) ?_ ?_))
   ·refine W.seq (W.region (L.val (x_mv (v:=.int _ _) rfl) rfl ?_));refine L.val (x_geq rfl rfl) rfl ?_;refine L.nil (thn_n (W.cond (b:=_) rfl (fun g26=>?_) (fun g26=>?_)))
    ·have h26:=of_decide_eq_true g26;have hf:248≤(s.getD at_ 0).toNat:=by omega
     have hKn:(s.getD at_ 0).toNat<248∧(s.getD at_ 0).toNat - 247=0∧0=(s.getD at_ 0).toNat∨248≤(s.getD at_ 0).toNat∧(s.getD at_ 0).toNat - 247=(s.getD at_ 0).toNat - 247∧0=0:=.inr ⟨hf,rfl,rfl⟩;refine W.region (L.val (x_mv (v:=.int _ _) rfl) rfl ?_);refine L.val (x_conv (k':=.i64) (by rw [Tryz.underlying5];rfl) Tryz.underlying3 rfl (wr64 om_)) rfl ?_;refine L.val (x_sub rfl rfl (wr64 om_)) rfl ?_;refine L.val (x_add rfl rfl (wr64 om_)) rfl ?_;refine L.val (x_as (v:=.int _ _) rfl) rfl ?_;refine L.val (x_as (v:=.int _ _) rfl) rfl ?_;refine L.nil (thn_n ?_);exact ⟨rfl,(s.getD at_ 0).toNat - 247,0,rfl,rfl,rfl,rfl,rfl,rfl,congrArg (Value.int .i64) om_,.inr ⟨hf,rfl,rfl⟩⟩
    ·have h26:=dle_f g26;have hf:(s.getD at_ 0).toNat<248:=by omega
     refine W.skip (thn_n ?_);exact ⟨rfl,0,(s.getD at_ 0).toNat,rfl,rfl,rfl,rfl,rfl,rfl,rfl,.inl ⟨hf,rfl,rfl⟩⟩
   ·rintro D E w31 ⟨rfl,K,n0,rfl,e2,e3,e7,e8,e10,e11,hK⟩;rw [upd_self e2,upd_self e3,upd_self e7,upd_self e8,upd_self e10,upd_self e11];have hK8:K≤8:=by omega
    have hst0:NumSt s at_ K n0 0 (if at_=s.length then at_ else at_+1) n0 (decide (at_=s.length)):=by
      refine ⟨by split <;> omega,by omega,fun h=>by omega,fun h=>?_,fun h=>?_⟩
      · have:¬ at_=s.length:=of_decide_eq_false h;rw [if_neg this];refine ⟨rfl,?_⟩;split
        · rfl
        · rw [List.take_zero];show n0=0;omega
      · have:=of_decide_eq_true h;omega
    refine W.seq (W.seq (W.region (L.val (x_mv (v:=.int _ _) rfl) rfl ?_)));refine L.val (x_mv (v:=.int _ _) rfl) rfl ?_;refine L.nil (thn_n (W.block (W.loop (fun m' E w'=>∃ (j a n:Nat) (sh:Bool),m'=K - j∧E 2=.pointer (some ⟨w.heap.size,0,none⟩)∧E 3=.pointer (some ⟨w2.heap.size,0,none⟩)∧E 7=.pointer (some ⟨w3.heap.size,0,none⟩)∧E 8=(Value.func (.func 92) ([]:List Value).toArray [.pointer (some ⟨w2.heap.size,0,none⟩),.pointer (some ⟨w.heap.size,0,none⟩),.pointer (some ⟨w3.heap.size,0,none⟩)].toArray)∧E 10=.int .u64 (n:Nat)∧E 11=.int .i64 (K:Nat)∧E 31=.int .i64 (K:Nat)∧E 32=.int .i64 (j:Nat)∧(j≤K)∧(Bel w w')∧(Box w' w.heap.size 9 [S s])∧(Box w' w2.heap.size 3 [.int .i64 (a:Nat)])∧(Box w' w3.heap.size 4 [.bool sh])∧(NumSt s at_ K n0 j a n sh)) (K) ?_ ?_)))
    ·exact ⟨0,_,n0,_,by omega,by first | rfl | exact vi om_ | exact vs (by first | assumption | (rw [hst];done) | (rw [hst];simp only [List.append_assoc])),by first | rfl | exact vi om_ | exact vs (by first | assumption | (rw [hst];done) | (rw [hst];simp only [List.append_assoc])),by first | rfl | exact vi om_ | exact vs (by first | assumption | (rw [hst];done) | (rw [hst];simp only [List.append_assoc])),by first | rfl | exact vi om_ | exact vs (by first | assumption | (rw [hst];done) | (rw [hst];simp only [List.append_assoc])),by first | rfl | exact vi om_ | exact vs (by first | assumption | (rw [hst];done) | (rw [hst];simp only [List.append_assoc])),by first | rfl | exact vi om_ | exact vs (by first | assumption | (rw [hst];done) | (rw [hst];simp only [List.append_assoc])),by first | rfl | exact vi om_ | exact vs (by first | assumption | (rw [hst];done) | (rw [hst];simp only [List.append_assoc])),by first | rfl | exact vi om_ | exact vs (by first | assumption | (rw [hst];done) | (rw [hst];simp only [List.append_assoc])),ao_,ao_,ao_,ao_,ao_,(by exact hst0)⟩
    ·rintro _ E wL33 ⟨j,a,n,sh,em,e2,e3,e7,e8,e10,e11,e31,e32,hj,hB,bx2,bx3,bx7,hst⟩;rw [upd_self e2,upd_self e3,upd_self e7,upd_self e8,upd_self e10,upd_self e11,upd_self e31,upd_self e32];refine W.seq (W.region (L.val (x_lss rfl rfl) rfl ?_));refine L.nil (thn_n (W.seq (W.cond (b:=_) rfl (fun g33=>?_) (fun g33=>?_))))
     ·have h33:=of_decide_eq_true g33;have hlt:j<K:=by omega
      obtain ⟨s1,-,s2,s3,s4⟩:=hst;have hn7:n<72057594037927936:=Nat.lt_of_lt_of_le (s2 om_) (Nat.le_trans (Nat.pow_le_pow_right om_ (show j≤7 by omega)) (by decide));have hba:=b8_lt (s.getD a 0);refine W.skip (thn_n (W.seq (W.block (W.region (L.val (x_mv (v:=.int _ _) rfl) rfl ?_)))));refine L.val (x_shl8 rfl rfl hn7) rfl ?_;refine L.val (x_mv (v:=_) rfl) rfl ?_;refine L.ret (x_callv koct4_en92 rfl rfl) rfl (nextB_ok _ _ _ s a sh _ bx3 bx2 bx7 s1 om_ ⟨by omega,by omega,by omega⟩) ?_;rintro _ w37 ⟨rfl,bx3,bx2,bx7,hG37⟩;refine L.val (x_conv (k':=.u64) (by rw [Tryz.underlying5];rfl) Tryz.underlying59 rfl (wru64 om_)) rfl ?_;refine L.val (x_orB (n:=n) (b:=(s.getD a 0).toNat) rfl rfl hn7 om_) rfl ?_;have hB:=hB.step hG37 (fun i hi e=>by rcases e with rfl | rfl <;> omega);have hst2:NumSt s at_ K n0 (j+1) (if a=s.length then a else a+1) (n * 256+(s.getD a 0).toNat) (sh || decide (a=s.length)):=by
        have hp:n * 256+(s.getD a 0).toNat<256 ^ (j+1):=by have:=s2 om_;rw [Nat.pow_succ];omega
        refine ⟨by split <;> omega,by omega,fun _=>hp,fun h=>?_,fun h=>?_⟩
        · rw [Bool.or_eq_false_iff] at h;have hne:¬ a=s.length:=of_decide_eq_false h.2;obtain ⟨ea,en⟩:=s3 h.1;rw [if_neg hne];refine ⟨by omega,?_⟩;rw [if_neg om_] at en ⊢;have e1:(s.drop (at_+1)).take (j+1)=(s.drop (at_+1)).take j++[s.getD a 0]:=by
            rw [take_snoc (d:=0) (by rw [List.length_drop];omega),List.getD_eq_getElem?_getD,List.getElem?_drop,← ea,← List.getD_eq_getElem?_getD]
          rw [e1,beV_snoc,en]
        · rw [Bool.or_eq_true] at h;rcases h with h | h
          · have:=s4 h;omega
          · have:=of_decide_eq_true h;cases hsh:sh with
            | true=>have:=s4 hsh;omega
            | false=>have:=(s3 hsh).1;omega
      refine L.val (x_as (v:=.int _ _) rfl) rfl ?_;refine L.nil (blk_n (thn_n (W.region (L.val (x_add rfl rfl (wr64 om_)) rfl ?_))));refine L.val (x_mv (v:=.int _ _) rfl) rfl ?_;refine L.nil (thn_n ⟨rfl,?_⟩);refine ⟨_,?_,j+1,_,_,_,rfl,by first | rfl | exact vi om_ | exact vs (by first | assumption | (rw [hst];done) | (rw [hst];simp only [List.append_assoc])),by first | rfl | exact vi om_ | exact vs (by first | assumption | (rw [hst];done) | (rw [hst];simp only [List.append_assoc])),by first | rfl | exact vi om_ | exact vs (by first | assumption | (rw [hst];done) | (rw [hst];simp only [List.append_assoc])),by first | rfl | exact vi om_ | exact vs (by first | assumption | (rw [hst];done) | (rw [hst];simp only [List.append_assoc])),by first | rfl | exact vi om_ | exact vs (by first | assumption | (rw [hst];done) | (rw [hst];simp only [List.append_assoc])),by first | rfl | exact vi om_ | exact vs (by first | assumption | (rw [hst];done) | (rw [hst];simp only [List.append_assoc])),by first | rfl | exact vi om_ | exact vs (by first | assumption | (rw [hst];done) | (rw [hst];simp only [List.append_assoc])),by first | rfl | exact vi om_ | exact vs (by first | assumption | (rw [hst];done) | (rw [hst];simp only [List.append_assoc])),ao_,ao_,ao_,ao_,ao_,(by exact hst2)⟩;omega
     ·have h33:=dlt_f g33;have hjK:j=K:=by omega
      subst hjK;obtain ⟨s1,s5,s2,s3,s4⟩:=hst;have hnb:n<18446744073709551616:=by
        by_cases h0:0<j
        · exact Nat.lt_of_lt_of_le (s2 h0) (Nat.le_trans (Nat.pow_le_pow_right om_ hK8) (by decide))
        · have:j=0:=by omega
          subst this;omega
      refine W.exit (thn_x (thn_x (blk_hit ?_)));refine thn_n (W.seq (W.block (W.seq (W.region (L.val (x_ld (v:=.bool _) koct4_oc4 rfl (bx7.cell (i:=0) rfl)) rfl ?_)))));refine L.val (x_as (v:=.bool _) rfl) rfl ?_;refine L.nil (thn_n (W.cond (b:=_) rfl (fun g42=>?_) (fun g42=>?_)))
      ·have h42:=g42;have hlt:=s4 g42;have e:takeNum s at_=(0,0,10):=by
         by_cases he:at_=s.length
         · exact takeNum_end om_
         · rw [takeNum_at om_,if_neg om_,if_pos om_]
       refine W.seq (W.region ?_);(iterate 3 refine L.val (x_as (v:=.int _ _) rfl) rfl ?_);refine L.nil (thn_n (W.ret (blk_r (thn_r (fin_mk (.inr rfl) ?_)))));rw [e];exact ⟨rfl,hB⟩
      ·have h42:=g42;obtain ⟨ea,en⟩:=s3 g42;have hat2:at_<s.length:=by omega
       refine W.seq (W.region (L.val (x_mv (v:=.int _ _) rfl) rfl ?_));refine L.val (x_gtr rfl rfl) rfl ?_;refine L.val (x_mv (v:=.bool _) rfl) rfl ?_;refine L.splitat (dj:=46) (b:=_) rfl (fun g46=>?_) (fun g46=>?_)
       ·have h46:=of_decide_eq_true g46;have hf8:248≤(s.getD at_ 0).toNat:=by omega
        have hj7:(s.getD at_ 0).toNat - 247=j:=by omega
        have hlen:at_+1+j≤s.length:=by omega
        rw [if_neg om_] at en;have e0:takeNum s at_=if n<248∨widN n≠j then (0,0,11) else (n,at_+1+j,0):=by
          rw [takeNum_at hat2,if_neg om_,if_neg om_,hj7,← en]
        refine L.gyes' (dj:=46) (b:=_) rfl rfl g46 ?_;refine L.val (x_mv (v:=.int _ _) rfl) rfl ?_;refine L.gyes' (dj:=46) (b:=_) rfl rfl g46 ?_;refine L.val (x_lss rfl rfl) rfl ?_;refine L.gyes' (dj:=46) (b:=_) rfl rfl g46 ?_;refine L.val (x_mv (v:=.bool _) rfl) rfl ?_;refine L.splitat (dj:=49) (b:=_) rfl (fun g49=>?_) (fun g49=>?_)
        ·have h49:=of_decide_eq_true g49;have e:takeNum s at_=(0,0,11):=by rw [e0,if_pos (.inl om_)]
         (iterate 4 refine L.gno (dj:=49) (b:=_) rfl rfl g49 rfl ?_);refine L.gyes' (dj:=46) (b:=_) rfl rfl g46 ?_;refine L.val (x_pick_t (v:=.bool _) (congrArg Value.bool g49) rfl) rfl ?_;refine L.val (x_pick_t (v:=.bool _) (congrArg Value.bool g46) rfl) rfl ?_;refine L.val (x_as (v:=.bool _) rfl) rfl ?_;refine L.nil (thn_n (W.cond (b:=true) rfl (fun _=>?_) (fun h=>nomatch h)));refine W.seq (W.region ?_);(iterate 3 refine L.val (x_as (v:=.int _ _) rfl) rfl ?_);refine L.nil (thn_n (W.ret (blk_r (thn_r (fin_mk (.inr rfl) ?_)))));rw [e];exact ⟨rfl,hB⟩
        ·have h49:=dlt_f g49;refine L.gyes' (dj:=49) (b:=_) rfl rfl g49 ?_;refine L.val (x_mv (v:=.int _ _) rfl) rfl ?_;refine L.gyes' (dj:=49) (b:=_) rfl rfl g49 ?_;refine L.ret (x_call koct4_en49 rfl) rfl (width_ok n hnb _) ?_;rintro _ w51 ⟨rfl,hq51⟩;rw [hq51];refine L.gyes' (dj:=49) (b:=_) rfl rfl g49 ?_;refine L.val (x_mv (v:=.int _ _) rfl) rfl ?_;refine L.gyes' (dj:=49) (b:=_) rfl rfl g49 ?_;refine L.val (x_neq rfl rfl) rfl ?_;refine L.gyes' (dj:=46) (b:=_) rfl rfl g46 ?_;refine L.val (x_pick_f (v:=.bool _) (congrArg Value.bool g49) rfl) rfl ?_;refine L.val (x_pick_t (v:=.bool _) (congrArg Value.bool g46) rfl) rfl ?_;refine L.val (x_as (v:=.bool _) rfl) rfl ?_;refine L.nil (thn_n (W.cond (b:=_) rfl (fun g53=>?_) (fun g53=>?_)))
         ·have h53:=dne_t g53;have e:takeNum s at_=(0,0,11):=by rw [e0,if_pos (.inr om_)]
          refine W.seq (W.region ?_);(iterate 3 refine L.val (x_as (v:=.int _ _) rfl) rfl ?_);refine L.nil (thn_n (W.ret (blk_r (thn_r (fin_mk (.inr rfl) ?_)))));rw [e];exact ⟨rfl,hB⟩
         ·have h53:=dne_f g53;have e:takeNum s at_=(n,at_+1+j,0):=by rw [e0,if_neg om_]
          refine W.skip (blk_n (thn_n (W.seq (W.drawB koct4_mixed kr_ ?_))));refine LQ.val (fun w hw=>x_mv (v:=.int _ _) rfl) rfl ?_;refine LQ.val (fun w hw=>x_ld (v:=.int _ _) koct4_oc3 rfl (hw.keep (bx3.cell (i:=0) rfl))) rfl ?_;(iterate 3 refine LQ.val (fun w hw=>x_as (v:=.int _ _) rfl) rfl ?_);refine LQ.nil ?_;intro w56 hw;have hB:=hB.carry hw;have bx2:=bx2.carry hw;have bx3:=bx3.carry hw;have bx7:=bx7.carry hw;refine thn_n (W.ret (fin_mk (.inr rfl) ?_));rw [e,ea];exact ⟨rfl,hB⟩
       ·have h46:=dlt_f g46;have hj0:j=0:=by omega
        subst hj0;rw [if_pos rfl] at en;have e:takeNum s at_=(n,at_+1,0):=by
          rw [takeNum_at hat2,if_pos om_];have:n=(s.getD at_ 0).toNat:=by omega
          rw [this]
        (iterate 3 refine L.gno (dj:=46) (b:=_) rfl rfl g46 rfl ?_);(iterate 4 refine L.gun (dj:=49) rfl rfl rfl ?_);refine L.gno (dj:=46) (b:=_) rfl rfl g46 rfl ?_;refine L.val (x_pick_f (v:=.bool _) (congrArg Value.bool g46) rfl) rfl ?_;refine L.val (x_as (v:=.bool _) rfl) rfl ?_;refine L.nil (thn_n (W.cond (b:=false) rfl (fun h=>nomatch h) (fun _=>?_)));refine W.skip (blk_n (thn_n (W.seq (W.drawB koct4_mixed kr_ ?_))));refine LQ.val (fun w hw=>x_mv (v:=.int _ _) rfl) rfl ?_;refine LQ.val (fun w hw=>x_ld (v:=.int _ _) koct4_oc3 rfl (hw.keep (bx3.cell (i:=0) rfl))) rfl ?_;(iterate 3 refine LQ.val (fun w hw=>x_as (v:=.int _ _) rfl) rfl ?_);refine LQ.nil ?_;intro w56 hw;have hB:=hB.carry hw;have bx2:=bx2.carry hw;have bx3:=bx3.carry hw;have bx7:=bx7.carry hw;refine thn_n (W.ret (fin_mk (.inr rfl) ?_));rw [e,ea];exact ⟨rfl,hB⟩
end Go.Gx
namespace Go.Gx
open Go.Proofs
theorem koct5_en62:Go.Proofs.Enters Tryz.prog 62:=Go.Proofs.enters_of Tryz.func62 kr_ rfl
theorem takeNum_le {s:Str} {k:Nat} (h:(takeNum s k).2.2=0):k<(takeNum s k).2.1∧(takeNum s k).2.1≤s.length∧k<s.length:=by
  by_cases hk:k<s.length
  · rw [takeNum_at hk] at h ⊢;split at h
    · rename_i h1;rw [if_pos h1];exact ⟨by show k<k+1;omega,by show k+1≤_;omega,hk⟩
    · rename_i h1
      rw [if_neg h1];split at h
      · cases h
      · rename_i h2
        rw [if_neg h2];split at h
        · cases h
        · rename_i h3
          rw [if_neg h3];exact ⟨by show k<k+1+_;omega,by show k+1+_≤_;omega,hk⟩
  · rw [takeNum_end om_] at h;cases h
theorem takeNum_lt (s:Str) (k:Nat):(takeNum s k).1<18446744073709551616:=by
  by_cases hk:k<s.length
  · rw [takeNum_at hk];have hb:=b8_lt (s.getD k 0);split
    · show (s.getD k 0).toNat<_;omega
    · split
      · exact (by omega:(0:Nat)<18446744073709551616)
      · split
        · exact (by omega:(0:Nat)<18446744073709551616)
        · have h1:beV ((s.drop (k+1)).take ((s.getD k 0).toNat - 247))<256 ^ 8:=Nat.lt_of_lt_of_le (beV_lt _) (Nat.pow_le_pow_right om_ (by rw [List.length_take];omega));have h3:(256:Nat) ^ 8=18446744073709551616:=by decide
          rw [h3] at h1;dsimp only;exact h1
  · have h0:(takeNum s k).1=0:=by rw [takeNum_end om_]
    rw [h0];omega
theorem takeText_eq (s:Str) (k:Nat):takeText s k=if (takeNum s k).2.2≠0 then ([],0,(takeNum s k).2.2) else if s.length - (takeNum s k).2.1<(takeNum s k).1 then ([],0,10) else ((s.drop (takeNum s k).2.1).take (takeNum s k).1,(takeNum s k).2.1+(takeNum s k).1,0):=rfl
theorem takeText_ok (s:Str) (at_:Nat) (hat:at_≤s.length) (hs:s.length≤1000000000) (w:World):
    Ret Tryz.prog 63 #[S s,.int .i64 (at_:Nat)] w fun v w'=>v=.tuple #[S (takeText s at_).1,.int .i64 ((takeText s at_).2.1:Nat),.int .i64 (takeText s at_).2.2]∧Bel w w':=by
  have hlt:=takeNum_lt s at_;rw [takeText_eq];refine ret_of_W Tryz.func63 rfl (Nat.le_of_ble_eq_true rfl) (res3 rfl) ?_;have hB:=Gr.refl (fun _=>False) w;refine W.seq (W.region (L.val (x_as (v:=S _) rfl) rfl ?_));refine L.val (x_as (v:=.int _ _) rfl) rfl ?_;refine L.val (x_as (v:=.int _ _) rfl) rfl ?_;refine L.nil (thn_n (W.seq (W.region (L.val (x_mv (v:=S _) rfl) rfl ?_))));refine L.val (x_mv (v:=.int _ _) rfl) rfl ?_;refine L.ret (x_call koct5_en62 rfl) rfl (takeNum_ok s at_ hat hs _) ?_;rintro _ w14 ⟨rfl,hw⟩;have hB:=hB.carry hw;refine L.val (x_mv (v:=_) rfl) rfl ?_;(iterate 3 refine L.val (x_ext (v:=.int _ _) rfl rfl) rfl ?_);(iterate 3 refine L.val (x_as (v:=.int _ _) rfl) rfl ?_);refine L.nil (thn_n (W.seq (W.seq (W.region (L.val (x_mv (v:=.int _ _) rfl) rfl ?_)))));refine L.val (x_neq rfl rfl) rfl ?_;refine L.nil (thn_n (W.cond (b:=_) rfl (fun g19=>?_) (fun g19=>?_)))
  ·have h19:=dne_t g19;have he:(takeNum s at_).2.2≠0:=h19;refine W.seq (W.region (L.val (x_mv (v:=.int _ _) rfl) rfl ?_));refine L.val (x_as (v:=S _) rfl) rfl ?_;refine L.val (x_as (v:=.int _ _) rfl) rfl ?_;refine L.val (x_as (v:=.int _ _) rfl) rfl ?_;refine L.nil (thn_n (W.ret (thn_r (fin_mk (.inr rfl) ?_))));rw [if_pos he];exact ⟨rfl,hB⟩
  ·have h19:=dne_f g19;have he:(takeNum s at_).2.2=0:=by simpa using h19
   obtain ⟨l1,l2,l3⟩:=takeNum_le he;rw [if_neg (by rw [he];decide)];refine W.skip (thn_n (W.seq (W.seq (W.region (L.val (x_mv (v:=.int _ _) rfl) rfl ?_)))));refine L.val (x_mv (v:=S _) rfl) rfl ?_;refine L.val (x_len_str Tryz.underlying9 rfl) rfl ?_;refine L.val (x_mv (v:=.int _ _) rfl) rfl ?_;refine L.val (x_sub rfl rfl (wr64 om_)) rfl ?_;refine L.val (x_conv (k':=.u64) (by rw [Tryz.underlying3];rfl) Tryz.underlying59 rfl (wru64 om_)) rfl ?_;refine L.val (x_gtr rfl rfl) rfl ?_;refine L.nil (thn_n (W.cond (b:=_) rfl (fun g27=>?_) (fun g27=>?_)))
   ·have h27:=of_decide_eq_true g27;have h2:s.length - (takeNum s at_).2.1<(takeNum s at_).1:=by omega
    refine W.seq (W.region (L.val (x_as (v:=S _) rfl) rfl ?_));refine L.val (x_as (v:=.int _ _) rfl) rfl ?_;refine L.val (x_as (v:=.int _ _) rfl) rfl ?_;refine L.nil (thn_n (W.ret (thn_r (fin_mk (.inr rfl) ?_))));rw [if_pos h2];exact ⟨rfl,hB⟩
   ·have h27:=dlt_f g27;have h2:¬ s.length - (takeNum s at_).2.1<(takeNum s at_).1:=by omega
    rw [if_neg h2];refine W.skip (thn_n (W.seq (W.region (L.val (x_mv (v:=.int _ _) rfl) rfl ?_))));refine L.val (x_mv (v:=.int _ _) rfl) rfl ?_;refine L.val (x_conv (k':=.i64) (by rw [Tryz.underlying59];rfl) Tryz.underlying3 rfl (wr64 om_)) rfl ?_;refine L.val (x_add rfl rfl (wr64 om_)) rfl ?_;refine L.val (x_as (v:=.int _ _) rfl) rfl ?_;refine L.nil (thn_n (W.seq (W.region (L.val (x_mv (v:=S _) rfl) rfl ?_))));refine L.val (x_mv (v:=.int _ _) rfl) rfl ?_;refine L.val (x_mv (v:=.int _ _) rfl) rfl ?_;refine L.val (x_slAB (j:=(takeNum s at_).2.1) (j':=(takeNum s at_).2.1+(takeNum s at_).1) Tryz.underlying9 rfl rfl rfl rfl om_ om_ om_) rfl ?_;refine L.val (x_mv (v:=.int _ _) rfl) rfl ?_;refine L.val (x_as (v:=S _) rfl) rfl ?_;refine L.val (x_as (v:=.int _ _) rfl) rfl ?_;refine L.val (x_as (v:=.int _ _) rfl) rfl ?_;refine L.nil (thn_n (W.ret (fin_mk (.inr rfl) ?_)));rw [show (takeNum s at_).2.1+(takeNum s at_).1 - (takeNum s at_).2.1=(takeNum s at_).1 by omega];exact ⟨by rw [Int.natCast_add];rfl,hB⟩
def takeF (s:Str) (k:Nat):Str × Nat × Int:=
  if (takeText s k).2.2≠0 then ([],0,(takeText s k).2.2)
  else if 20000<(takeText s k).1.length then ([],0,3)
  else if s.length - (takeText s k).2.1<4 then ([],0,10)
  else if sumB ((s.drop k).take ((takeText s k).2.1 - k))≠(s.drop (takeText s k).2.1).take 4 then ([],0,200)
  else ((takeText s k).1,(takeText s k).2.1+4,0)
theorem takeText_le {s:Str} {k:Nat} (h:(takeText s k).2.2=0):k<(takeText s k).2.1∧(takeText s k).2.1≤s.length∧k<s.length:=by
  rw [takeText_eq] at h ⊢;split at h
  · rename_i h1;exact absurd h h1
  · rename_i h1
    rw [if_neg h1];obtain ⟨l1,l2,l3⟩:=takeNum_le (by simpa using h1);split at h
    · cases h
    · rename_i h2
      rw [if_neg h2];exact ⟨by show k<_+_;omega,by show _+_≤_;omega,l3⟩
theorem takeText_len (s:Str) (k:Nat):(takeText s k).1.length≤s.length:=by
  rw [takeText_eq];split
  · simp
  · split
    · simp
    · rw [List.length_take,List.length_drop];omega
section
variable {P:Program} {n m:Nat} {Q:Post} {D:List Deferred} {E:Env} {w:World} {F:Fence}
theorem LI.gyes {ops:Array Oper} {r:List Oper} {dst:Option Tmp} {op:Op} {t:TypeId} {p:String} {af:Array Edge} {j dj:Nat} {want b:Bool}
    (hj:(ops[j]?).bind (·.dst)=some dj) (hw:E dj=.bool b) (hb:b=want) (k:LI F m P n ops Q (⟨dst,op,t,p,af,none⟩ :: r) D E w):
    LI F m P n ops Q (⟨dst,op,t,p,af,some (j,want)⟩ :: r) D E w:=by
  subst hb;intro a ha;have h:=k a ha;unfold wpListIn at h ⊢;rw [if_pos (wanted_yes rfl hj ha hw)];rw [if_pos (by simp [Region.wanted])] at h;exact h
theorem LI.gno {ops:Array Oper} {r:List Oper} {d:Nat} {op:Op} {t:TypeId} {p:String} {af:Array Edge} {j dj:Nat} {want b:Bool}
    (hj:(ops[j]?).bind (·.dst)=some dj) (hw:E dj=.bool b) (hb:b=!want) (hF:∀ f,F.fn f) (hd:Nat.blt d n=true) (k:LI F m P n ops Q r D (upd E d undef) w):
    LI F m P n ops Q (⟨some d,op,t,p,af,some (j,want)⟩ :: r) D E w:=by
  intro a ha;unfold wpListIn;rw [if_neg (by rw [wanted_no rfl hj ha hw hb];simp)];exact ⟨fun f _=>hF f,k _ (ha.put _ hd)⟩
end
end Go.Gx
namespace Go.Gx
open Go.Proofs
theorem lowB_nat (n:Nat):(lowB (n:Int)).toNat=n % 256:=by
  unfold lowB;rw [UInt8.toNat_ofNat',show ((n:Int) % 256).toNat=n % 256 by omega];omega
theorem beV_take_beN {k n:Nat} (hn:n<256 ^ k):∀ j,j≤k→beV ((beN k n).take j)=n / 256 ^ (k - j)
  | 0,_=>by rw [List.take_zero,Nat.sub_zero,Nat.div_eq_of_lt hn];rfl
  | j+1,hj=>by
    rw [beN_take hj,beV_snoc,beV_take_beN hn j om_];have e1:(n:Int) / 2 ^ (8 * (k - 1 - j))=((n / 256 ^ (k - (j+1)):Nat):Int):=by
      have h2:(256:Nat) ^ (k - (j+1))=2 ^ (8 * (k - 1 - j)):=by
        rw [show (256:Nat)=2 ^ 8 from rfl,← Nat.pow_mul,show k - 1 - j=k - (j+1) by omega]
      rw [h2,Int.natCast_ediv,Int.natCast_pow];rfl
    rw [e1,lowB_nat];have e2:256 ^ (k - j)=256 ^ (k - (j+1)) * 256:=by rw [← Nat.pow_succ];congr 1;omega
    rw [e2,← Nat.div_div_eq_div_mul];omega
theorem beV_beN {k n:Nat} (hn:n<256 ^ k):beV (beN k n)=n:=by
  have:=beV_take_beN hn k (Nat.le_refl _);rw [List.take_of_length_le (by rw [beN_len];exact Nat.le_refl _),Nat.sub_self,Nat.pow_zero,Nat.div_one] at this;exact this
theorem bit8:∀ n:Fin 256,n.val≠0→1≤Lib.bitLen n.val∧Lib.bitLen n.val≤8:=by decide +kernel
theorem widN_1 {n:Nat} (h0:n≠0) (h:n<256):widN n=1:=by
  have:=bit8 ⟨n,h⟩ h0;unfold widN;dsimp only at this;omega
theorem widN_2 {n:Nat} (h0:256≤n) (h:n<65536):widN n=2:=by
  have:=bit8 ⟨n / 256,by omega⟩ (by dsimp only;omega);unfold widN;rw [Lib.bitLen_shift8 n h0 om_];dsimp only at this;omega
theorem takeNum_numB {n:Nat} (hn:n≤20000) (pre rest:Str):takeNum (pre++numB n++rest) pre.length=(n,pre.length+(numB n).length,0):=by
  have e0:(pre++numB n++rest).drop pre.length=numB n++rest:=by rw [List.append_assoc,List.drop_left]
  unfold takeNum;rw [e0];by_cases h:n<248
  · have e1:numB n=[lowB (n:Nat)]:=by unfold numB;rw [if_pos h]
    rw [e1];simp only [List.cons_append,List.nil_append];rw [lowB_nat,show n % 256=n by omega,if_pos h];rfl
  · have hw:∃ k,widN n=k∧1≤k∧k≤2∧n<256 ^ k:=by
      by_cases h2:n<256
      · exact ⟨1,widN_1 om_ h2,by omega,by omega,by omega⟩
      · exact ⟨2,widN_2 om_ om_,by omega,by omega,by omega⟩
    obtain ⟨k,hk,k1,k2,k3⟩:=hw;have e1:numB n=lowB ((247+k:Nat):Int) :: beN k n:=by unfold numB;rw [if_neg h,hk];rfl
    have e2:(lowB ((247+k:Nat):Int)).toNat=247+k:=by rw [lowB_nat];omega
    have e3:(beN k n++rest).take k=beN k n:=by
      have:=List.take_left (l₁ := beN k n) (l₂ := rest)
      rwa [beN_len] at this
    rw [e1];simp only [List.cons_append];rw [e2,if_neg om_,show 247+k - 247=k by omega,if_neg (by rw [List.length_append,beN_len];omega),e3,beV_beN k3,if_neg (by rw [hk];omega)];simp only [List.length_cons,beN_len];rw [show pre.length+1+k=pre.length+(k+1) by omega]
theorem takeText_textB {s:Str} (hs:s.length≤20000) (pre rest:Str):takeText (pre++textB s++rest) pre.length=(s,pre.length+(textB s).length,0):=by
  have e0:pre++textB s++rest=pre++numB s.length++(s++rest):=by unfold textB;simp only [List.append_assoc]
  have hN:=takeNum_numB hs pre (s++rest);rw [takeText_eq,e0,hN];have e1:(pre++numB s.length++(s++rest)).drop (pre.length+(numB s.length).length)=s++rest:=by
    have:=List.drop_left (l₁ := pre++numB s.length) (l₂ := s++rest)
    rwa [List.length_append] at this
  have e2:(textB s).length=(numB s.length).length+s.length:=by unfold textB;rw [List.length_append]
  dsimp only;rw [if_neg (by decide),if_neg (by simp only [List.length_append];omega),e1,List.take_left,e2,Nat.add_assoc]
def listB (l:List Str):Str:=numB l.length++(l.map textB).flatten
def takeListF:Nat→Str→Nat→List Str × Nat × Int
  | 0,_,a=>([],a,0)
  | n+1,s,a=>
    if (takeText s a).2.2≠0 then ([],0,(takeText s a).2.2)
    else if (takeListF n s (takeText s a).2.1).2.2≠0 then ([],0,(takeListF n s (takeText s a).2.1).2.2)
    else ((takeText s a).1 :: (takeListF n s (takeText s a).2.1).1,(takeListF n s (takeText s a).2.1).2.1,0)
def takeList (s:Str) (a:Nat):List Str × Nat × Int:=
  if (takeNum s a).2.2≠0 then ([],0,(takeNum s a).2.2) else takeListF (takeNum s a).1 s (takeNum s a).2.1
theorem takeListF_texts:∀ (l:List Str) (pre rest:Str),(∀ s∈l,s.length≤20000)→takeListF l.length (pre++(l.map textB).flatten++rest) pre.length=(l,pre.length+((l.map textB).flatten).length,0)
  | [],pre,rest,_=>rfl
  | s :: l,pre,rest,h=>by
    have e0:pre++((s :: l).map textB).flatten++rest=pre++textB s++((l.map textB).flatten++rest):=by simp only [List.map_cons,List.flatten_cons,List.append_assoc]
    have h1:=takeText_textB (h s (by simp)) pre ((l.map textB).flatten++rest);have ih:=takeListF_texts l (pre++textB s) rest (fun x hx=>h x (List.mem_cons_of_mem _ hx));rw [show pre++textB s++(l.map textB).flatten++rest=pre++textB s++((l.map textB).flatten++rest) by simp only [List.append_assoc],List.length_append] at ih;rw [e0,List.length_cons,takeListF,h1];dsimp only;rw [if_neg (by decide),ih];dsimp only;rw [if_neg (by decide),List.map_cons,List.flatten_cons,List.length_append,Nat.add_assoc]
theorem takeListF_fail {n:Nat} {s:Str} {a:Nat} (h:(takeText s a).2.2≠0):takeListF (n+1) s a=([],0,(takeText s a).2.2):=by rw [takeListF,if_pos h]
theorem takeListF_err:∀ (n:Nat) (s:Str) (a:Nat),(takeListF n s a).2.2≠0→takeListF n s a=([],0,(takeListF n s a).2.2)
  | 0,_,_,h=>absurd rfl h
  | n+1,s,a,h=>by
    rw [takeListF] at h ⊢;split
    · rfl
    · rename_i h1
      rw [if_neg h1] at h;split
      · rfl
      · rename_i h2
        rw [if_neg h2] at h;exact absurd rfl h
def moreL (o:List Str) (r:List Str × Nat × Int):List Str × Nat × Int:=if r.2.2≠0 then ([],0,r.2.2) else (o++r.1,r.2.1,0)
theorem moreL_nil (n:Nat) (s:Str) (a:Nat):moreL [] (takeListF n s a)=takeListF n s a:=by
  unfold moreL;split
  · rename_i h;exact (takeListF_err n s a h).symm
  · rename_i h
    have h:(takeListF n s a).2.2=0:=by simpa using h
    rw [List.nil_append,← h]
theorem moreL_step {o:List Str} {n:Nat} {s:Str} {a:Nat} (h:(takeText s a).2.2=0):moreL o (takeListF (n+1) s a)=moreL (o++[(takeText s a).1]) (takeListF n s (takeText s a).2.1):=by
  rw [takeListF,if_neg (by simpa using h)];unfold moreL;by_cases h2:(takeListF n s (takeText s a).2.1).2.2≠0
  · rw [if_pos h2,if_pos h2,if_pos h2]
  · rw [if_neg h2,if_neg h2,if_neg (by simp)];simp
end Go.Gx
namespace Go.Gx
open Go.Proofs
mutual
def Sh.bytes:Sh→Str | .mk k o n ns ps=>numB k.toNat++(textB o++(textB n++(listB ns++(numB ps.length++bytesL ps))))
def bytesL:List Sh→Str | []=>[] | p :: ps=>p.bytes++bytesL ps
end
def smallN (s:Str) (a most:Nat):Option (Nat × Nat):=if (takeNum s a).2.2=0∧(takeNum s a).1≤most then some ((takeNum s a).1,(takeNum s a).2.1) else none
def tText (s:Str) (a:Nat):Option (Str × Nat):=if (takeText s a).2.2=0 then some ((takeText s a).1,(takeText s a).2.1) else none
def tList (s:Str) (a most:Nat):Option (List Str × Nat):=if (takeList s a).2.2=0∧(takeList s a).1.length≤most then some ((takeList s a).1,(takeList s a).2.1) else none
def pMany (f:Nat→Option (Sh × Nat)):Nat→Nat→Option (List Sh × Nat)
  | 0,a=>some ([],a)
  | n+1,a=>(f a).bind fun x=>(pMany f n x.2).map fun y=>(x.1 :: y.1,y.2)
def pSh (s:Str):Nat→Nat→Option (Sh × Nat)
  | 0,_=>none
  | L+1,a=>(smallN s a 10).bind fun k=>(tText s k.2).bind fun o=>(tText s o.2).bind fun n=>(tList s n.2 400).bind fun ns=>(smallN s ns.2 400).bind fun m=>(pMany (pSh s L) m.1 m.2).map fun ps=>(.mk k.1 o.1 n.1 ns.1 ps.1,ps.2)
def goodB (s:Sh):Bool:=decide (0≤s.kind) && decide (s.kind≤10) && decide (s.of.length≤20000) && decide (s.name.length≤20000) && decide (s.names.length≤400) && s.names.all (fun x=>decide (x.length≤20000)) && decide (s.parts.length≤400)
theorem smallN_numB {n most:Nat} (hn:n≤20000) (hm:n≤most) (pre rest:Str):smallN (pre++numB n++rest) pre.length most=some (n,pre.length+(numB n).length):=by
  unfold smallN;rw [takeNum_numB hn pre rest];exact if_pos ⟨rfl,hm⟩
theorem tText_textB {s:Str} (hs:s.length≤20000) (pre rest:Str):tText (pre++textB s++rest) pre.length=some (s,pre.length+(textB s).length):=by
  unfold tText;rw [takeText_textB hs pre rest];exact if_pos rfl
theorem takeList_at {l:List Str} (hn:l.length≤20000) (h:∀ s∈l,s.length≤20000) (pre rest:Str):takeList (pre++listB l++rest) pre.length=(l,pre.length+(listB l).length,0):=by
  have e:pre++listB l++rest=pre++numB l.length++((l.map textB).flatten++rest):=by unfold listB;simp only [List.append_assoc]
  have h1:=takeNum_numB hn pre ((l.map textB).flatten++rest);have h2:=takeListF_texts l (pre++numB l.length) rest h;rw [show pre++numB l.length++(l.map textB).flatten++rest=pre++numB l.length++((l.map textB).flatten++rest) by simp only [List.append_assoc],List.length_append] at h2;unfold takeList;rw [e,h1];dsimp only;rw [if_neg (by decide),h2];unfold listB;rw [List.length_append,Nat.add_assoc]
theorem tList_listB {l:List Str} {most:Nat} (hn:l.length≤20000) (hm:l.length≤most) (h:∀ s∈l,s.length≤20000) (pre rest:Str):tList (pre++listB l++rest) pre.length most=some (l,pre.length+(listB l).length):=by
  unfold tList;rw [takeList_at hn h pre rest];exact if_pos ⟨rfl,hm⟩
theorem deepL_mem {l:List Sh} {p:Sh} (h:p∈l):p.deep≤deepL l:=by
  induction l with
  | nil=>cases h
  | cons x l ih=>
    rw [deepL];rcases List.mem_cons.1 h with rfl | h
    · exact Nat.le_max_left _ _
    · exact Nat.le_trans (ih h) (Nat.le_max_right _ _)
theorem allL_mem {p:Sh→Bool} {l:List Sh} (h:allL p l=true):∀ x∈l,x.allB p=true:=fun x hx=>by
  induction l with
  | nil=>cases hx
  | cons y l ih=>
    rw [allL,Bool.and_eq_true] at h;rcases List.mem_cons.1 hx with rfl | hx
    · exact h.1
    · exact ih h.2 hx
theorem pMany_bytes {t:Str} {L:Nat}:∀ (ps:List Sh) (pre rest:Str),t=pre++bytesL ps++rest→(∀ p∈ps,∀ pre rest,t=pre++p.bytes++rest→pSh t L pre.length=some (p,pre.length+p.bytes.length))→pMany (pSh t L) ps.length pre.length=some (ps,pre.length+(bytesL ps).length)
  | [],pre,rest,_,_=>rfl
  | p :: ps,pre,rest,ht,h=>by
    have e1:t=pre++p.bytes++(bytesL ps++rest):=by rw [ht,bytesL];simp only [List.append_assoc]
    have e2:t=(pre++p.bytes)++bytesL ps++rest:=by rw [e1];simp only [List.append_assoc]
    have h1:=h p (by simp) pre _ e1;have ih:=pMany_bytes ps (pre++p.bytes) rest e2 (fun q hq=>h q (List.mem_cons_of_mem _ hq));rw [List.length_cons,pMany,h1,Option.bind_some];dsimp only;rw [← List.length_append,ih,Option.map_some,bytesL,List.length_append,List.length_append,Nat.add_assoc]
theorem pSh_bytes (t:Str):∀ (L:Nat) (s:Sh) (pre rest:Str),t=pre++s.bytes++rest→s.deep≤L→s.allB goodB=true→pSh t L pre.length=some (s,pre.length+s.bytes.length)
  | 0,.mk k o n ns ps,_,_,_,hd,_=>by
    rw [Sh.deep] at hd;omega
  | L+1,.mk k o n ns ps,pre,rest,ht,hd,hg=>by
    rw [Sh.deep] at hd;rw [Sh.allB,Bool.and_eq_true] at hg;obtain ⟨g0,g1⟩:=hg;unfold goodB at g0;simp only [Bool.and_eq_true] at g0;obtain ⟨⟨⟨⟨⟨⟨a1,a2⟩,a3⟩,a4⟩,a5⟩,a6⟩,a7⟩:=g0;have a1:0≤k:=of_decide_eq_true a1;have a2:k≤10:=of_decide_eq_true a2;have a3:o.length≤20000:=of_decide_eq_true a3;have a4:n.length≤20000:=of_decide_eq_true a4;have a5:ns.length≤400:=of_decide_eq_true a5;have a6:∀ s∈ns,s.length≤20000:=fun s hs=>of_decide_eq_true (List.all_eq_true.1 a6 s hs)
    have a7:ps.length≤400:=of_decide_eq_true a7;have b1:t=pre++numB k.toNat++(textB o++(textB n++(listB ns++(numB ps.length++bytesL ps)))++rest):=by rw [ht,Sh.bytes];simp only [List.append_assoc]
    have b2:t=(pre++numB k.toNat)++textB o++(textB n++(listB ns++(numB ps.length++bytesL ps))++rest):=by rw [b1];simp only [List.append_assoc]
    have b3:t=(pre++numB k.toNat++textB o)++textB n++(listB ns++(numB ps.length++bytesL ps)++rest):=by rw [b2];simp only [List.append_assoc]
    have b4:t=(pre++numB k.toNat++textB o++textB n)++listB ns++((numB ps.length++bytesL ps)++rest):=by rw [b3];simp only [List.append_assoc]
    have b5:t=(pre++numB k.toNat++textB o++textB n++listB ns)++numB ps.length++(bytesL ps++rest):=by rw [b4];simp only [List.append_assoc]
    have b6:t=(pre++numB k.toNat++textB o++textB n++listB ns++numB ps.length)++bytesL ps++rest:=by rw [b5];simp only [List.append_assoc]
    have c1:=smallN_numB (n:=k.toNat) (most:=10) om_ om_ pre (textB o++(textB n++(listB ns++(numB ps.length++bytesL ps)))++rest);rw [← b1] at c1;have c2:=tText_textB a3 (pre++numB k.toNat) (textB n++(listB ns++(numB ps.length++bytesL ps))++rest);rw [← b2] at c2;have c3:=tText_textB a4 (pre++numB k.toNat++textB o) (listB ns++(numB ps.length++bytesL ps)++rest);rw [← b3] at c3;have c4:=tList_listB (most:=400) om_ a5 (fun s hs=>a6 s hs) (pre++numB k.toNat++textB o++textB n) ((numB ps.length++bytesL ps)++rest);rw [← b4] at c4;have c5:=smallN_numB (n:=ps.length) (most:=400) om_ a7 (pre++numB k.toNat++textB o++textB n++listB ns) (bytesL ps++rest);rw [← b5] at c5;have c6:=pMany_bytes (t:=t) (L:=L) ps (pre++numB k.toNat++textB o++textB n++listB ns++numB ps.length) rest b6 (fun p hp pre' rest' e=>pSh_bytes t L p pre' rest' e (by have:=deepL_mem hp;omega) (allL_mem g1 p hp));simp only [List.length_append] at c2 c3 c4 c5 c6;rw [pSh,c1,Option.bind_some];dsimp only;rw [c2,Option.bind_some];dsimp only;rw [c3,Option.bind_some];dsimp only;rw [c4,Option.bind_some];dsimp only;rw [c5,Option.bind_some];dsimp only;rw [c6,Option.map_some];have ek:((k.toNat:Nat):Int)=k:=by omega
    dsimp only;rw [ek,Sh.bytes];simp only [List.length_append,Option.some.injEq,Prod.mk.injEq,true_and];omega
end Go.Gx
