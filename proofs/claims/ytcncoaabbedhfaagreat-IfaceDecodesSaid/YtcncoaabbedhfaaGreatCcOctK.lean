/- A builder whose buffer is known: what writing changes. Conditions: none. -/
import Derived.Test.YtcncoaabbedhfaaGreatCcIfB
import Derived.Test.YtcncoaabbedhfaaGreatCcDrawD
namespace Go.Gx
open Go.Proofs
theorem koctk_el5:elT Tryz.prog 5 1=true:=by kernel_rfl
theorem koctk_en48:Go.Proofs.Enters Tryz.prog 48:=Go.Proofs.enters_of Tryz.func48 kr_ rfl
theorem koctk_fo53_0:fieldOff Tryz.prog 53 0=some 0:=by kernel_rfl
theorem koctk_fo53_1:fieldOff Tryz.prog 53 1=some 1:=by kernel_rfl
theorem koctk_oc47:oneCellT Tryz.prog 47=true:=by kernel_rfl
theorem koctk_oc51:oneCellT Tryz.prog 51=true:=by kernel_rfl
theorem koctk_sz47:(Tryz.prog.info? 47).map (·.size)=some 1:=by kernel_rfl
theorem koctk_sz51:(Tryz.prog.info? 51).map (·.size)=some 1:=by kernel_rfl
def BuilderV (w:World) (b:Nat) (v:Value) (l:Str):Prop:=
  ∃ p,(p=.pointer none∨p=.pointer (some ⟨b,0,none⟩))∧Box w b 53 [p,v]∧Own w b 5 1 v l.length (l.map B8)∧v.ownBlock≠some b
abbrev BR (b:Nat) (v:Value) (k:Nat):Prop:=k=b∨some k=v.ownBlock
theorem BuilderV.is {w:World} {b:Nat} {v:Value} {l:Str} (h:BuilderV w b v l):BuilderIs w b l:=by obtain ⟨p,h1,h2,h3,h4⟩:=h;exact ⟨p,v,h1,h2,h3,h4⟩
theorem BuilderV.lt {w:World} {b:Nat} {v:Value} {l:Str} (h:BuilderV w b v l):b<w.heap.size:=h.is.lt
theorem BuilderV.own {w:World} {b:Nat} {v:Value} {l:Str} (h:BuilderV w b v l) {k:Nat} (hk:some k=v.ownBlock):b<k∧k<w.heap.size:=by
  obtain ⟨p,h1,h2,h3,h4⟩:=h;have h5:=Own.lt h3 hk;have:k≠b:=fun e=>h4 (by rw [← hk,e])
  omega
theorem BuilderV.carryR {R:Nat→Prop} {w w':World} {b:Nat} {v:Value} {l:Str} (h:BuilderV w b v l) (g:Gr R w w') (hR:∀ k,BR b v k→¬ R k):BuilderV w' b v l:=by
  obtain ⟨p,h1,h2,h3,h4⟩:=h;exact ⟨p,h1,h2.carryR g (hR b (.inl rfl)),Own.carryR h3 g (fun j hj=>hR j (.inr hj)),h4⟩
theorem BuilderV.carry {w w':World} {b:Nat} {v:Value} {l:Str} (h:BuilderV w b v l) (g:Bel w w'):BuilderV w' b v l:=h.carryR g (fun _ _ f=>f)
theorem builderV_new {w:World} {b:Nat} (h:Box w b 53 [.pointer none,.slice none 0 0]):BuilderV w b (.slice none 0 0) []:=⟨_,.inl rfl,h,own_nil,by simp [Value.ownBlock]⟩
def Wrote (w:World) (b:Nat) (v:Value) (l:Str) (w':World):Prop:=∃ v',BuilderV w' b v' l∧Gr (BR b v) w w'∧(v'.ownBlock=v.ownBlock∨∀ k,some k=v'.ownBlock→w.heap.size≤k)
theorem ccheck_v (b:Nat) (v:Value) (l:Str) (w:World) (h:BuilderV w b v l):Ret Tryz.prog 48 #[.pointer (some ⟨b,0,none⟩)] w fun _ w'=>(Box w' b 53 [.pointer (some ⟨b,0,none⟩),v]∧Own w' b 5 1 v l.length (l.map B8)∧v.ownBlock≠some b)∧Gr (· = b) w w':=by
  have hlt:=h.lt;obtain ⟨p,hp,hb,ho,hn⟩:=h;rcases hp with rfl | rfl
  · have hlt0:=hlt;refine ret_of_W Tryz.func48 rfl (Nat.le_of_ble_eq_true rfl) (res0 rfl) ?_;refine W.seq (W.region (L.val (x_mv (v:=.pointer _) rfl) rfl ?_));refine L.val (x_nil rfl) rfl ?_;refine L.val (x_fa koctk_fo53_0 rfl) rfl ?_;refine L.val (x_ld (v:=.pointer _) koctk_oc51 rfl (hb.cell0 rfl)) rfl ?_;refine L.val (x_eqp0 Tryz.underlying51 rfl rfl) rfl ?_;refine L.nil (thn_n (W.cond (b:=_) rfl (fun g6=>?_) (fun g6=>?_)))
    ·have h6:=g6;refine W.region (L.val (x_mv (v:=.pointer _) rfl) rfl ?_);refine L.val (x_mv (v:=.pointer _) rfl) rfl ?_;refine L.val (x_toUns Tryz.underlying51 Tryz.underlying104 kr_ rfl (sh_box hb) (by simp)) rfl ?_;refine L.val (x_extn (e:=Extern.AbiNoEscape.same) Tryz.func77 kr_ kr_ kr_ kr_ rfl (Lib.run_noEscape _ _)) rfl ?_;refine L.val (x_fromUns Tryz.underlying104 Tryz.underlying51 kr_ rfl (sh_box hb) kr_) rfl ?_;refine L.val (x_nil rfl) rfl ?_;refine L.val (x_fa koctk_fo53_0 rfl) rfl ?_;refine L.set (v:=.pointer _) koctk_sz51 rfl rfl rfl hb rfl (fun wl13 hb hw hzl13=>?_);have ho:=Own.carryR ho hw (fun j hj e=>by have e:j=b:=e;rw [e] at hj;exact hn hj.symm);refine L.nil (fin_mk (.inl rfl) ?_);exact ⟨⟨hb,ho,hn⟩,hw⟩
    ·have h6:=g6;cases g6
  · have hlt0:=hlt;refine ret_of_W Tryz.func48 rfl (Nat.le_of_ble_eq_true rfl) (res0 rfl) ?_;refine W.seq (W.region (L.val (x_mv (v:=.pointer _) rfl) rfl ?_));refine L.val (x_nil rfl) rfl ?_;refine L.val (x_fa koctk_fo53_0 rfl) rfl ?_;refine L.val (x_ld (v:=.pointer _) koctk_oc51 rfl (hb.cell0 rfl)) rfl ?_;refine L.val (x_eqp0 Tryz.underlying51 rfl rfl) rfl ?_;refine L.nil (thn_n (W.cond (b:=_) rfl (fun g6=>?_) (fun g6=>?_)))
    ·have h6:=g6;cases g6
    ·have h6:=g6;refine W.seq (W.region (L.val (x_mv (v:=.pointer _) rfl) rfl ?_));refine L.val (x_nil rfl) rfl ?_;refine L.val (x_fa koctk_fo53_0 rfl) rfl ?_;refine L.val (x_ld (v:=.pointer _) koctk_oc51 rfl (hb.cell0 rfl)) rfl ?_;refine L.val (x_mv (v:=.pointer _) rfl) rfl ?_;refine L.val (x_nepS Tryz.underlying51 kr_ rfl rfl) rfl ?_;refine L.nil (thn_n (W.cond (b:=_) rfl (fun g19=>?_) (fun g19=>?_)))
     ·have h19:=g19;cases g19
     ·have h19:=g19;refine W.skip (fin_mk (.inl rfl) ?_);exact ⟨⟨hb,ho,hn⟩,Gr.refl _ _⟩
theorem app_str {P:Program} (w:World) (base:Nat) (T U t e:TypeId) (i:TypeInfo) (hu:P.underlying T=some (.slice e)) (hU:P.underlying U=some .string) (hi:P.info? e=some i) (hz:i.zero=some (.int .u8 0)) (hs:i.size=1) (hb1:i.bytes=1)
    (v:Value) (k:Nat) (xs:List Value) (h:Own w base e 1 v k xs) (l:ByteArray) (hk:k+l.size≤140737488355328) (hb:base≤w.heap.size):
    ∃ v' w',(Builtin.append_ #[T,U] t #[v,.string l]).run P w=.ok v' w'∧Own w' base e 1 v' (k+l.size) (xs++Lib.strCells l)∧w.grownBy w' v.ownBlock∧(v'.ownBlock=v.ownBlock∨∀ j,some j=v'.ownBlock→w.heap.size≤j):=by
  have h63:k+l.size≤maxLen:=by simp only [maxLen];omega
  obtain ⟨v',w',hr,h1,h2,-⟩:=Lib.run_append_own_string (P:=P) w base T U t e i hu hU hi hz hs hb1 v k xs h l h63 hk hb;refine ⟨v',w',hr,h1,h2,?_⟩;rcases h.2 with ⟨rfl,rfl⟩ | ⟨g,cap,cur,rfl,hbg,hg,hn,hcm,hcs,ht⟩
  · obtain ⟨v2,w2,hr2,h3,-⟩:=Lib.run_append_own_string (P:=P) w w.heap.size T U t e i hu hU hi hz hs hb1 (.slice none 0 0) 0 xs ⟨h.1,.inl ⟨rfl,rfl⟩⟩ l h63 hk (Nat.le_refl _);have e1:=hr.symm.trans hr2;cases e1;exact .inr fun j hj=>(Own.lt h3 hj).1
  · by_cases hroom:k+l.size≤cap
    · have e1:=hr.symm.trans (Lib.run_append_room_string (P:=P) w T U t e i hu hU hi hs g k cap cur hg l hroom om_);cases e1;exact .inl rfl
    · have hxl:xs.length=k:=by simpa using h.1
      have e1:=hr.symm.trans (Lib.run_append_grow_string (P:=P) w T U t e i (.int .u8 0) hu hU hi hz ⟨g,0,none⟩ k cap xs (by rw [hs];simpa using hxl) (World.ownsRow.cells (g:=g) h rfl) l om_ (by simp only [maxLen] at h63;omega) (by rw [hb1];exact growslice_fits om_ om_));cases e1;exact .inr fun j hj=>by have e:j=w.heap.size:=Option.some.inj hj;omega
theorem L.appSV {P:Program} {n:Nat} {Q:Post} {D:List Deferred} {E:Env} {w:World} {ops:Array Oper} {r:List Oper} {d:Nat} {x y:Operand} {T U t e:TypeId} {p:String} {af:Array Edge} {base k:Nat} {v:Value} {xs:List Value} {l:Str}
    (hu:P.underlying T=some (.slice e)) (hU:P.underlying U=some .string) (he:elT P e 1=true) (hz:(P.info? e).bind (·.zero)=some (.int .u8 0)) (hby:(P.info? e).map (·.bytes)=some 1) (hx:ev E x=v) (hy:ev E y=S l) (hd:Nat.blt d n=true) (h:Own w base e 1 v k xs)
    (hk:k+l.length≤140737488355328) (hb:base≤w.heap.size)
    (kk:∀ v' w',Own w' base e 1 v' (k+l.length) (xs++l.map B8)→Gr (fun j=>some j=v.ownBlock) w w'→(v'.ownBlock=v.ownBlock∨∀ j,some j=v'.ownBlock→w.heap.size≤j)→L P n ops Q r D (upd E d v') w'):
    L P n ops Q (⟨some d,.call ⟨.builtin .append,#[x,y],#[T,U]⟩,t,p,af,none⟩ :: r) D E w:=by
  obtain ⟨i,z,hi,hz',hs,-⟩:=elT_spec he;have hz2:i.zero=some (.int .u8 0):=by simpa [hi] using hz
  have hb2:i.bytes=1:=by simpa [hi] using hby
  obtain ⟨v',w',hr,h1,h2,h3⟩:=app_str (P:=P) w base T U t e i hu hU hi hz2 hs hb2 v k xs h ⟨l.toArray⟩ hk hb;refine L.val (v:=v') (w':=w') ?_ hd (kk v' w' h1 ⟨h2.os,h2.tape,h2.output,h2.size,fun j hj hn=>h2.block j hj (fun e=>hn e)⟩ h3);unfold X;simp only [S] at hy;simp [execOp,resolve,invoke,builtin,hx,hy,hr,Result.andThen]
theorem wstr_v (b:Nat) (v:Value) (l s:Str) (w:World) (h:BuilderV w b v l) (hl:l.length+s.length≤100000000):Ret Tryz.prog 24 #[.pointer (some ⟨b,0,none⟩),S s] w fun _ w'=>Wrote w b v (l++s) w':=by
  refine ret_of_W Tryz.func24 rfl (Nat.le_of_ble_eq_true rfl) (res2 rfl) ?_;refine W.seq (W.region (L.val (x_as (v:=.int _ _) rfl) rfl ?_));refine L.val (x_as (v:=_) rfl) rfl ?_;refine L.nil (thn_n (W.seq (W.region (L.val (x_mv (v:=.pointer _) rfl) rfl ?_))));refine L.ret (x_call koctk_en48 rfl) rfl (ccheck_v b v l _ h) ?_;rintro _ w7 ⟨⟨hb,ho,hn⟩,hG⟩;refine L.nil (thn_n (W.seq (W.region ?_)));have hlt:=hb.lt;have hs7:=hG.size;obtain ⟨a7,c7,e7,-⟩:=own_shape ho;subst e7;refine L.val (x_mv (v:=.pointer _) rfl) rfl ?_;refine L.val (x_mv (v:=.pointer _) rfl) rfl ?_;refine L.val (x_nil rfl) rfl ?_;refine L.val (x_fa koctk_fo53_1 rfl) rfl ?_;refine L.val (x_ld (v:=.slice _ _ _) koctk_oc47 rfl (hb.cell0 rfl)) rfl ?_;refine L.val (x_mv (v:=S _) rfl) rfl ?_;refine L.appSV Tryz.underlying47 Tryz.underlying9 koctk_el5 kr_ kr_ rfl rfl rfl ho om_ om_ (fun v14 w14 hO14 hg hob=>?_);have hb:=hb.carryR hg (fun e=>hn e.symm);have hn2:=own_box_ne hO14 hb (by decide);obtain ⟨a14,c14,e14,-⟩:=own_shape hO14;subst e14;refine L.val (x_nil rfl) rfl ?_;refine L.val (x_fa koctk_fo53_1 rfl) rfl ?_;refine L.set (v:=.slice _ _ _) koctk_sz47 rfl rfl rfl hb rfl (fun wl14 hb hw hzl14=>?_);have hO:=Own.carryR hO14 hw (fun j hj e=>by have e:j=b:=e;rw [e] at hj;exact hn2 hj);refine L.nil (thn_n (W.seq (W.region (L.val (x_mv (v:=S _) rfl) rfl ?_))));refine L.val (x_len_str Tryz.underlying9 rfl) rfl ?_;refine L.val (x_as (v:=.int _ _) rfl) rfl ?_;refine L.val (x_as (v:=_) rfl) rfl ?_;refine L.nil (thn_n (W.ret (fin_mk (.inr rfl) ?_)));refine ⟨_,⟨_,.inr rfl,hb,?_,fun e=>hn2 e.symm⟩,((hG.mono fun k _ e=>.inl e).trans (hg.mono fun k _ e=>.inr e)).trans (hw.mono fun k _ e=>.inl e),hob.imp id (fun e k hk=>Nat.le_trans hs7 (e k hk))⟩;simpa using hO
end Go.Gx
namespace Go.Gx
open Go.Proofs
theorem kifc_ag41:aggT Tryz.prog 41 5=true:=by kernel_rfl
theorem kifc_en24:Go.Proofs.Enters Tryz.prog 24:=Go.Proofs.enters_of Tryz.func24 kr_ rfl
theorem kifc_en25:Go.Proofs.Enters Tryz.prog 25:=Go.Proofs.enters_of Tryz.func25 kr_ rfl
theorem kifc_en26:Go.Proofs.Enters Tryz.prog 26:=Go.Proofs.enters_of Tryz.func26 kr_ rfl
theorem kifc_en27:Go.Proofs.Enters Tryz.prog 27:=Go.Proofs.enters_of Tryz.func27 kr_ rfl
theorem kifc_en50:Go.Proofs.Enters Tryz.prog 50:=Go.Proofs.enters_of Tryz.func50 kr_ rfl
theorem kifc_fo41_0:fieldOff Tryz.prog 41 0=some 0:=by kernel_rfl
theorem kifc_fo41_1:fieldOff Tryz.prog 41 1=some 1:=by kernel_rfl
theorem kifc_fo41_2:fieldOff Tryz.prog 41 2=some 2:=by kernel_rfl
theorem kifc_fo41_3:fieldOff Tryz.prog 41 3=some 3:=by kernel_rfl
theorem kifc_fo41_4:fieldOff Tryz.prog 41 4=some 4:=by kernel_rfl
theorem kifc_mixed:Tryz.prog.follows .mixedOrders=true:=by kernel_rfl
theorem kifc_oc3:oneCellT Tryz.prog 3=true:=by kernel_rfl
theorem kifc_oc38:oneCellT Tryz.prog 38=true:=by kernel_rfl
theorem kifc_oc39:oneCellT Tryz.prog 39=true:=by kernel_rfl
theorem kifc_oc9:oneCellT Tryz.prog 9=true:=by kernel_rfl
theorem kifc_sz41:(Tryz.prog.info? 41).map (·.size)=some 5:=by kernel_rfl
theorem kifc_zr41:(Tryz.prog.info? 41).bind (·.zero)=some (Value.agg [Value.int .i64 0,S [],S [],Value.slice none 0 0,Value.slice none 0 0].toArray):=by kernel_rfl
def headB (s:Sh):Str:=numB s.kind.toNat++textB s.of++textB s.name++listB s.names++numB s.parts.length
theorem bytes_head (s:Sh):s.bytes=headB s++bytesL s.parts:=by
  cases s;rw [Sh.bytes];unfold headB;simp only [Sh.kind,Sh.of,Sh.name,Sh.names,Sh.parts,List.append_assoc]
theorem texts_bound {l:List Str} (h:∀ x∈l,x.length≤24):((l.map textB).flatten).length≤33 * l.length:=by
  induction l with
  | nil=>simp
  | cons x l ih=>
    have h1:=h x (by simp);have h2:=ih (fun y hy=>h y (List.mem_cons_of_mem _ hy));have h3:(textB x).length≤33:=by unfold textB;rw [List.length_append];have:=numB_len (n:=x.length) om_;omega
    simp only [List.map_cons,List.flatten_cons,List.length_append,List.length_cons];omega
theorem fits_namesP {s:Sh} (h:fitsS s=true):s.names.length≤s.parts.length:=by
  unfold fitsS at h;split at h
  · simp only [Bool.and_eq_true,decide_eq_true_eq] at h;have:=h.1.2;omega
  · split at h
    · cases h
    · split at h
      · unfold namesOk at h;simp only [Bool.and_eq_true,decide_eq_true_eq] at h;have:=h.2;omega
      · split at h
        · cases h
        · omega
theorem head_len {s:Sh} (h:fitsS s=true) (hs:s.size≤400):(headB s).length≤93+33 * s.parts.length:=by
  obtain ⟨h1,h2,h3⟩:=fits_len h;have h4:=fits_namesP h;have h5:=texts_bound h3;have hp:s.parts.length≤400:=by
    cases s;rw [Sh.size] at hs
    rename_i ps
    have:=len_sizeL ps;show ps.length≤400;omega
  have hk:s.kind.toNat≤10:=by
    have hg:=fits_goodB h hp;unfold goodB at hg;simp only [Bool.and_eq_true,decide_eq_true_eq] at hg;have:=hg.1.1.1.1.1.2;omega
  have e1:=numB_len (n:=s.kind.toNat) om_;have e2:=numB_len (n:=s.of.length) om_;have e3:=numB_len (n:=s.name.length) om_;have e4:=numB_len (n:=s.names.length) om_;have e5:=numB_len (n:=s.parts.length) om_;unfold headB listB textB;simp only [List.length_append];have h5:((s.names.map fun s=>numB s.length++s).flatten).length≤33 * s.names.length:=h5;omega
theorem parts_le400 {s:Sh} (hs:s.size≤400):s.parts.length≤400:=by
  cases s;rw [Sh.size] at hs
  rename_i ps
  have:=len_sizeL ps;show ps.length≤400;omega
theorem kind_fits {s:Sh} (h:fitsS s=true) (hp:s.parts.length≤400):0≤s.kind∧s.kind≤10:=by
  have hg:=fits_goodB h hp;unfold goodB at hg;simp only [Bool.and_eq_true,decide_eq_true_eq] at hg;exact hg.1.1.1.1.1
mutual
theorem bytes_len:∀ s:Sh,s.size≤400→s.allB fitsS=true→s.bytes.length+33≤126 * s.size
  | .mk k o n ns ps,hs,hf=>by
    rw [Sh.allB,Bool.and_eq_true] at hf;have h1:=head_len hf.1 hs;rw [bytes_head,List.length_append];rw [Sh.size] at hs ⊢;have h2:=bytesL_len ps om_ hf.2;simp only [Sh.parts] at h1 ⊢;omega
theorem bytesL_len:∀ l:List Sh,sizeL l≤400→allL fitsS l=true→(bytesL l).length+33 * l.length≤126 * sizeL l
  | [],_,_=>by simp [bytesL,sizeL]
  | x :: l,hs,hf=>by
    rw [allL,Bool.and_eq_true] at hf;rw [sizeL] at hs;have h1:=bytes_len x om_ hf.1;have h2:=bytesL_len l om_ hf.2;rw [bytesL,sizeL,List.length_append,List.length_cons];omega
end
theorem bytesL_take {l:List Sh} {i:Nat} (h:i<l.length):bytesL (l.take (i+1))=bytesL (l.take i)++(l.getD i default).bytes:=by
  have key:∀ (a b:List Sh),bytesL (a++b)=bytesL a++bytesL b:=fun a b=>by
    induction a with
    | nil=>rfl
    | cons x a ih=>rw [List.cons_append,bytesL,bytesL,ih,List.append_assoc]
  rw [take_snoc (d:=default) h,key];simp [bytesL]
theorem bytesL_take_le (l:List Sh) (i:Nat):(bytesL (l.take i)).length≤(bytesL l).length:=by
  induction l generalizing i with
  | nil=>simp [bytesL]
  | cons x l ih=>
    cases i with
    | zero=>simp [bytesL]
    | succ i=>rw [List.take_succ_cons,bytesL,bytesL,List.length_append,List.length_append];have:=ih i;omega
theorem br_trans {b:Nat} {v0 v:Value} {w w1 w2:World} (h1:Gr (BR b v0) w w1) (ho:v.ownBlock=v0.ownBlock∨∀ k,some k=v.ownBlock→w.heap.size≤k) (h2:Gr (BR b v) w1 w2):Gr (BR b v0) w w2:=by
  refine ⟨h2.os.trans h1.os,h2.tape.trans h1.tape,h2.output.trans h1.output,Nat.le_trans h1.size h2.size,fun k hk hn=>?_⟩;rw [h2.block k (Nat.lt_of_lt_of_le hk h1.size) (fun e=>?_),h1.block k hk hn];rcases e with e | e
  · exact hn (.inl e)
  · rcases ho with ho | ho
    · exact hn (.inr (e.trans ho))
    · have:=ho k e;omega
theorem laid_ok:∀ (N:Nat) (s:Sh),SizeOf.sizeOf s<N→s.size≤400→s.allB fitsS=true→∀ (A:Nat→Prop) (cs:List Value) (w:World) (b:Nat) (v:Value) (l:Str),ShC A w cs s→(∀ k,b≤k→A k)→BuilderV w b v l→l.length+s.bytes.length≤100000000→
    Ret Tryz.prog 27 #[.pointer (some ⟨b,0,none⟩),.agg cs.toArray] w fun _ w'=>Wrote w b v (l++s.bytes) w':=by
  intro N;induction N with
  | zero=>intro s h;omega
  | succ N ih=>
    intro s hN hM hf A cs w b v l hs hA hD hl;have hblt:=hD.lt;have hown:=fun k (hk:some k=v.ownBlock)=>hD.own hk
    obtain ⟨vn,vp,rfl,hn,hp,hof,hnm⟩:=hs.inv;obtain ⟨pn,cn,rfl,-⟩:=id hn;obtain ⟨p,cap,row,rfl,p1,p2,p3,hr⟩:=hp;have hfB:fitsS s=true:=by rw [Sh.allB_eq,Bool.and_eq_true] at hf;exact hf.1
    have hfP:allL fitsS s.parts=true:=by rw [Sh.allB_eq,Bool.and_eq_true] at hf;exact hf.2
    have hfl:=fits_len hfB;have hpl:s.parts.length≤400:=parts_le400 hM;have hk:=kind_fits hfB hpl;rw [bytes_head,List.length_append] at hl;have hhl:=head_len hfB hM;have hnl:=fits_namesP hfB;have hlL:(listB s.names).length≤100000:=by
      have h5:=texts_bound hfl.2.2;have e4:=numB_len (n:=s.names.length) om_;unfold listB;rw [List.length_append];omega
    have hnum:∀ w,Ret Tryz.prog 25 #[.int .u64 s.kind] w fun v w'=>v=S (numB s.kind.toNat)∧Bel w w':=fun w=>by
      have:=number_ok s.kind.toNat om_ w
      rwa [show ((s.kind.toNat:Nat):Int)=s.kind by omega] at this
    have hG:=Gr.refl (BR b v) w;have t1:=numB_len (n:=s.kind.toNat) om_;have t2:(textB s.of).length≤33:=by unfold textB;rw [List.length_append];have:=numB_len (n:=s.of.length) om_;omega
    have t3:(textB s.name).length≤33:=by unfold textB;rw [List.length_append];have:=numB_len (n:=s.name.length) om_;omega
    have t4:=numB_len (n:=s.parts.length) om_;have hno3:¬ BR b v w.heap.size:=fun e=>by
      rcases e with e | e
      · omega
      · have:=hown _ e;omega
    have eH:numB s.kind.toNat++textB s.of++textB s.name++listB s.names++numB s.parts.length=headB s:=rfl;refine ret_of_W Tryz.func27 rfl (Nat.le_of_ble_eq_true rfl) (res0 rfl) ?_;refine W.seq (W.region (L.box (cs:=[.int .i64 s.kind,S s.of,S s.name,.slice pn s.names.length cn,.slice p s.parts.length cap]) rfl rfl (fun w3 bx3 hw hz3=>?_)));have hG:=hG.carry hw;have hD:=hD.carry hw;have hn:=hn.carry hw;have hr:=hr.carry hw;refine L.nil (thn_n (W.seq (W.drawD (BR b v) (fun _=>False) 23 kifc_mixed (fun wD6 hw=>?_))));have hG:=hG.carry hw;have hD:=hD.carry hw;have hn:=hn.carry hw;have hr:=hr.carry hw;have bx3:=bx3.carry hw;have hB0:=Gr.refl (fun _=>False) wD6;have hR0:=Gr.refl (BR b v) wD6;refine LAD.take0 (i:=0) rfl kr_ kr_ kr_ kr_ (fun w hw=>x_mv (v:=.pointer _) rfl) rfl ?_;refine LAD.take0 (i:=1) rfl kr_ kr_ kr_ kr_ (fun w hw=>x_fa kifc_fo41_0 rfl) rfl ?_;refine LAD.take0 (i:=2) rfl kr_ kr_ kr_ kr_ (fun w hw=>x_ld (v:=.int _ _) kifc_oc3 rfl (hw.keepR (hno3) (bx3.cell0 rfl))) rfl ?_;refine LAD.take0 (i:=3) rfl kr_ kr_ kr_ kr_ (fun w hw=>x_conv (k':=.u64) (by rw [Tryz.underlying3];rfl) Tryz.underlying59 rfl (wru64 om_)) rfl ?_;refine LAD.take0 (i:=5) rfl kr_ kr_ kr_ kr_ (fun w hw=>x_fa kifc_fo41_1 rfl) rfl ?_;refine LAD.take0 (i:=6) rfl kr_ kr_ kr_ kr_ (fun w hw=>x_ld (v:=S _) kifc_oc9 rfl (hw.keepR (hno3) (bx3.cell0 rfl))) rfl ?_;refine LAD.take0 (i:=9) rfl kr_ kr_ kr_ kr_ (fun w hw=>x_fa kifc_fo41_2 rfl) rfl ?_;refine LAD.take0 (i:=10) rfl kr_ kr_ kr_ kr_ (fun w hw=>x_ld (v:=S _) kifc_oc9 rfl (hw.keepR (hno3) (bx3.cell0 rfl))) rfl ?_;refine LAD.take0 (i:=13) rfl kr_ kr_ kr_ kr_ (fun w hw=>x_fa kifc_fo41_3 rfl) rfl ?_;refine LAD.take0 (i:=14) rfl kr_ kr_ kr_ kr_ (fun w hw=>x_ld (v:=.slice _ _ _) kifc_oc38 rfl (hw.keepR (hno3) (bx3.cell0 rfl))) rfl ?_;refine LAD.take0 (i:=17) rfl kr_ kr_ kr_ kr_ (fun w hw=>x_fa kifc_fo41_4 rfl) rfl ?_;refine LAD.take0 (i:=18) rfl kr_ kr_ kr_ kr_ (fun w hw=>x_ld (v:=.slice _ _ _) kifc_oc39 rfl (hw.keepR (hno3) (bx3.cell0 rfl))) rfl ?_;refine LAD.take0 (i:=19) rfl kr_ kr_ kr_ kr_ (fun w hw=>x_len_slice Tryz.underlying39 rfl) rfl ?_;refine LAD.take0 (i:=20) rfl kr_ kr_ kr_ kr_ (fun w hw=>x_conv (k':=.u64) (by rw [Tryz.underlying3];rfl) Tryz.underlying59 rfl (wru64 om_)) rfl ?_;refine LAD.step (rs:=[4]) hR0 (fun _=>hB0) kr_ (by simp) ⟨⟨_,rfl,?_⟩,trivial⟩;refine L.ret (x_call kifc_en25 rfl) rfl (hnum _) ?_;rintro _ w10 ⟨rfl,hw⟩;have hB0:=hB0.carry hw;have hR0:=hR0.carry hw;have hD:=hD.carry hw;refine L.nil (thn_n (LAD.step (rs:=[7]) hR0 (fun _=>hB0) kr_ (by simp) ⟨⟨_,rfl,?_⟩,trivial⟩));refine L.ret (x_call kifc_en26 rfl) rfl (text_ok _ om_ _) ?_;rintro _ w13 ⟨rfl,hw⟩;have hB0:=hB0.carry hw;have hR0:=hR0.carry hw;have hD:=hD.carry hw;refine L.nil (thn_n ?_);refine LAD.take0 (i:=8) rfl kr_ kr_ kr_ kr_ (fun w hw=>x_cat rfl rfl (by first | omega | (simp only [List.length_append,List.length_cons,List.length_nil];omega))) rfl ?_;refine LAD.step (rs:=[11]) hR0 (fun _=>hB0) kr_ (by simp) ⟨⟨_,rfl,?_⟩,trivial⟩;refine L.ret (x_call kifc_en26 rfl) rfl (text_ok _ om_ _) ?_;rintro _ w17 ⟨rfl,hw⟩;have hB0:=hB0.carry hw;have hR0:=hR0.carry hw;have hD:=hD.carry hw;refine L.nil (thn_n ?_);refine LAD.take0 (i:=12) rfl kr_ kr_ kr_ kr_ (fun w hw=>x_cat rfl rfl (by first | omega | (simp only [List.length_append,List.length_cons,List.length_nil];omega))) rfl ?_;refine LAD.step (rs:=[15]) hR0 (fun _=>hB0) kr_ (by simp) ⟨⟨_,rfl,?_⟩,trivial⟩;refine L.ret (x_call kifc_en50 rfl) rfl (list_ok A _ _ _ (hn.carry hB0) om_) ?_;rintro _ w21 ⟨rfl,hw⟩;have hB0:=hB0.carry hw;have hR0:=hR0.carry hw;have hD:=hD.carry hw;refine L.nil (thn_n ?_);refine LAD.take0 (i:=16) rfl kr_ kr_ kr_ kr_ (fun w hw=>x_cat rfl rfl (by first | omega | (simp only [List.length_append,List.length_cons,List.length_nil];omega))) rfl ?_;refine LAD.step (rs:=[21]) hR0 (fun _=>hB0) kr_ (by simp) ⟨⟨_,rfl,?_⟩,trivial⟩;refine L.ret (x_call kifc_en25 rfl) rfl (number_ok s.parts.length om_ _) ?_;rintro _ w27 ⟨rfl,hw⟩;have hB0:=hB0.carry hw;have hR0:=hR0.carry hw;have hD:=hD.carry hw;refine L.nil (thn_n ?_);refine LAD.take0 (i:=22) rfl kr_ kr_ kr_ kr_ (fun w hw=>x_cat rfl rfl (by first | omega | (simp only [List.length_append,List.length_cons,List.length_nil];omega))) rfl ?_;refine LAD.step (rs:=[23]) hR0 (fun _=>hB0) kr_ (by simp) ⟨⟨_,rfl,?_⟩,trivial⟩;refine L.ret (x_call kifc_en24 rfl) rfl (wstr_v b v l (headB s) _ hD om_) ?_;rintro _ w29 ⟨v2,hD,hG2,ho2⟩;have hs29:=(hG.carry hB0).size;have hR0:=hR0.trans hG2;have ho2:v2.ownBlock=v.ownBlock∨∀ k,some k=v2.ownBlock→w.heap.size<k:=ho2.imp id (fun h k hk=>by have:=h k hk;have:=bx3.lt;have:=hB0.size;omega);refine L.nil (thn_n (LAD.done kr_ kr_ hR0 ?_));have hG:=hG.trans hR0;have hn:=hn.carryR hR0 (fun k e=>hA k (by rcases e with e | e;omega;have:=hown k e;omega));have hr:=hr.carryR hR0 (fun k e=>hA k (by rcases e with e | e;omega;have:=hown k e;omega));have bx3:=bx3.carryR hR0 hno3;refine thn_n (W.seq (W.region (L.val (x_fa kifc_fo41_4 rfl) rfl ?_)));refine L.val (x_ld (v:=.slice _ _ _) kifc_oc39 rfl (bx3.cell0 rfl)) rfl ?_;refine L.val (x_len_slice Tryz.underlying39 rfl) rfl ?_;refine L.val (x_mv (v:=.int _ _) rfl) rfl ?_;refine L.nil (thn_n (W.block (W.loop (fun m' E w'=>∃ (i:Nat) (v2:Value),m'=s.parts.length - i∧E 0=.pointer (some ⟨b,0,none⟩)∧E 31=.slice p s.parts.length cap∧E 32=.int .i64 (s.parts.length:Nat)∧E 33=.int .i64 (i:Nat)∧(i≤s.parts.length)∧(Gr (BR b v) w w')∧(BuilderV w' b v2 (l++headB s++bytesL (s.parts.take i)))∧(v2.ownBlock=v.ownBlock∨∀ k,some k=v2.ownBlock→w.heap.size<k)∧(ShRow A w' p row s.parts)) (s.parts.length) ?_ ?_)))
    ·exact ⟨0,_,by omega,by first | rfl | exact vi om_ | exact vs (by first | assumption | (rw [hst];done) | (rw [hst];simp only [List.append_assoc])),by first | rfl | exact vi om_ | exact vs (by first | assumption | (rw [hst];done) | (rw [hst];simp only [List.append_assoc])),by first | rfl | exact vi om_ | exact vs (by first | assumption | (rw [hst];done) | (rw [hst];simp only [List.append_assoc])),by first | rfl | exact vi om_ | exact vs (by first | assumption | (rw [hst];done) | (rw [hst];simp only [List.append_assoc])),ao_,ao_,(by rw [List.take_zero,bytesL,List.append_nil];exact hD),ao_,ao_⟩
    ·rintro _ E wL34 ⟨i,v2,em,e0,e31,e32,e33,hi,hG,hD,ho2,hr⟩;rw [upd_self e0,upd_self e31,upd_self e32,upd_self e33];refine W.seq (W.region (L.val (x_lss rfl rfl) rfl ?_));refine L.nil (thn_n (W.seq (W.cond (b:=_) rfl (fun g34=>?_) (fun g34=>?_))))
     ·have h34:=of_decide_eq_true g34;have hlt:i<s.parts.length:=by omega
      obtain ⟨pb,po,rfl,-⟩:=hr.elem hlt;have hst:=bytesL_take hlt;have hle:=bytesL_take_le s.parts (i+1);rw [hst,List.length_append] at hle;have hown2:=fun k (hk:some k=v2.ownBlock)=>hD.own hk
      have hbl2:=hD.lt;have hsG:=hG.size;refine W.skip (thn_n (W.seq (W.block (W.seq (W.region (L.val (x_ia (j:=i) Tryz.underlying39 kifc_sz41 rfl rfl om_ om_) rfl ?_))))));refine L.val (x_ldn (vs:=row i) kifc_ag41 rfl (hr.five i hlt) (hr.elemAt hlt)) rfl ?_;refine L.alloc (cs:=[Value.int .i64 0,S [],S [],Value.slice none 0 0,Value.slice none 0 0]) kifc_zr41 rfl rfl (fun w5 bx5 hw hz5=>?_);have hG:=hG.carry hw;have hD:=hD.carry hw;have hr:=hr.carry hw;refine L.setRow kifc_ag41 rfl rfl bx5 rfl (hr.five i hlt) (ShC.one (hr.each i hlt)) (fun wl34 bx5 hw hzl34=>?_);have hG:=hG.set hw om_;have hD:=hD.carryR hw (fun k e e2=>by have e2:k=_:=e2;rcases e with e | e;omega;have:=hown2 k e;omega);have hr:=hr.carryR hw (fun k e=>hA k (by have e:k=_:=e;omega));refine L.nil (thn_n (W.region (L.val (x_mv (v:=.pointer _) rfl) rfl ?_)));refine L.val (x_ldn (vs:=row i) kifc_ag41 rfl (hr.five i hlt) (bx5.row (hr.five i hlt))) rfl ?_;refine L.ret (x_call kifc_en27 rfl) rfl (ih (s.parts.getD i default) (by have:=Sh.part_lt hlt;omega) (by have:=Sh.part_size hlt;omega) (allL_getD hfP hlt) A (row i) _ b v2 (l++headB s++bytesL (s.parts.take i)) (hr.each i hlt) hA hD (by simp only [List.length_append];omega)) ?_;rintro _ w39 ⟨v3,hD3,hG3,ho3⟩;have hr:=hr.carryR hG3 (fun k e=>hA k (by rcases e with e | e;omega;have:=hown2 k e;omega));have hG:=br_trans hG (ho2.imp id (fun h k hk=>by have:=h k hk;omega)) hG3;rw [List.append_assoc,← hst] at hD3;have ho3:v3.ownBlock=v.ownBlock∨∀ k,some k=v3.ownBlock→w.heap.size<k:=by
        rcases ho3 with h | h
        · rw [h];exact ho2
        · exact .inr fun k hk=>by have:=h k hk;have:=bx5.lt;omega
      refine L.nil (blk_n (thn_n (W.region (L.val (x_add rfl rfl (wr64 om_)) rfl ?_))));refine L.val (x_mv (v:=.int _ _) rfl) rfl ?_;refine L.nil (thn_n ⟨rfl,?_⟩);refine ⟨_,?_,i+1,_,rfl,by first | rfl | exact vi om_ | exact vs (by first | assumption | (rw [hst];done) | (rw [hst];simp only [List.append_assoc])),by first | rfl | exact vi om_ | exact vs (by first | assumption | (rw [hst];done) | (rw [hst];simp only [List.append_assoc])),by first | rfl | exact vi om_ | exact vs (by first | assumption | (rw [hst];done) | (rw [hst];simp only [List.append_assoc])),by first | rfl | exact vi om_ | exact vs (by first | assumption | (rw [hst];done) | (rw [hst];simp only [List.append_assoc])),ao_,ao_,(by exact hD3),(by exact ho3),ao_⟩;omega
     ·have h34:=dlt_f g34;have hie:i=s.parts.length:=by omega
      subst hie;rw [List.take_length,List.append_assoc,← bytes_head] at hD;refine W.exit (thn_x (thn_x (blk_hit ?_)));refine fin_mk (.inl rfl) ?_;exact ⟨v2,hD,hG,ho2.imp id (fun h k hk=>Nat.le_of_lt (h k hk))⟩
end Go.Gx
namespace Go.Gx
open Go.Proofs
theorem kifd_ag41:aggT Tryz.prog 41 5=true:=by kernel_rfl
theorem kifd_ag43:aggT Tryz.prog 43 7=true:=by kernel_rfl
theorem kifd_en13:Go.Proofs.Enters Tryz.prog 13:=Go.Proofs.enters_of Tryz.func13 kr_ rfl
theorem kifd_en24:Go.Proofs.Enters Tryz.prog 24:=Go.Proofs.enters_of Tryz.func24 kr_ rfl
theorem kifd_en25:Go.Proofs.Enters Tryz.prog 25:=Go.Proofs.enters_of Tryz.func25 kr_ rfl
theorem kifd_en26:Go.Proofs.Enters Tryz.prog 26:=Go.Proofs.enters_of Tryz.func26 kr_ rfl
theorem kifd_en27:Go.Proofs.Enters Tryz.prog 27:=Go.Proofs.enters_of Tryz.func27 kr_ rfl
theorem kifd_en28:Go.Proofs.Enters Tryz.prog 28:=Go.Proofs.enters_of Tryz.func28 kr_ rfl
theorem kifd_fo43_0:fieldOff Tryz.prog 43 0=some 0:=by kernel_rfl
theorem kifd_fo43_1:fieldOff Tryz.prog 43 1=some 1:=by kernel_rfl
theorem kifd_fo43_2:fieldOff Tryz.prog 43 2=some 2:=by kernel_rfl
theorem kifd_mixed:Tryz.prog.follows .mixedOrders=true:=by kernel_rfl
theorem kifd_oc3:oneCellT Tryz.prog 3=true:=by kernel_rfl
theorem kifd_oc9:oneCellT Tryz.prog 9=true:=by kernel_rfl
theorem kifd_sz43:(Tryz.prog.info? 43).map (·.size)=some 7:=by kernel_rfl
theorem kifd_zr43:(Tryz.prog.info? 43).bind (·.zero)=some (Value.agg [Value.int .i64 0,S [],Value.int .i64 0,S [],S [],Value.slice none 0 0,Value.slice none 0 0].toArray):=by kernel_rfl
theorem kifd_zr53:(Tryz.prog.info? 53).bind (·.zero)=some (Value.agg [Value.pointer none,Value.slice none 0 0].toArray):=by kernel_rfl
theorem item_fits {x:It} (h:itemOk x=true) (hk:x.kind≠2):x.sh.size≤400∧x.sh.allB fitsS=true∧checkS x.sh=0∧x.sh.sort=x.sh∧closedS x.sh=true:=by
  unfold itemOk at h;rw [if_neg hk] at h;split at h
  · rw [Bool.and_eq_true] at h;have h0:=h.1;have h1:=h.1;unfold closedS at h1;rw [Bool.and_eq_true] at h1;have hc:=of_decide_eq_true h1.1;have h2:=eqS_iff.1 h.2;unfold sortS at h2;rw [if_pos hc] at h2;have hz:=check_zero hc;exact ⟨hz.1,hz.2.2,hc,h2,h0⟩
  · cases h
theorem itB_len {x:It} (h:itemOk x=true):(itB x).length≤80000:=by
  obtain ⟨p1,p2,p3,-,-⟩:=item_props h;have e1:=numB_len (n:=x.kind.toNat) om_;have e2:=numB_len (n:=x.name.length) om_;unfold itB textB;simp only [List.length_append];split
  · simp only [List.length_nil];omega
  · rename_i hk
    obtain ⟨h1,h2,-⟩:=item_fits h hk;have:=bytes_len x.sh h1 h2;omega
theorem its_take {l:List It} {i:Nat} (h:i<l.length):((l.take (i+1)).map itB).flatten=((l.take i).map itB).flatten++itB (l.getD i default):=by
  rw [take_snoc (d:=default) h,List.map_append,List.flatten_append];simp
theorem its_len {l:List It} (h:∀ x∈l,itemOk x=true):((l.map itB).flatten).length≤80000 * l.length:=by
  induction l with
  | nil=>simp
  | cons x l ih=>
    have h1:=itB_len (h x (by simp));have h2:=ih (fun y hy=>h y (List.mem_cons_of_mem _ hy));simp only [List.map_cons,List.flatten_cons,List.length_append,List.length_cons];omega
theorem its_take_le {l:List It} (h:∀ x∈l,itemOk x=true) (hl:l.length≤60) (i:Nat):(((l.take i).map itB).flatten).length≤4800000:=by
  have h1:=its_len (l:=l.take i) (fun x hx=>h x (List.mem_of_mem_take hx));rw [List.length_take] at h1;have:min i l.length≤60:=by omega
  omega
theorem mem_getD {l:List It} {i:Nat} (h:i<l.length):l.getD i default∈l:=by
  rw [List.getD_eq_getElem?_getD,List.getElem?_eq_getElem h];exact List.getElem_mem h
theorem encP_ok (A0:Nat→Prop) (v:Value) (l:List It) (w:World) (h0:ItsAt A0 w v l):
    Ret Tryz.prog 11 #[v] w fun r w'=>r=.tuple #[S (encI l).1,.int .i64 (encI l).2]∧Bel w w':=by
  obtain ⟨A,h,hU⟩:∃ A:Nat→Prop,ItsAt A w v l∧(∀ k,w.heap.size≤k→A k):=⟨_,RecsAt.up h0,fun _=>.inr⟩;obtain ⟨p,cap,row,rfl,p1,p2,p3,hr⟩:=id h;refine ret_of_W Tryz.func11 rfl (Nat.le_of_ble_eq_true rfl) (res2 rfl) ?_;have hB:=Gr.refl (fun _=>False) w;refine W.seq (W.region (L.val (x_as (v:=S _) rfl) rfl ?_));refine L.val (x_as (v:=.int _ _) rfl) rfl ?_;refine L.nil (thn_n (W.seq (W.seq (W.region (L.val (x_mv (v:=.slice _ _ _) rfl) rfl ?_)))));refine L.ret (x_call kifd_en13 rfl) rfl (checkP_ok A _ l _ h) ?_;rintro _ w9 ⟨rfl,hw⟩;have hB:=hB.carry hw;have hr:=hr.carry hw;refine L.val (x_as (v:=.int _ _) rfl) rfl ?_;refine L.nil (thn_n (W.seq (W.region (L.val (x_mv (v:=.int _ _) rfl) rfl ?_))));refine L.val (x_neq rfl rfl) rfl ?_;refine L.nil (thn_n (W.cond (b:=_) rfl (fun g11=>?_) (fun g11=>?_)))
  ·have h11:=dne_t g11;have hck:¬ checkI l=true:=fun e=>h11 (if_pos e)
   refine W.seq (W.region (L.val (x_mv (v:=.int _ _) rfl) rfl ?_));refine L.val (x_as (v:=S _) rfl) rfl ?_;refine L.val (x_as (v:=.int _ _) rfl) rfl ?_;refine L.nil (thn_n (W.ret (thn_r (fin_mk (.inr rfl) ?_))));unfold encI;rw [if_neg hck];exact ⟨by rw [if_neg hck];rfl,hB⟩
  ·have h11:=dne_f g11;have hck:checkI l=true:=Classical.byContradiction fun e=>by rw [if_neg e] at h11;exact absurd h11 (by decide)
   obtain ⟨h60,hit⟩:=check_items hck;have hs9:=hB.size;refine W.skip (thn_n (W.seq (W.region (L.alloc (cs:=[Value.pointer none,Value.slice none 0 0]) kifd_zr53 rfl rfl (fun w5 bx5 hw hz5=>?_)))));have hB:=hB.carry hw;have hr:=hr.carry hw;obtain ⟨b,hb⟩:∃ b,b=w9.heap.size:=⟨_,rfl⟩;rw [← hb] at bx5 ⊢;have hD:=builderV_new bx5;have hwb:w.heap.size≤b:=by omega
   refine L.nil (thn_n (W.seq (W.region (L.val (x_mv (v:=.slice _ _ _) rfl) rfl ?_))));refine L.val (x_len_slice Tryz.underlying22 rfl) rfl ?_;refine L.val (x_conv (k':=.u64) (by rw [Tryz.underlying3];rfl) Tryz.underlying59 rfl (wru64 om_)) rfl ?_;refine L.ret (x_call kifd_en25 rfl) rfl (number_ok l.length om_ _) ?_;rintro _ w16 ⟨rfl,hw⟩;have hB:=hB.carry hw;have hr:=hr.carry hw;have hD:=hD.carry hw;refine L.ret (x_call kifd_en24 rfl) rfl (wstr_v b _ [] _ _ hD (by have:=numB_len (n:=l.length) om_;simp only [List.length_nil];omega)) ?_;rintro _ w17 ⟨v2,hD2,hG2,ho2⟩;have hG2:Gr (fun k=>b≤k) _ _:=hG2.mono fun k _ e=>by
     rcases e with e | e
     · omega
     · have:=hD.own e;omega
   have hB:=hB.step hG2 (fun i hi e=>by omega);have hr:=hr.carryR hG2 (fun k e=>hU k om_);have hD:BuilderV w17 b v2 (numB l.length):=hD2;refine L.nil (thn_n (W.seq (W.seq (W.region (L.val (x_mv (v:=.slice _ _ _) rfl) rfl ?_)))));refine L.val (x_len_slice Tryz.underlying22 rfl) rfl ?_;refine L.val (x_mv (v:=.int _ _) rfl) rfl ?_;refine L.nil (thn_n (W.block (W.loop (fun m' E w'=>∃ (i:Nat) (v2:Value),m'=l.length - i∧E 5=.pointer (some ⟨b,0,none⟩)∧E 18=.slice p l.length cap∧E 19=.int .i64 (l.length:Nat)∧E 20=.int .i64 (i:Nat)∧(i≤l.length)∧(Bel w w')∧(BuilderV w' b v2 (numB l.length++((l.take i).map itB).flatten))∧(RecRow ItC 7 A w' p row l)) (l.length) ?_ ?_)))
   ·exact ⟨0,_,by omega,by first | rfl | exact vi om_ | exact vs (by first | assumption | (rw [hst];done) | (rw [hst];simp only [List.append_assoc])),by first | rfl | exact vi om_ | exact vs (by first | assumption | (rw [hst];done) | (rw [hst];simp only [List.append_assoc])),by first | rfl | exact vi om_ | exact vs (by first | assumption | (rw [hst];done) | (rw [hst];simp only [List.append_assoc])),by first | rfl | exact vi om_ | exact vs (by first | assumption | (rw [hst];done) | (rw [hst];simp only [List.append_assoc])),ao_,ao_,(by rw [List.take_zero,List.map_nil,List.flatten_nil,List.append_nil];exact hD),ao_⟩
   ·rintro _ E wL21 ⟨i,v2,em,e5,e18,e19,e20,hi,hB,hD,hr⟩;rw [upd_self e5,upd_self e18,upd_self e19,upd_self e20];refine W.seq (W.region (L.val (x_lss rfl rfl) rfl ?_));refine L.nil (thn_n (W.seq (W.cond (b:=_) rfl (fun g21=>?_) (fun g21=>?_))))
    ·have h21:=of_decide_eq_true g21;have hlt:i<l.length:=by omega
     obtain ⟨pb,po,rfl,-⟩:=hr.elem hlt;have hst:=its_take hlt;have hle:=its_take_le hit h60 i;have hx:=hit _ (mem_getD hlt);obtain ⟨q1,q2,q3,-,-⟩:=item_props hx;have hbl:=itB_len hx;have hnb:=numB_len (n:=l.length) om_;have hkb:=numB_len (n:=(l.getD i default).kind.toNat) om_;have htb:(textB (l.getD i default).name).length≤20009:=by unfold textB;rw [List.length_append];have:=numB_len (n:=(l.getD i default).name.length) om_;omega
     have hown2:=fun k (hk:some k=v2.ownBlock)=>hD.own hk
     have hbl2:=hD.lt;have hsB:=hB.size;obtain ⟨rs,e1,hs,hn⟩:=hr.each i hlt;have hrs:=hs.len;have hek:(((l.getD i default).kind.toNat:Nat):Int)=(l.getD i default).kind:=by omega
     have hnum:∀ w,Ret Tryz.prog 25 #[.int .u64 (l.getD i default).kind] w fun v w'=>v=S (numB (l.getD i default).kind.toNat)∧Bel w w':=fun w=>by
       have:=number_ok (l.getD i default).kind.toNat om_ w
       rwa [hek] at this
     have hno7:¬ BR b v2 wL21.heap.size:=fun e=>by
       rcases e with e | e
       · omega
       · have:=hown2 _ e;omega
     have hR:∀ k,BR b v2 k→b≤k:=fun k e=>by
       rcases e with e | e
       · omega
       · have:=hown2 k e;omega
     refine W.skip (thn_n (W.seq (W.block (W.seq (W.region (L.val (x_ia (j:=i) Tryz.underlying22 kifd_sz43 rfl rfl om_ om_) rfl ?_))))));refine L.val (x_ldn (vs:=row i) kifd_ag43 rfl (hr.len i hlt) (hr.elemAt hlt)) rfl ?_;refine L.alloc (cs:=[Value.int .i64 0,S [],Value.int .i64 0,S [],S [],Value.slice none 0 0,Value.slice none 0 0]) kifd_zr43 rfl rfl (fun w7 bx7 hw hz7=>?_);have hB:=hB.carry hw;have hD:=hD.carry hw;have hr:=hr.carry hw;have hs:=hs.carry hw;refine L.setRow kifd_ag43 rfl rfl bx7 rfl (hr.len i hlt) (Car.one (hr.each i hlt)) (fun wl24 bx7 hw hzl24=>?_);have hsz:=hB.size;have hB:=hB.set hw om_;have hD:=hD.carryR hw (fun k e e2=>by have e2:k=_:=e2;rw [e2] at e;exact hno7 e);have hr:=hr.carryR hw (fun k e=>hU k (by have e:k=_:=e;omega));have hs:=hs.carryR hw (fun k e=>hU k (by have e:k=_:=e;omega));rw [e1] at bx7;refine L.nil (thn_n (W.seq (W.drawD (BR b v2) (fun _=>False) 8 kifd_mixed (fun wD24 hw=>?_))));have hB:=hB.carry hw;have hD:=hD.carry hw;have hr:=hr.carry hw;have hs:=hs.carry hw;have bx7:=bx7.carry hw;have hB0:=Gr.refl (fun _=>False) wD24;have hR0:=Gr.refl (BR b v2) wD24;refine LAD.take0 (i:=0) rfl kr_ kr_ kr_ kr_ (fun w hw=>x_fa kifd_fo43_0 rfl) rfl ?_;refine LAD.take0 (i:=1) rfl kr_ kr_ kr_ kr_ (fun w hw=>x_ld (v:=.int _ _) kifd_oc3 rfl (hw.keepR (hno7) (bx7.cell0 rfl))) rfl ?_;refine LAD.take0 (i:=2) rfl kr_ kr_ kr_ kr_ (fun w hw=>x_conv (k':=.u64) (by rw [Tryz.underlying3];rfl) Tryz.underlying59 rfl (wru64 om_)) rfl ?_;refine LAD.take0 (i:=4) rfl kr_ kr_ kr_ kr_ (fun w hw=>x_fa kifd_fo43_1 rfl) rfl ?_;refine LAD.take0 (i:=5) rfl kr_ kr_ kr_ kr_ (fun w hw=>x_ld (v:=S _) kifd_oc9 rfl (hw.keepR (hno7) (bx7.cell0 rfl))) rfl ?_;refine LAD.step (rs:=[3]) hR0 (fun _=>hB0) kr_ (by simp) ⟨⟨_,rfl,?_⟩,trivial⟩;refine L.ret (x_call kifd_en25 rfl) rfl (hnum _) ?_;rintro _ w27 ⟨rfl,hw⟩;have hB0:=hB0.carry hw;have hR0:=hR0.carry hw;have hD:=hD.carry hw;refine L.nil (thn_n (LAD.step (rs:=[6]) hR0 (fun _=>hB0) kr_ (by simp) ⟨⟨_,rfl,?_⟩,trivial⟩));refine L.ret (x_call kifd_en26 rfl) rfl (text_ok _ om_ _) ?_;rintro _ w30 ⟨rfl,hw⟩;have hB0:=hB0.carry hw;have hR0:=hR0.carry hw;have hD:=hD.carry hw;refine L.nil (thn_n ?_);refine LAD.take0 (i:=7) rfl kr_ kr_ kr_ kr_ (fun w hw=>x_cat rfl rfl (by first | omega | (simp only [List.length_append,List.length_cons,List.length_nil];omega))) rfl ?_;refine LAD.step (rs:=[8]) hR0 (fun _=>hB0) kr_ (by simp) ⟨⟨_,rfl,?_⟩,trivial⟩;refine L.ret (x_call kifd_en24 rfl) rfl (wstr_v b v2 _ (numB (l.getD i default).kind.toNat++textB (l.getD i default).name) _ hD (by simp only [List.length_append];omega)) ?_;rintro _ w32 ⟨v3,hD3,hG3,ho3⟩;have hR0:=hR0.trans hG3;refine L.nil (thn_n (LAD.done kr_ kr_ hR0 ?_));have hB:=hB.step hR0 (fun k hk e=>by have:=hR k e;omega);have hr:=hr.carryR hR0 (fun k e=>hU k (by have:=hR k e;omega));have hs:=hs.carryR hR0 (fun k e=>hU k (by have:=hR k e;omega));have bx7:=bx7.carryR hR0 hno7;refine thn_n (W.seq (W.region (L.val (x_fa kifd_fo43_0 rfl) rfl ?_)));refine L.val (x_ld (v:=.int _ _) kifd_oc3 rfl (bx7.cell0 rfl)) rfl ?_;refine L.val (x_neq rfl rfl) rfl ?_;refine L.nil (thn_n (W.cond (b:=_) rfl (fun g35=>?_) (fun g35=>?_)))
     ·have h35:=dne_t g35;have hk2:(l.getD i default).kind≠2:=h35;obtain ⟨f1,f2,-⟩:=item_fits hx hk2;have hbsh:=bytes_len _ f1 f2;refine W.region (L.val (x_fa kifd_fo43_2 rfl) rfl ?_);refine L.val (x_ldn (vs:=rs) kifd_ag41 rfl hrs (bx7.rowD 2 hrs)) rfl ?_;refine L.ret (x_call kifd_en27 rfl) rfl (laid_ok _ (l.getD i default).sh (Nat.lt_succ_self _) f1 f2 A rs _ b v3 _ hs (fun k hk=>hU k om_) hD3 (by simp only [List.length_append];omega)) ?_;rintro _ w38 ⟨v4,hD4,hG4,ho4⟩;have hR4:∀ k,BR b v3 k→b≤k:=fun k e=>by
        rcases e with e | e
        · omega
        · have:=hD3.own e;omega
      have hB:=hB.step hG4 (fun k hk e=>by have:=hR4 k e;omega);have hr:=hr.carryR hG4 (fun k e=>hU k (by have:=hR4 k e;omega));have hD9:=hD4;rw [show numB l.length++((l.take i).map itB).flatten++(numB (l.getD i default).kind.toNat++textB (l.getD i default).name)++(l.getD i default).sh.bytes=numB l.length++((l.take (i+1)).map itB).flatten by rw [hst];unfold itB;rw [if_neg hk2];simp only [List.append_assoc]] at hD9;refine L.nil (blk_n (thn_n (W.region (L.val (x_add rfl rfl (wr64 om_)) rfl ?_))));refine L.val (x_mv (v:=.int _ _) rfl) rfl ?_;refine L.nil (thn_n ⟨rfl,?_⟩);refine ⟨_,?_,i+1,_,rfl,by first | rfl | exact vi om_ | exact vs (by first | assumption | (rw [hst];done) | (rw [hst];simp only [List.append_assoc])),by first | rfl | exact vi om_ | exact vs (by first | assumption | (rw [hst];done) | (rw [hst];simp only [List.append_assoc])),by first | rfl | exact vi om_ | exact vs (by first | assumption | (rw [hst];done) | (rw [hst];simp only [List.append_assoc])),by first | rfl | exact vi om_ | exact vs (by first | assumption | (rw [hst];done) | (rw [hst];simp only [List.append_assoc])),ao_,ao_,(by exact hD9),ao_⟩;omega
     ·have h35:=dne_f g35;have hk2:(l.getD i default).kind=2:=h35;have hD9:=hD3;rw [show numB l.length++((l.take i).map itB).flatten++(numB (l.getD i default).kind.toNat++textB (l.getD i default).name)=numB l.length++((l.take (i+1)).map itB).flatten by rw [hst];unfold itB;rw [if_pos hk2,List.append_nil,List.append_assoc]] at hD9;refine W.skip (blk_n (thn_n (W.region (L.val (x_add rfl rfl (wr64 om_)) rfl ?_))));refine L.val (x_mv (v:=.int _ _) rfl) rfl ?_;refine L.nil (thn_n ⟨rfl,?_⟩);refine ⟨_,?_,i+1,_,rfl,by first | rfl | exact vi om_ | exact vs (by first | assumption | (rw [hst];done) | (rw [hst];simp only [List.append_assoc])),by first | rfl | exact vi om_ | exact vs (by first | assumption | (rw [hst];done) | (rw [hst];simp only [List.append_assoc])),by first | rfl | exact vi om_ | exact vs (by first | assumption | (rw [hst];done) | (rw [hst];simp only [List.append_assoc])),by first | rfl | exact vi om_ | exact vs (by first | assumption | (rw [hst];done) | (rw [hst];simp only [List.append_assoc])),ao_,ao_,(by exact hD9),ao_⟩;omega
    ·have h21:=dlt_f g21;have hie:i=l.length:=by omega
     subst hie;rw [List.take_length] at hD;refine W.exit (thn_x (thn_x (blk_hit ?_)));refine thn_n (W.seq (W.region (L.ret (x_call kifd_en28 rfl) rfl (bstr_ok _ _ _ hD.is) ?_)));rintro _ w40 ⟨rfl,hG40⟩;refine L.val (x_as (v:=S _) rfl) rfl ?_;refine L.val (x_as (v:=.int _ _) rfl) rfl ?_;refine L.nil (thn_n (W.ret (fin_mk (.inr rfl) ?_)));unfold encI;rw [if_pos hck];exact ⟨rfl,hB.step hG40 (fun i hi e=>by omega)⟩
end Go.Gx
