/- The program's taker: a part of a type. Conditions: none. -/
import Derived.Test.YtcncoaabbedhfaaGreatCcIfL
import Derived.Test.YtcncoaabbedhfaaGreatCcDrawD
namespace Go.Gx
open Go.Proofs
theorem kifn_ag41:aggT Tryz.prog 41 5=true:=by kernel_rfl
theorem kifn_el41:elT Tryz.prog 41 5=true:=by kernel_rfl
theorem kifn_en36:Go.Proofs.Enters Tryz.prog 36:=Go.Proofs.enters_of Tryz.func36 kr_ rfl
theorem kifn_fo41_4:fieldOff Tryz.prog 41 4=some 4:=by kernel_rfl
theorem kifn_mixed:Tryz.prog.follows .mixedOrders=true:=by kernel_rfl
theorem kifn_oc3:oneCellT Tryz.prog 3=true:=by kernel_rfl
theorem kifn_oc39:oneCellT Tryz.prog 39=true:=by kernel_rfl
theorem kifn_oc65:oneCellT Tryz.prog 65=true:=by kernel_rfl
theorem kifn_sz39:(Tryz.prog.info? 39).map (·.size)=some 1:=by kernel_rfl
theorem kifn_sz41:(Tryz.prog.info? 41).map (·.size)=some 5:=by kernel_rfl
theorem Gr.stepN {R S:Nat→Prop} {a b c:World} (h:Gr R a b) (g:Gr S b c) (hk:∀ k,k<a.heap.size→S k→R k):Gr R a c:=
  ⟨g.os.trans h.os,g.tape.trans h.tape,g.output.trans h.output,Nat.le_trans h.size g.size,fun k hlt hn=>by rw [g.block k (Nat.lt_of_lt_of_le hlt h.size) (fun e=>hn (hk k hlt e)),h.block k hlt hn]⟩
def Tk.ok (s:Str) (t:Tk):Prop:=t.pos≤s.length∧t.parts≤401∧(t.bad=false→t.parts≤400)
theorem tkNum_okT {s:Str} {m:Nat} {t:Tk} (h:t.ok s):(tkNum s m t).2.ok s:=by
  obtain ⟨h1,h2,h3,h4⟩:=tkNum_pos (m:=m) h.1;refine ⟨h1,by rw [h2];exact h.2.1,fun e=>?_⟩;rw [h2];refine h.2.2 ?_;cases hb:t.bad
  · rfl
  · rw [h4 hb] at e;cases e
theorem tkText_okT {s:Str} {t:Tk} (h:t.ok s):(tkText s t).2.ok s:=by
  obtain ⟨h1,h2,h3,h4⟩:=tkText_pos h.1;refine ⟨h1,by rw [h2];exact h.2.1,fun e=>?_⟩;rw [h2];refine h.2.2 ?_;cases hb:t.bad
  · rfl
  · rw [h4 hb] at e;cases e
theorem tkNames_okT {s:Str}:∀ (n:Nat) (t:Tk),t.ok s→(tkNames s n t).2.ok s
  | 0,_,h=>h
  | n+1,t,h=>by
    rw [tkNames];split
    · exact h
    · exact tkNames_okT n _ (tkText_okT h)
theorem tkHead_okT {s:Str} {t:Tk} (h:t.ok s):(tkHead s t).2.ok s:=by
  unfold tkHead;exact tkNum_okT (tkNames_okT _ _ (tkNum_okT (tkText_okT (tkText_okT (tkNum_okT h)))))
theorem tkIn_okT {s:Str} {L:Nat} {t:Tk} (h:t.ok s) (hp:t.parts≤400):(tkIn L t).ok s:=by
  refine ⟨h.1,by show t.parts+1≤401;omega,fun e=>?_⟩;have e:(t.bad || decide (L=0) || decide (400<t.parts+1))=false:=e;simp only [Bool.or_eq_false_iff,decide_eq_false_iff_not] at e;show t.parts+1≤400;omega
theorem tkParts_okT {s:Str} {f:Tk→Sh × Tk} (hf:∀ t,t.ok s→t.parts≤400→(f t).2.ok s):∀ (n:Nat) (t:Tk),t.ok s→(tkParts f n t).2.ok s
  | 0,_,h=>h
  | n+1,t,h=>by
    rw [tkParts];split
    · exact h
    · rename_i hb
      exact tkParts_okT hf n _ (hf t h (h.2.2 (by simpa using hb)))
theorem tkNames_parts {s:Str}:∀ (n:Nat) (t:Tk),t.pos≤s.length→(tkNames s n t).2.parts=t.parts
  | 0,_,_=>rfl
  | n+1,t,h=>by
    rw [tkNames];split
    · rfl
    · have h1:=tkText_pos h;exact (tkNames_parts n _ h1.1).trans h1.2.1
theorem tkNames_posT {s:Str}:∀ (n:Nat) (t:Tk),t.pos≤s.length→(tkNames s n t).2.pos≤s.length
  | 0,_,h=>h
  | n+1,t,h=>by
    rw [tkNames];split
    · exact h
    · exact tkNames_posT n _ (tkText_pos h).1
theorem tkHead_parts {s:Str} {t:Tk} (h:t.pos≤s.length):(tkHead s t).2.parts=t.parts:=by
  have h1:=tkNum_pos (m:=10) h;have h2:=tkText_pos h1.1;have h3:=tkText_pos h2.1;have h4:=tkNum_pos (m:=400) h3.1;have h5:=tkNames_parts (tkNum s 400 (tkText s (tkText s (tkNum s 10 t).2).2).2).1 _ h4.1;have h6:=tkNum_pos (s:=s) (m:=400) (tkNames_posT (tkNum s 400 (tkText s (tkText s (tkNum s 10 t).2).2).2).1 _ h4.1);exact h6.2.1.trans (h5.trans (h4.2.1.trans (h3.2.1.trans (h2.2.1.trans h1.2.1))))
theorem tkSh_okT {s:Str}:∀ (L:Nat) (t:Tk),t.ok s→t.parts≤400→(tkSh s L t).2.ok s
  | 0,t,h,hp=>by
    rw [tkSh];exact tkIn_okT (tkHead_okT h) (by rw [tkHead_parts h.1];exact hp)
  | L+1,t,h,hp=>by
    rw [tkSh];exact tkParts_okT (fun t h hp=>tkSh_okT L t h hp) _ _ (tkIn_okT (tkHead_okT h) (by rw [tkHead_parts h.1];exact hp))
section
variable {P:Program} {n:Nat} {Q:Post} {D:List Deferred} {E:Env} {w:World}
theorem L.setLast {ops:Array Oper} {r:List Oper} {x y:Operand} {s t:TypeId} {p:String} {af:Array Edge} {base g k c:Nat} {e:TypeId} {xs old new:List Value} (hs:aggT P s 5=true)
    (hx:ev E x=.pointer (some ⟨g,0+k * 5,none⟩)) (hy:ev E y=.agg new.toArray) (h:Own w base e 5 (.slice (some ⟨g,0,none⟩) (k+1) c) (k+1) (xs++old)) (hl:xs.length=k * 5) (hn:new.length=5) (h1:∀ v∈new,v.oneCell'=true)
    (kk:∀ w1,Own w1 base e 5 (.slice (some ⟨g,0,none⟩) (k+1) c) (k+1) (xs++new)→Gr (· = g) w w1→w1.heap.size=w.heap.size→L P n ops Q r D E w1):L P n ops Q (⟨none,.store s x y,t,p,af,none⟩ :: r) D E w:=by
  rw [Nat.zero_add] at hx;obtain ⟨h0,hh⟩:=h;rcases hh with ⟨e1,-⟩ | ⟨g',cap,cur,e1,hb,hg,hk,hc,hcs,ht⟩
  · cases e1
  · cases e1;have hbx:Box w g e cur.toList:=by unfold Box;rw [Array.toArray_toList];exact hg
    have hlen:cur.toList.length=c * 5:=by rw [Array.length_toList];exact hcs
    have hxs:cur.toList.take (k * 5)=xs:=by
      have:=congrArg (List.take (k * 5)) ht;rw [List.take_take,Nat.min_eq_left om_,← hl,List.take_left] at this;rw [← hl];exact this
    refine L.setPart hs hx hy hbx om_ hn h1 (fun w1 hb1 hg1 hz1=>kk w1 ⟨by rw [List.length_append];omega,.inr ⟨g,c,(cur.toList.take (k * 5)++new++cur.toList.drop (k * 5+5)).toArray,rfl,hb,hb1,hk,hc,?_,?_⟩⟩ hg1 hz1)
    · simp only [List.size_toArray,List.length_append,List.length_take,List.length_drop];omega
    · rw [hxs];show ((xs++new)++_).take ((k+1) * 5)=xs++new;have e2:(k+1) * 5=(xs++new).length:=by rw [List.length_append];omega
      rw [e2,List.take_left]
end
theorem hereT {w:World} {b:Nat} {s:Str} {t:Tk} (_h:TkAt w b s t) (R:Nat→Prop):Gr R w w:=Gr.refl R w
theorem part_c (s:Str) (lv bt b2 b3 b5 base:Nat) (t:Tk) (c0 c1 c2 vN vP:Value) (ps:List Sh) (f:Tk→Sh × Tk) (w:World)
    (bx5:Box w b5 41 [c0,c1,c2,vN,vP]) (bx2:Box w b2 65 [.pointer (some ⟨bt,0,none⟩)]) (bx3:Box w b3 3 [.int .i64 (41 - (lv:Nat))]) (hlv:1≤lv∧lv≤40)
    (hT:TkAt w bt s t) (hbb:bt<base∧b2<base∧b3<base∧b5<base∧base≤w.heap.size) (hne:b5≠bt∧b2≠bt∧b3≠bt∧b2≠b5∧b3≠b5) (hpl:ps.length≤400)
    (hP:ShsOwn (AvP base w vP) w base 41 vP ps)
    (hf:∀ w:World,TkAt w bt s t→Ret Tryz.prog 36 #[.pointer (some ⟨bt,0,none⟩),.int .i64 (41 - ((lv - 1:Nat):Int))] w fun v w'=>(∃ cs,v=.agg cs.toArray∧ShC (fun k=>k<w.heap.size) w' cs (f t).1∧TkAt w' bt s (f t).2)∧Gr (· = bt) w w'):
    Ret Tryz.prog 64 #[.pointer (some ⟨b5,0,none⟩),.pointer (some ⟨b2,0,none⟩),.pointer (some ⟨b3,0,none⟩)] w fun _ w'=>∃ vP',Box w' b5 41 [c0,c1,c2,vN,vP']∧ShsOwn (AvP base w' vP') w' base 41 vP' (ps++[(f t).1])∧TkAt w' bt s (f t).2∧Gr (fun k=>k=bt∨k=b5∨some k=vP.ownBlock) w w':=by
  obtain ⟨xsP,hPo⟩:=hP.own;obtain ⟨aP,cP,rfl,hcP⟩:=own_shape hPo;clear hPo xsP;have hloP:∀ j,some j=(Value.slice aP ps.length cP).ownBlock→base≤j:=fun j h=>(hP.lt h).1
  have hqP:∀ j,some j=(Value.slice aP ps.length cP).ownBlock→j<w.heap.size:=fun j h=>(hP.lt h).2
  refine ret_of_W Tryz.func64 rfl (Nat.le_of_ble_eq_true rfl) (res0 rfl) ?_;refine W.drawD (fun k=>k=bt∨k=b5∨some k=(Value.slice aP ps.length cP).ownBlock) (fun k=>k=bt) 8 kifn_mixed (fun wD3 hw=>?_);have bx5:=bx5.carry hw;have bx2:=bx2.carry hw;have bx3:=bx3.carry hw;have hT:=hT.carry hw;have hP:=hP.carry hw;have hB0:=Gr.refl (fun k=>k=bt) wD3;have hR0:=Gr.refl (fun k=>k=bt∨k=b5∨some k=(Value.slice aP ps.length cP).ownBlock) wD3;have hw0:=hw;have hs3:=hw.size;refine LAD.take0 (i:=0) rfl kr_ kr_ kr_ kr_ (fun w hw=>x_fa kifn_fo41_4 rfl) rfl ?_;refine LAD.take1 (i:=1) rfl kr_ kr_ kr_ kr_ kr_ kr_ (fun w hw=>x_ld (v:=.slice _ _ _) kifn_oc39 rfl (hw.keepR (hne.1) (bx5.cell0 rfl))) rfl ?_;refine LAD.take0 (i:=2) rfl kr_ kr_ kr_ kr_ (fun w hw=>x_ld (v:=.pointer _) kifn_oc65 rfl (hw.keepR ((by rintro (e | e | e) <;> first | (have e:(_:Nat)=_:=e;dsimp only at e;omega) | (have:=hloP _ e;dsimp only at this;omega))) (bx2.cell (i:=0) rfl))) rfl ?_;refine LAD.take0 (i:=3) rfl kr_ kr_ kr_ kr_ (fun w hw=>x_ld (v:=.int _ _) kifn_oc3 rfl (hw.keepR ((by rintro (e | e | e) <;> first | (have e:(_:Nat)=_:=e;dsimp only at e;omega) | (have:=hloP _ e;dsimp only at this;omega))) (bx3.cell (i:=0) rfl))) rfl ?_;refine LAD.take0 (i:=4) rfl kr_ kr_ kr_ kr_ (fun w hw=>x_add (c:=41 - ((lv - 1:Nat):Int)) rfl rfl (by rw [wr64 om_];omega)) rfl ?_;refine LAD.take0 (i:=6) rfl kr_ kr_ kr_ kr_ (fun w hw=>x_len_slice Tryz.underlying39 rfl) rfl ?_;refine LAD.step (rs:=[5,7]) hR0 (fun _=>hB0) kr_ (by simp) ⟨⟨_,rfl,?_⟩,⟨_,rfl,?_⟩,trivial⟩
  ·refine L.ret (x_call kifn_en36 rfl) rfl (hf _ hT) ?_;rintro _ w8 ⟨⟨cs8,rfl,hS,hT⟩,hg8⟩;have hs8:=hg8.size;have hs8b:=hB0.size;have hc8:cs8.length=5∧∀ u∈cs8,u.oneCell'=true:=⟨hS.len,hS.one⟩;have hS:ShC (fun k=>k<wD3.heap.size∨w8.heap.size≤k) w8 cs8 (f t).1:=hS.mono (fun b hb h=>by
     rcases h with h | h
     · show b<_;omega
     · omega)
   have hG8:Ge w8.heap.size w8:=Nat.le_refl _;have hB0:=hB0.trans hg8;have hR0:=hR0.intoR hg8 (fun k e=>.inl e);have bx5:=bx5.carryR hg8 hne.1;try have bx10:=bx10.carryR hg8 (fun e=>by have e:_=bt:=e;omega)
   have hP:=hP.carryA (A':=AvP base w (.slice aP ps.length cP)) hg8 (fun j hj e=>by have e:j=_:=e;have:=hloP j hj;omega) (fun j e=>.inl (by have e:j=_:=e;omega)) (fun _ h=>h);refine L.nil (thn_n (LAD.step (rs:=[7]) hR0 (fun _=>hB0) kr_ (by simp) ⟨⟨_,rfl,?_⟩,trivial⟩));refine L.bs (sz:=5) (cells:=[.int .i64 0,S [],S [],.slice none 0 0,.slice none 0 0]) Tryz.underlying39 kifn_el41 rfl rfl rfl rfl (fun w10 bx10 hw hz10=>?_);have hB0:=hB0.carry hw;have hR0:=hR0.carry hw;have bx5:=bx5.carry hw;have hT:=hT.carry hw;have hP:=hP.carry hw;have hS:=hS.carry hw;have hG8:=hG8.carry hw;refine L.nil (thn_n (LAD.step (rs:=[8]) hR0 (fun _=>hB0) kr_ (by simp) ⟨⟨_,rfl,?_⟩,trivial⟩));obtain ⟨rows,r1,r2,r3,r4⟩:=hP;have hs11:=hR0.size;have hK:=hereT hT (fun k=>k=b5∨some k=(Value.slice aP ps.length cP).ownBlock);have hG8b:w8.heap.size≤_:=hG8;refine L.append (m:=1) Tryz.underlying39 kifn_el41 rfl rfl rfl r2 rfl bx10.news (by simp [Value.oneCell',S]) om_ om_ (fun v11 w11 hO11 hg hiff11 hob11=>?_);obtain ⟨g11,c11,rfl⟩:=own_form hO11;have hlo11:=(Own.lt hO11 (j:=g11) rfl).1;have hgo:some g11=(Value.slice aP ps.length cP).ownBlock∨some g11=some _:=hob11;have hsg:=hg.size;have hO:=hO11;have hR0:=hR0.intoR hg (fun k e=>.inr (.inr e));have hK:=hK.intoR hg (fun k e=>.inr e);have bx5:=bx5.carryR hg (fun e=>by have:=hloP _ e;omega);have hT:=TkAt.carryR hT hg (fun e=>by have:=hloP _ e;omega);refine L.nil (thn_n (LAD.take0 (i:=9) rfl kr_ kr_ kr_ kr_ (fun w hw=>x_ia (j:=ps.length) Tryz.underlying39 kifn_sz41 rfl rfl om_ om_) rfl ?_));refine LAD.take0 (i:=11) rfl kr_ kr_ kr_ kr_ (fun w hw=>x_fa kifn_fo41_4 rfl) rfl ?_;refine LAD.step' (rs:=[10,12]) hR0 kr_ kr_ (by simp) ⟨⟨_,rfl,?_⟩,⟨_,rfl,?_⟩,trivial⟩
   ·refine L.setLast (k:=ps.length) kifn_ag41 rfl rfl hO r2.1 hc8.1 hc8.2 (fun wl11 hO hw hzl11=>?_);have hR0:=hR0.stepN hw (fun k hk e=>.inr (.inr (by have e:k=_:=e;rw [e];rcases hgo with h | h;exact h;have:=Option.some.inj h;omega)));have hK:=hK.stepN hw (fun k hk e=>.inr (by have e:k=_:=e;rw [e];rcases hgo with h | h;exact h;have:=Option.some.inj h;omega));have bx5:=bx5.carryR hw (fun e=>by have e:_=g11:=e;omega);have hT:=TkAt.carryR hT hw (fun e=>by have e:_=g11:=e;omega);refine L.nil (thn_n (LAD.step' (rs:=[12]) hR0 kr_ kr_ (by simp) ⟨⟨_,rfl,?_⟩,trivial⟩));refine L.set (v:=.slice _ _ _) kifn_sz39 rfl rfl rfl bx5 rfl (fun wl13 bx5 hw hzl13=>?_);have hR0:=hR0.into hw (.inr (.inl rfl));have hK:=hK.into hw (.inl rfl);have hO:=Own.carryR hO hw (fun j hj e=>by have e:j=_:=e;have:=(Own.lt hO hj).1;omega);have hT:=TkAt.carryR hT hw (fun e=>by have e:bt=b5:=e;omega);refine L.nil (thn_n (LAD.done kr_ kr_ hR0 ?_));have bx2:=bx2.carryR hR0 (fun e=>by rcases e with e | e | e <;> first | omega | (have:=hloP _ e;omega));have bx3:=bx3.carryR hR0 (fun e=>by rcases e with e | e | e <;> first | omega | (have:=hloP _ e;omega));refine fin_mk (.inl rfl) ?_;have hKz:=hK.size;refine ⟨_,bx5,ShsOwn.snocA r1 r3 r4 ((hS.carryR hK ?_).mono (fun b hb h=>?_)) hO hK (fun j e=>?_) (fun j h=>avp_step om_ (hob11.imp id (fun h k e=>by have:=Option.some.inj (e.trans h);omega)) h),hT,(hw0.mono (fun _ _ f=>f.elim)).trans hR0⟩
    · rintro k (e | e)
      · exact .inl om_
      · exact .inl (by have:=hqP k e;omega)
    · rcases h with h | h | h
      · exact .inl om_
      · have h:b=g11:=Option.some.inj h;rcases hgo with e | e
        · exact .inl (by have:=hqP _ e;omega)
        · exact .inr (by have:=Option.some.inj e;omega)
      · exact .inr om_
    · rcases e with e | e
      · exact .inl om_
      · exact .inr (.inl e)
   ·refine L.set (v:=.slice _ _ _) kifn_sz39 rfl rfl rfl bx5 rfl (fun wl13 bx5 hw hzl13=>?_);have hR0:=hR0.into hw (.inr (.inl rfl));have hK:=hK.into hw (.inl rfl);have hO:=Own.carryR hO hw (fun j hj e=>by have e:j=_:=e;have:=(Own.lt hO hj).1;omega);have hT:=TkAt.carryR hT hw (fun e=>by have e:bt=b5:=e;omega);refine L.nil (thn_n (LAD.step' (rs:=[10]) hR0 kr_ kr_ (by simp) ⟨⟨_,rfl,?_⟩,trivial⟩));refine L.setLast (k:=ps.length) kifn_ag41 rfl rfl hO r2.1 hc8.1 hc8.2 (fun wl11 hO hw hzl11=>?_);have hR0:=hR0.stepN hw (fun k hk e=>.inr (.inr (by have e:k=_:=e;rw [e];rcases hgo with h | h;exact h;have:=Option.some.inj h;omega)));have hK:=hK.stepN hw (fun k hk e=>.inr (by have e:k=_:=e;rw [e];rcases hgo with h | h;exact h;have:=Option.some.inj h;omega));have bx5:=bx5.carryR hw (fun e=>by have e:_=g11:=e;omega);have hT:=TkAt.carryR hT hw (fun e=>by have e:_=g11:=e;omega);refine L.nil (thn_n (LAD.done kr_ kr_ hR0 ?_));have bx2:=bx2.carryR hR0 (fun e=>by rcases e with e | e | e <;> first | omega | (have:=hloP _ e;omega));have bx3:=bx3.carryR hR0 (fun e=>by rcases e with e | e | e <;> first | omega | (have:=hloP _ e;omega));refine fin_mk (.inl rfl) ?_;have hKz:=hK.size;refine ⟨_,bx5,ShsOwn.snocA r1 r3 r4 ((hS.carryR hK ?_).mono (fun b hb h=>?_)) hO hK (fun j e=>?_) (fun j h=>avp_step om_ (hob11.imp id (fun h k e=>by have:=Option.some.inj (e.trans h);omega)) h),hT,(hw0.mono (fun _ _ f=>f.elim)).trans hR0⟩
    · rintro k (e | e)
      · exact .inl om_
      · exact .inl (by have:=hqP k e;omega)
    · rcases h with h | h | h
      · exact .inl om_
      · have h:b=g11:=Option.some.inj h;rcases hgo with e | e
        · exact .inl (by have:=hqP _ e;omega)
        · exact .inr (by have:=Option.some.inj e;omega)
      · exact .inr om_
    · rcases e with e | e
      · exact .inl om_
      · exact .inr (.inl e)
  ·refine L.bs (sz:=5) (cells:=[.int .i64 0,S [],S [],.slice none 0 0,.slice none 0 0]) Tryz.underlying39 kifn_el41 rfl rfl rfl rfl (fun w10 bx10 hw hz10=>?_);have hB0:=hB0.carry hw;have hR0:=hR0.carry hw;have bx5:=bx5.carry hw;have hT:=hT.carry hw;have hP:=hP.carry hw;refine L.nil (thn_n (LAD.step (rs:=[5]) hR0 (fun _=>hB0) kr_ (by simp) ⟨⟨_,rfl,?_⟩,trivial⟩));refine L.ret (x_call kifn_en36 rfl) rfl (hf _ hT) ?_;rintro _ w8 ⟨⟨cs8,rfl,hS,hT⟩,hg8⟩;have hs8:=hg8.size;have hs8b:=hB0.size;have hc8:cs8.length=5∧∀ u∈cs8,u.oneCell'=true:=⟨hS.len,hS.one⟩;have hS:ShC (fun k=>k<wD3.heap.size∨w8.heap.size≤k) w8 cs8 (f t).1:=hS.mono (fun b hb h=>by
     rcases h with h | h
     · show b<_;omega
     · omega)
   have hG8:Ge w8.heap.size w8:=Nat.le_refl _;have hB0:=hB0.trans hg8;have hR0:=hR0.intoR hg8 (fun k e=>.inl e);have bx5:=bx5.carryR hg8 hne.1;try have bx10:=bx10.carryR hg8 (fun e=>by have e:_=bt:=e;omega)
   have hP:=hP.carryA (A':=AvP base w (.slice aP ps.length cP)) hg8 (fun j hj e=>by have e:j=_:=e;have:=hloP j hj;omega) (fun j e=>.inl (by have e:j=_:=e;omega)) (fun _ h=>h);refine L.nil (thn_n (LAD.step (rs:=[8]) hR0 (fun _=>hB0) kr_ (by simp) ⟨⟨_,rfl,?_⟩,trivial⟩));obtain ⟨rows,r1,r2,r3,r4⟩:=hP;have hs11:=hR0.size;have hK:=hereT hT (fun k=>k=b5∨some k=(Value.slice aP ps.length cP).ownBlock);have hG8b:w8.heap.size≤_:=hG8;refine L.append (m:=1) Tryz.underlying39 kifn_el41 rfl rfl rfl r2 rfl bx10.news (by simp [Value.oneCell',S]) om_ om_ (fun v11 w11 hO11 hg hiff11 hob11=>?_);obtain ⟨g11,c11,rfl⟩:=own_form hO11;have hlo11:=(Own.lt hO11 (j:=g11) rfl).1;have hgo:some g11=(Value.slice aP ps.length cP).ownBlock∨some g11=some _:=hob11;have hsg:=hg.size;have hO:=hO11;have hR0:=hR0.intoR hg (fun k e=>.inr (.inr e));have hK:=hK.intoR hg (fun k e=>.inr e);have bx5:=bx5.carryR hg (fun e=>by have:=hloP _ e;omega);have hT:=TkAt.carryR hT hg (fun e=>by have:=hloP _ e;omega);refine L.nil (thn_n (LAD.take0 (i:=9) rfl kr_ kr_ kr_ kr_ (fun w hw=>x_ia (j:=ps.length) Tryz.underlying39 kifn_sz41 rfl rfl om_ om_) rfl ?_));refine LAD.take0 (i:=11) rfl kr_ kr_ kr_ kr_ (fun w hw=>x_fa kifn_fo41_4 rfl) rfl ?_;refine LAD.step' (rs:=[10,12]) hR0 kr_ kr_ (by simp) ⟨⟨_,rfl,?_⟩,⟨_,rfl,?_⟩,trivial⟩
   ·refine L.setLast (k:=ps.length) kifn_ag41 rfl rfl hO r2.1 hc8.1 hc8.2 (fun wl11 hO hw hzl11=>?_);have hR0:=hR0.stepN hw (fun k hk e=>.inr (.inr (by have e:k=_:=e;rw [e];rcases hgo with h | h;exact h;have:=Option.some.inj h;omega)));have hK:=hK.stepN hw (fun k hk e=>.inr (by have e:k=_:=e;rw [e];rcases hgo with h | h;exact h;have:=Option.some.inj h;omega));have bx5:=bx5.carryR hw (fun e=>by have e:_=g11:=e;omega);have hT:=TkAt.carryR hT hw (fun e=>by have e:_=g11:=e;omega);refine L.nil (thn_n (LAD.step' (rs:=[12]) hR0 kr_ kr_ (by simp) ⟨⟨_,rfl,?_⟩,trivial⟩));refine L.set (v:=.slice _ _ _) kifn_sz39 rfl rfl rfl bx5 rfl (fun wl13 bx5 hw hzl13=>?_);have hR0:=hR0.into hw (.inr (.inl rfl));have hK:=hK.into hw (.inl rfl);have hO:=Own.carryR hO hw (fun j hj e=>by have e:j=_:=e;have:=(Own.lt hO hj).1;omega);have hT:=TkAt.carryR hT hw (fun e=>by have e:bt=b5:=e;omega);refine L.nil (thn_n (LAD.done kr_ kr_ hR0 ?_));have bx2:=bx2.carryR hR0 (fun e=>by rcases e with e | e | e <;> first | omega | (have:=hloP _ e;omega));have bx3:=bx3.carryR hR0 (fun e=>by rcases e with e | e | e <;> first | omega | (have:=hloP _ e;omega));refine fin_mk (.inl rfl) ?_;have hKz:=hK.size;refine ⟨_,bx5,ShsOwn.snocA r1 r3 r4 ((hS.carryR hK ?_).mono (fun b hb h=>?_)) hO hK (fun j e=>?_) (fun j h=>avp_step om_ (hob11.imp id (fun h k e=>by have:=Option.some.inj (e.trans h);omega)) h),hT,(hw0.mono (fun _ _ f=>f.elim)).trans hR0⟩
    · rintro k (e | e)
      · exact .inl om_
      · exact .inl (by have:=hqP k e;omega)
    · rcases h with h | h | h
      · exact .inl om_
      · have h:b=g11:=Option.some.inj h;rcases hgo with e | e
        · exact .inl (by have:=hqP _ e;omega)
        · exact .inr (by have:=Option.some.inj e;omega)
      · exact .inr om_
    · rcases e with e | e
      · exact .inl om_
      · exact .inr (.inl e)
   ·refine L.set (v:=.slice _ _ _) kifn_sz39 rfl rfl rfl bx5 rfl (fun wl13 bx5 hw hzl13=>?_);have hR0:=hR0.into hw (.inr (.inl rfl));have hK:=hK.into hw (.inl rfl);have hO:=Own.carryR hO hw (fun j hj e=>by have e:j=_:=e;have:=(Own.lt hO hj).1;omega);have hT:=TkAt.carryR hT hw (fun e=>by have e:bt=b5:=e;omega);refine L.nil (thn_n (LAD.step' (rs:=[10]) hR0 kr_ kr_ (by simp) ⟨⟨_,rfl,?_⟩,trivial⟩));refine L.setLast (k:=ps.length) kifn_ag41 rfl rfl hO r2.1 hc8.1 hc8.2 (fun wl11 hO hw hzl11=>?_);have hR0:=hR0.stepN hw (fun k hk e=>.inr (.inr (by have e:k=_:=e;rw [e];rcases hgo with h | h;exact h;have:=Option.some.inj h;omega)));have hK:=hK.stepN hw (fun k hk e=>.inr (by have e:k=_:=e;rw [e];rcases hgo with h | h;exact h;have:=Option.some.inj h;omega));have bx5:=bx5.carryR hw (fun e=>by have e:_=g11:=e;omega);have hT:=TkAt.carryR hT hw (fun e=>by have e:_=g11:=e;omega);refine L.nil (thn_n (LAD.done kr_ kr_ hR0 ?_));have bx2:=bx2.carryR hR0 (fun e=>by rcases e with e | e | e <;> first | omega | (have:=hloP _ e;omega));have bx3:=bx3.carryR hR0 (fun e=>by rcases e with e | e | e <;> first | omega | (have:=hloP _ e;omega));refine fin_mk (.inl rfl) ?_;have hKz:=hK.size;refine ⟨_,bx5,ShsOwn.snocA r1 r3 r4 ((hS.carryR hK ?_).mono (fun b hb h=>?_)) hO hK (fun j e=>?_) (fun j h=>avp_step om_ (hob11.imp id (fun h k e=>by have:=Option.some.inj (e.trans h);omega)) h),hT,(hw0.mono (fun _ _ f=>f.elim)).trans hR0⟩
    · rintro k (e | e)
      · exact .inl om_
      · exact .inl (by have:=hqP k e;omega)
    · rcases h with h | h | h
      · exact .inl om_
      · have h:b=g11:=Option.some.inj h;rcases hgo with e | e
        · exact .inl (by have:=hqP _ e;omega)
        · exact .inr (by have:=Option.some.inj e;omega)
      · exact .inr om_
    · rcases e with e | e
      · exact .inl om_
      · exact .inr (.inl e)
end Go.Gx
namespace Go.Gx
variable {P:Program} {ops:Array Oper} {C0 C1:World→Prop}
section
variable {n st:Nat} {K:List Deferred→Env→World→Prop} {D:List Deferred} {E:Env} {w:World}
theorem LAD.takeY {fuel:Nat} {listed:Array Bool} {i d:Nat} {o:Oper} {v:Value}
    (ho:ops[i]? = some o) (hod:o.dst=some d) (hs:Region.noSelect ops=true) (hf:Region.free .any ops listed i=true) (hr:(Region.ready .any ops listed).contains i=true) (hne:Nat.beq st i=false)
    (hx:∀ a,Fr D n a E→YF P ops C0 o v a) (hd:Nat.blt d n=true) (k:LAD P n ops C0 C1 st K fuel (listed.setIfInBounds i true) D (upd E d v) w):LAD P n ops C0 C1 st K (fuel+1) listed D E w:=by
  intro a ha;refine wpAnyD.take0 ho (Region.noSelect_spec hs) ?_ (fun h=>by subst h;simp at hne) fuel listed a w (Region.free_spec ho hf) (by simpa using hr) (hx a ha) ?_
  · rintro c a w ⟨_,E,_,h,_⟩;cases h
  · rw [hod];exact k _ (ha.put v hd)
theorem LAD.takeG {fuel:Nat} {listed:Array Bool} {i d j dj:Nat} {op:Op} {t:TypeId} {p:String} {af:Array Edge} {v:Value} {want b:Bool}
    (ho:ops[i]? = some ⟨some d,op,t,p,af,some (j,want)⟩) (hs:Region.noSelect ops=true) (hf:Region.free .any ops listed i=true) (hr:(Region.ready .any ops listed).contains i=true) (hne:Nat.beq st i=false)
    (hj:(ops[j]?).bind (·.dst)=some dj) (hE:E dj=.bool b) (hb:b=want)
    (hx:∀ w,C0 w→X P op t E w v w) (hd:Nat.blt d n=true) (k:LAD P n ops C0 C1 st K fuel (listed.setIfInBounds i true) D (upd E d v) w):LAD P n ops C0 C1 st K (fuel+1) listed D E w:=
  LAD.takeY ho rfl hs hf hr hne (fun a ha=>.inl ⟨wanted_yes rfl hj ha (hb ▸ hE),fun w hw=>by
    have:=hx w hw;unfold X at this;rw [execOp_bare,ha.eval];exact this⟩) hd k
theorem LAD.takeU {fuel:Nat} {listed:Array Bool} {i d j dj:Nat} {op:Op} {t:TypeId} {p:String} {af:Array Edge} {want b:Bool}
    (ho:ops[i]? = some ⟨some d,op,t,p,af,some (j,want)⟩) (hs:Region.noSelect ops=true) (hf:Region.free .any ops listed i=true) (hr:(Region.ready .any ops listed).contains i=true) (hne:Nat.beq st i=false)
    (hj:(ops[j]?).bind (·.dst)=some dj) (hE:E dj=.bool b) (hb:b=!want)
    (hd:Nat.blt d n=true) (k:LAD P n ops C0 C1 st K fuel (listed.setIfInBounds i true) D (upd E d undef) w):LAD P n ops C0 C1 st K (fuel+1) listed D E w:=
  LAD.takeY ho rfl hs hf hr hne (fun _ ha=>.inr ⟨wanted_no rfl hj ha hE hb,rfl⟩) hd k
theorem LAD.takeUU {fuel:Nat} {listed:Array Bool} {i d j dj:Nat} {op:Op} {t:TypeId} {p:String} {af:Array Edge} {want:Bool}
    (ho:ops[i]? = some ⟨some d,op,t,p,af,some (j,want)⟩) (hs:Region.noSelect ops=true) (hf:Region.free .any ops listed i=true) (hr:(Region.ready .any ops listed).contains i=true) (hne:Nat.beq st i=false)
    (hj:(ops[j]?).bind (·.dst)=some dj) (hE:E dj=undef)
    (hd:Nat.blt d n=true) (k:LAD P n ops C0 C1 st K fuel (listed.setIfInBounds i true) D (upd E d undef) w):LAD P n ops C0 C1 st K (fuel+1) listed D E w:=
  LAD.takeY ho rfl hs hf hr hne (fun _ ha=>.inr ⟨wanted_undef rfl hj ha hE,rfl⟩) hd k
theorem LAD.split {fuel:Nat} {listed:Array Bool} {dj:Nat} {b:Bool} (_hE:E dj=.bool b) (ht:b=true→LAD P n ops C0 C1 st K fuel listed D E w) (hf:b=false→LAD P n ops C0 C1 st K fuel listed D E w):LAD P n ops C0 C1 st K fuel listed D E w:=by
  cases b
  · exact hf rfl
  · exact ht rfl
end
end Go.Gx
