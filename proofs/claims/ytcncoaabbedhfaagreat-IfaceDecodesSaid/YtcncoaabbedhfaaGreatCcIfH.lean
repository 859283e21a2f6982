/- Types read: the document's. Conditions: none. -/
import Derived.Test.YtcncoaabbedhfaaGreatCcIfG
import Derived.Test.YtcncoaabbedhfaaGreatCcItR
import Derived.Test.YtcncoaabbedhfaaGreatCcSort3
namespace Go.Gx
open Go.Proofs
theorem kifh_ag41:aggT Tryz.prog 41 5=true:=by kernel_rfl
theorem kifh_el41:elT Tryz.prog 41 5=true:=by kernel_rfl
theorem kifh_en37:Go.Proofs.Enters Tryz.prog 37:=Go.Proofs.enters_of Tryz.func37 kr_ rfl
theorem kifh_en38:Go.Proofs.Enters Tryz.prog 38:=Go.Proofs.enters_of Tryz.func38 kr_ rfl
theorem kifh_en39:Go.Proofs.Enters Tryz.prog 39:=Go.Proofs.enters_of Tryz.func39 kr_ rfl
theorem kifh_en66:Go.Proofs.Enters Tryz.prog 66:=Go.Proofs.enters_of Tryz.func66 kr_ rfl
theorem kifh_fo41_4:fieldOff Tryz.prog 41 4=some 4:=by kernel_rfl
theorem kifh_oc39:oneCellT Tryz.prog 39=true:=by kernel_rfl
theorem kifh_si41:structInfo Tryz.prog 41=some ([(0,1),(1,1),(2,1),(3,1),(4,1)],[Value.int .i64 0,S [],S [],Value.slice none 0 0,Value.slice none 0 0]):=by kernel_rfl
theorem kifh_sz39:(Tryz.prog.info? 39).map (·.size)=some 1:=by kernel_rfl
theorem kifh_zr41:(Tryz.prog.info? 41).bind (·.zero)=some (Value.agg [Value.int .i64 0,S [],S [],Value.slice none 0 0,Value.slice none 0 0].toArray):=by kernel_rfl
theorem resSTT {P:Program} {fn:Func} {t t2 t3:Tmp} {T:TypeId} {E:Env} {w:World} {b n:Nat} {T':TypeId} {cs:List Value} {v u:Value} (hr:fn.results=#[.cell t T,.tmp t2,.tmp t3]) (ht:aggT P T n=true) (hE:E t=.pointer (some ⟨b,0,none⟩)) (hE2:E t2=v) (hE3:E t3=u) (hb:Box w b T' cs) (hl:cs.length=n):
    ∀ a:Array Value,(∀ t,a.getD t undef=E t)→(results fn a).run P w=.ok (.tuple #[.agg cs.toArray,v,u]) w:=by
  intro a ha;have hg:a.getD t undef=.pointer (some ⟨b,0,none⟩):=by rw [ha,hE]
  have hg2:a.getD t2 undef=v:=by rw [ha,hE2]
  have hg3:a.getD t3 undef=u:=by rw [ha,hE3]
  have hload:(loadVar T ⟨b,0,none⟩).run P w=.ok (.agg cs.toArray) w:=by
    unfold aggT at ht;simp only [Bool.and_eq_true,beq_iff_eq] at ht;obtain ⟨h1,h2⟩:=ht;cases hu:P.underlying T with
    | none=>simp [hu] at h1
    | some d=>
      rw [hu] at h1;exact run_loadVar_row w b T' T cs.toArray (0,0) d hb hu (by cases d <;> simp_all) (by rw [h2];simp [hl])
  rw [Array.getD_eq_getD_getElem?] at hg hg2 hg3;simp [results,hr,hg,hg2,hg3,asAddr,hload]
def AvP (base:Nat) (w:World) (v:Value) (k:Nat):Prop:=k<base∨some k=v.ownBlock∨w.heap.size≤k
theorem avp_step {base:Nat} {w w2:World} {v v2:Value} (hs:w.heap.size≤w2.heap.size) (h2:v2.ownBlock=v.ownBlock∨∀ k,some k=v2.ownBlock→w.heap.size≤k) {j:Nat} (h:AvP base w2 v2 j):AvP base w v j:=by
  rcases h with h | h | h
  · exact .inl h
  · rcases h2 with e | e
    · exact .inr (.inl (h.trans e))
    · exact .inr (.inr (e j h))
  · exact .inr (.inr om_)
theorem ShsOwn.snocA {A A' R:Nat→Prop} {w w':World} {base:Nat} {e:TypeId} {v':Value} {l:List Sh} {rows:List (List Value)} {cs:List Value} {t:Sh} (h1:rows.length=l.length) (h3:∀ i,i<l.length→(rows.getD i []).length=5) (h4:∀ i,i<l.length→ShC A w (rows.getD i []) (l.getD i default))
    (ht:ShC A' w' cs t) (ho:Own w' base e 5 v' (l.length+1) (rows.flatten++cs)) (g:Gr R w w') (hR:∀ j,R j→A j) (hA:∀ j,A' j→A j):ShsOwn A' w' base e v' (l++[t]):=by
  refine ⟨rows++[cs],by simp [h1],?_,fun i hi=>?_,fun i hi=>?_⟩
  · have e1:(rows++[cs]).flatten=rows.flatten++cs:=by simp
    rw [e1,List.length_append];exact ho
  · have:=getD_snoc (l:=rows) (x:=cs) (d:=[]) (i:=i) (by simp at hi ⊢;omega);rw [this];split
    · rename_i hlt;exact h3 i om_
    · exact ht.len
  · have e1:=getD_snoc (l:=rows) (x:=cs) (d:=[]) (i:=i) (by simp at hi ⊢;omega);have e2:=getD_snoc (l:=l) (x:=t) (d:=default) hi;rw [e1,e2,h1];split
    · rename_i hlt;exact ((h4 i hlt).carryR g hR).mono (fun b _ h=>hA b h)
    · exact ht
theorem smallN_le {s:Str} {a most:Nat} {x:Nat × Nat} (h:smallN s a most=some x):x.1≤most∧x.2≤s.length:=by
  unfold smallN at h;split at h
  · rename_i h1
    cases h;exact ⟨h1.2,(takeNum_le h1.1).2.1⟩
  · cases h
theorem takeListF_le:∀ (n:Nat) (s:Str) (a:Nat),a≤s.length→(takeListF n s a).2.1≤s.length
  | 0,_,_,h=>h
  | n+1,s,a,h=>by
    rw [takeListF];split
    · exact Nat.zero_le _
    · rename_i h1
      split
      · exact Nat.zero_le _
      · exact takeListF_le n s _ (takeText_le (by simpa using h1)).2.1
theorem takeList_le (s:Str) (a:Nat):(takeList s a).2.1≤s.length:=by
  unfold takeList;split
  · exact Nat.zero_le _
  · rename_i h
    exact takeListF_le _ s _ (takeNum_le (by simpa using h)).2.1
theorem pMany_le {f:Nat→Option (Sh × Nat)} {m:Nat} (hf:∀ a x,f a=some x→x.2≤m):∀ (n a:Nat) (y:List Sh × Nat),a≤m→pMany f n a=some y→y.2≤m
  | 0,a,y,h,e=>by cases e;exact h
  | n+1,a,y,h,e=>by
    rw [pMany] at e;obtain ⟨x,hx,e⟩:=Option.bind_eq_some_iff.1 e;obtain ⟨z,hz,rfl⟩:=Option.map_eq_some_iff.1 e;exact pMany_le hf n _ z (hf _ _ hx) hz
theorem pSh_pos {s:Str} {L a:Nat} (h:0<L):pSh s L a=(smallN s a 10).bind fun k=>(tText s k.2).bind fun o=>(tText s o.2).bind fun n=>(tList s n.2 400).bind fun ns=>(smallN s ns.2 400).bind fun m=>(pMany (pSh s (L - 1)) m.1 m.2).map fun ps=>(.mk k.1 o.1 n.1 ns.1 ps.1,ps.2):=by
  cases L with
  | zero=>omega
  | succ L=>rfl
theorem pSh_le {s:Str}:∀ (L a:Nat) (x:Sh × Nat),pSh s L a=some x→x.2≤s.length
  | 0,_,_,e=>by cases e
  | L+1,a,x,e=>by
    rw [pSh] at e;obtain ⟨k,-,e⟩:=Option.bind_eq_some_iff.1 e;obtain ⟨o,-,e⟩:=Option.bind_eq_some_iff.1 e;obtain ⟨n,-,e⟩:=Option.bind_eq_some_iff.1 e;obtain ⟨ns,-,e⟩:=Option.bind_eq_some_iff.1 e;obtain ⟨m,hm,e⟩:=Option.bind_eq_some_iff.1 e;obtain ⟨ps,hp,rfl⟩:=Option.map_eq_some_iff.1 e;exact pMany_le (fun a x h=>pSh_le L a x h) _ _ ps (smallN_le hm).2 hp
def zeroL5:List Value:=[.int .i64 0,S [],S [],.slice none 0 0,.slice none 0 0]
def shV (cs:List Value) (x:Option (Sh × Nat)):Value:=.tuple #[.agg cs.toArray,.int .i64 ((x.map (·.2)).getD 0:Nat),.bool x.isSome]
theorem tText_none {s:Str} {a:Nat} (h:(takeText s a).2.2≠0):tText s a=none:=if_neg h
theorem tText_some {s:Str} {a:Nat} (h:(takeText s a).2.2=0):tText s a=some ((takeText s a).1,(takeText s a).2.1):=if_pos h
theorem tList_none {s:Str} {a m:Nat} (h:¬ ((takeList s a).2.2=0∧(takeList s a).1.length≤m)):tList s a m=none:=if_neg h
theorem tList_some {s:Str} {a m:Nat} (h:(takeList s a).2.2=0∧(takeList s a).1.length≤m):tList s a m=some ((takeList s a).1,(takeList s a).2.1):=if_pos h
theorem pMany_step {f:Nat→Option (Sh × Nat)} {n i a:Nat} (h:i<n) {ps:List Sh} {x:Sh × Nat} (hx:f a=some x):((pMany f (n - i) a).map fun y=>(ps++y.1,y.2))=(pMany f (n - (i+1)) x.2).map fun y=>(ps++[x.1]++y.1,y.2):=by
  rw [show n - i=n - (i+1)+1 by omega,pMany,hx,Option.bind_some,Option.map_map];congr 1;funext y;simp
theorem pMany_fail {f:Nat→Option (Sh × Nat)} {n i a:Nat} (h:i<n) (hx:f a=none):pMany f (n - i) a=none:=by
  rw [show n - i=n - (i+1)+1 by omega,pMany,hx];rfl
def ShO (A:Nat→Prop) (w:World) (cs:List Value) (o:Option (Sh × Nat)):Prop:=∀ x,o=some x→ShC A w cs x.1
theorem ShO.carryR {A R:Nat→Prop} {w w':World} {cs:List Value} {o:Option (Sh × Nat)} (h:ShO A w cs o) (g:Gr R w w') (hR:∀ k,R k→A k):ShO A w' cs o:=fun x hx=>(h x hx).carryR g hR
theorem ShO.carry {A:Nat→Prop} {w w':World} {cs:List Value} {o:Option (Sh × Nat)} (h:ShO A w cs o) (g:Bel w w'):ShO A w' cs o:=h.carryR g (fun _ f=>f.elim)
theorem ShO.mono {A A':Nat→Prop} {w:World} {cs:List Value} {o:Option (Sh × Nat)} (h:ShO A w cs o) (hA:∀ b,b<w.heap.size→A' b→A b):ShO A' w cs o:=fun x hx=>(h x hx).mono hA
set_option maxHeartbeats 1000000 in
theorem shape16 (s:Str) (hs:s.length≤1000000000):∀ (N lv:Nat),lv<N→lv≤40→∀ (a:Nat) (w:World),a≤s.length→
    Ret Tryz.prog 39 #[S s,.int .i64 (a:Nat),.int .i64 (lv:Nat)] w fun v w'=>(∃ cs,v=shV cs (pSh s lv a)∧(pSh s lv a=none→cs=zeroL5)∧ShO (fun k=>k<w.heap.size) w' cs (pSh s lv a))∧Bel w w':=by
  intro N;induction N with
  | zero=>intro lv h;omega
  | succ N ih=>
    intro lv hN hL a w ha;have hP0:lv=0→pSh s lv a=none:=by rintro rfl;rfl
    have hfail:∀ (w':World),pSh s lv a=none→Bel w w'→((∃ cs,Value.tuple #[.agg zeroL5.toArray,.int .i64 0,.bool false]=shV cs (pSh s lv a)∧(pSh s lv a=none→cs=zeroL5)∧ShO (fun k=>k<w.heap.size) w' cs (pSh s lv a))∧Bel w w'):=fun w' h hB=>⟨⟨zeroL5,by rw [h];rfl,fun _=>rfl,fun x e=>by rw [h] at e;cases e⟩,hB⟩
    refine ret_of_W_R Tryz.func39 rfl (Nat.le_of_ble_eq_true rfl) ?_;have hB:=Gr.refl (fun _=>False) w;refine W.seq (W.region (L.alloc (cs:=[Value.int .i64 0,S [],S [],Value.slice none 0 0,Value.slice none 0 0]) kifh_zr41 rfl rfl (fun w6 bx6 hw hz6=>?_)));have hB:=hB.carry hw;refine L.val (x_as (v:=.int _ _) rfl) rfl ?_;refine L.val (x_as (v:=.bool _) rfl) rfl ?_;refine L.nil (thn_n (W.seq (W.region (L.val (x_build (cells:=[.int _ _,S _,S _,.slice _ _ _,.slice _ _ _]) kifh_si41 rfl rfl) rfl ?_))));refine L.alloc (cs:=[Value.int .i64 0,S [],S [],Value.slice none 0 0,Value.slice none 0 0]) kifh_zr41 rfl rfl (fun w9 bx9 hw hz9=>?_);have hB:=hB.carry hw;have bx6:=bx6.carry hw;refine L.setRow kifh_ag41 rfl rfl bx9 rfl rfl (by simp [Value.oneCell',S]) (fun wl6 bx9 hw hzl6=>?_);have hsz:=hB.size;have hB:=hB.set hw om_;have bx6:=bx6.carryR hw om_;refine L.nil (thn_n (W.seq (W.region (L.val (x_mv (v:=S _) rfl) rfl ?_))));refine L.val (x_mv (v:=.int _ _) rfl) rfl ?_;refine L.ret (x_call kifh_en37 rfl) rfl (small16 s a 10 ha hs om_ _) ?_;rintro _ w26 ⟨rfl,hw⟩;have hB:=hB.carry hw;have bx6:=bx6.carry hw;have bx9:=bx9.carry hw;refine L.val (x_mv (v:=_) rfl) rfl ?_;refine L.val (x_ext (v:=.int _ _) rfl rfl) rfl ?_;refine L.val (x_ext (v:=.int _ _) rfl rfl) rfl ?_;refine L.val (x_ext (v:=.bool _) rfl rfl) rfl ?_;refine L.val (x_as (v:=.int _ _) rfl) rfl ?_;refine L.val (x_as (v:=.int _ _) rfl) rfl ?_;refine L.val (x_as (v:=.bool _) rfl) rfl ?_;refine L.nil (thn_n (W.seq (W.seq (W.region (L.val (x_mv (v:=.bool _) rfl) rfl ?_)))));refine L.val (x_not rfl) rfl ?_;refine L.val (x_mv (v:=.bool _) rfl) rfl ?_;refine' L.group0 2 33 34 34 32 false rfl ?_ ?_ ?_;rotate_left 1
    ·intro g32;have h32:=(not_f g32);refine L.gyes' (dj:=32) (b:=_) rfl rfl g32 ?_;refine L.val (x_mv (v:=.int _ _) rfl) rfl ?_;refine L.gyes' (dj:=32) (b:=_) rfl rfl g32 ?_;refine L.val (x_eql rfl rfl) rfl ?_;refine L.nil (thn_n ⟨rfl,rfl,?_,rfl⟩);repeat (first | exact jeq.refl _ _ _ | refine jeq.upd rfl ?_ | refine jeq.jk rfl rfl ?_)
    ·intro g32;refine L.gno (dj:=32) (b:=_) rfl rfl g32 rfl ?_;refine L.gno (dj:=32) (b:=_) rfl rfl g32 rfl ?_;refine L.nil (thn_n ⟨rfl,rfl,?_⟩);repeat (first | exact jeq.refl _ _ _ | refine jeq.upd rfl ?_ | refine jeq.jk rfl rfl ?_)
    intro J32 j32;refine L.val (x_or rfl j32) rfl ?_;refine L.nil (thn_n (W.cond (b:=_) rfl (fun g35=>?_) (fun g35=>?_)))
    ·have h35:=g35;have hnone:pSh s lv a=none:=by
       rcases Nat.eq_zero_or_pos lv with e | e
       · exact hP0 e
       · have hf:(smallN s a 10).isSome=false:=by
           simp only [Bool.or_eq_true,Bool.not_eq_true',decide_eq_true_eq] at g35;rcases g35 with g | g
           · exact g
           · omega
         cases hk:smallN s a 10 with
         | none=>rw [pSh_pos e,hk];rfl
         | some k=>rw [hk] at hf;cases hf
     refine W.seq (W.region (L.val (x_ldn (vs:=_) kifh_ag41 rfl rfl (bx9.row rfl)) rfl ?_));refine L.setRow kifh_ag41 rfl rfl bx6 rfl rfl (by simp [Value.oneCell',S]) (fun wl24 bx6 hw hzl24=>?_);have hsz:=hB.size;have hB:=hB.set hw om_;have bx9:=bx9.carryR hw om_;refine L.val (x_as (v:=.int _ _) rfl) rfl ?_;refine L.val (x_as (v:=.bool _) rfl) rfl ?_;refine L.nil (thn_n (W.ret (thn_r (finR_mk (.inr rfl) ?_))));exact ⟨_,resSTT (v:=.int .i64 0) (u:=.bool false) rfl kifh_ag41 rfl rfl rfl bx6 rfl,hfail _ hnone hB⟩
    ·have h35:=g35;have hg35:(smallN s a 10).isSome=true∧0<lv:=by
       simp only [Bool.or_eq_false_iff,Bool.not_eq_false',decide_eq_false_iff_not] at g35;exact ⟨g35.1,by omega⟩
     obtain ⟨k,hk⟩:=Option.isSome_iff_exists.1 hg35.1;have hE:=pSh_pos (s:=s) (L:=lv) (a:=a) hg35.2;rw [hk,Option.bind_some] at hE;rw [hk];simp only [Option.getD_some];obtain ⟨hk1,hk2⟩:=smallN_le hk;refine W.skip (thn_n (W.seq (W.region (L.val (x_mv (v:=S _) rfl) rfl ?_))));refine L.val (x_mv (v:=.int _ _) rfl) rfl ?_;refine L.ret (x_call kifh_en38 rfl) rfl (takeText01 s k.2 hk2 hs _) ?_;rintro _ w40 ⟨rfl,hw⟩;have hB:=hB.carry hw;have bx6:=bx6.carry hw;have bx9:=bx9.carry hw;refine L.val (x_mv (v:=_) rfl) rfl ?_;refine L.val (x_ext (v:=S _) rfl rfl) rfl ?_;refine L.val (x_ext (v:=.int _ _) rfl rfl) rfl ?_;refine L.val (x_ext (v:=.int _ _) rfl rfl) rfl ?_;refine L.val (x_as (v:=S _) rfl) rfl ?_;refine L.val (x_as (v:=.int _ _) rfl) rfl ?_;refine L.val (x_as (v:=.int _ _) rfl) rfl ?_;refine L.nil (thn_n (W.seq (W.seq (W.region (L.val (x_mv (v:=.int _ _) rfl) rfl ?_)))));refine L.val (x_neq rfl rfl) rfl ?_;refine L.nil (thn_n (W.cond (b:=_) rfl (fun g45=>?_) (fun g45=>?_)))
     ·have h45:=dne_t g45;have he:(takeText s k.2).2.2≠0:=h45;have hnone:pSh s lv a=none:=by rw [hE,tText_none he];rfl
      refine W.seq (W.region (L.val (x_ldn (vs:=_) kifh_ag41 rfl rfl (bx9.row rfl)) rfl ?_));refine L.setRow kifh_ag41 rfl rfl bx6 rfl rfl (by simp [Value.oneCell',S]) (fun wl40 bx6 hw hzl40=>?_);have hsz:=hB.size;have hB:=hB.set hw om_;have bx9:=bx9.carryR hw om_;refine L.val (x_as (v:=.int _ _) rfl) rfl ?_;refine L.val (x_as (v:=.bool _) rfl) rfl ?_;refine L.nil (thn_n (W.ret (thn_r (finR_mk (.inr rfl) ?_))));exact ⟨_,resSTT (v:=.int .i64 0) (u:=.bool false) rfl kifh_ag41 rfl rfl rfl bx6 rfl,hfail _ hnone hB⟩
     ·have h45:=dne_f g45;have he:(takeText s k.2).2.2=0:=by simpa using h45
      have ho2:=(takeText_le he).2.1;have ho3:=takeText_len s k.2;rw [tText_some he,Option.bind_some] at hE;obtain ⟨o,ho⟩:∃ o,o=takeText s k.2:=⟨_,rfl⟩;rw [← ho] at hE ho2 ho3 ⊢;refine W.skip (thn_n (W.seq (W.region (L.val (x_mv (v:=S _) rfl) rfl ?_))));refine L.val (x_mv (v:=.int _ _) rfl) rfl ?_;refine L.ret (x_call kifh_en38 rfl) rfl (takeText01 s o.2.1 ho2 hs _) ?_;rintro _ w50 ⟨rfl,hw⟩;have hB:=hB.carry hw;have bx6:=bx6.carry hw;have bx9:=bx9.carry hw;refine L.val (x_mv (v:=_) rfl) rfl ?_;refine L.val (x_ext (v:=S _) rfl rfl) rfl ?_;refine L.val (x_ext (v:=.int _ _) rfl rfl) rfl ?_;refine L.val (x_ext (v:=.int _ _) rfl rfl) rfl ?_;refine L.val (x_as (v:=S _) rfl) rfl ?_;refine L.val (x_as (v:=.int _ _) rfl) rfl ?_;refine L.val (x_as (v:=.int _ _) rfl) rfl ?_;refine L.nil (thn_n (W.seq (W.seq (W.region (L.val (x_mv (v:=.int _ _) rfl) rfl ?_)))));refine L.val (x_neq rfl rfl) rfl ?_;refine L.nil (thn_n (W.cond (b:=_) rfl (fun g55=>?_) (fun g55=>?_)))
      ·have h55:=dne_t g55;have he:(takeText s o.2.1).2.2≠0:=h55;have hnone:pSh s lv a=none:=by rw [hE,tText_none he];rfl
       refine W.seq (W.region (L.val (x_ldn (vs:=_) kifh_ag41 rfl rfl (bx9.row rfl)) rfl ?_));refine L.setRow kifh_ag41 rfl rfl bx6 rfl rfl (by simp [Value.oneCell',S]) (fun wl56 bx6 hw hzl56=>?_);have hsz:=hB.size;have hB:=hB.set hw om_;have bx9:=bx9.carryR hw om_;refine L.val (x_as (v:=.int _ _) rfl) rfl ?_;refine L.val (x_as (v:=.bool _) rfl) rfl ?_;refine L.nil (thn_n (W.ret (thn_r (finR_mk (.inr rfl) ?_))));exact ⟨_,resSTT (v:=.int .i64 0) (u:=.bool false) rfl kifh_ag41 rfl rfl rfl bx6 rfl,hfail _ hnone hB⟩
      ·have h55:=dne_f g55;have he:(takeText s o.2.1).2.2=0:=by simpa using h55
       have hn2:=(takeText_le he).2.1;have hn3:=takeText_len s o.2.1;rw [tText_some he,Option.bind_some] at hE;obtain ⟨nm,hnm⟩:∃ z,z=takeText s o.2.1:=⟨_,rfl⟩;have hs50:=bx6.lt;have hs59:=bx9.lt;rw [← hnm] at hE hn2 hn3 ⊢;refine W.skip (thn_n (W.seq (W.region (L.val (x_mv (v:=S _) rfl) rfl ?_))));refine L.val (x_mv (v:=.int _ _) rfl) rfl ?_;refine L.ret (x_call kifh_en66 rfl) rfl (takeList01 s nm.2.1 hn2 hs _) ?_;rintro _ w60 ⟨⟨u,rfl,hN1⟩,hw⟩;have hB:=hB.carry hw;have bx6:=bx6.carry hw;have bx9:=bx9.carry hw;obtain ⟨pu,cu,rfl,-⟩:=id hN1;have hs60:=hw.size;refine L.val (x_mv (v:=_) rfl) rfl ?_;refine L.val (x_ext (v:=.slice _ _ _) rfl rfl) rfl ?_;refine L.val (x_ext (v:=.int _ _) rfl rfl) rfl ?_;refine L.val (x_ext (v:=.int _ _) rfl rfl) rfl ?_;refine L.val (x_as (v:=.slice _ _ _) rfl) rfl ?_;refine L.val (x_as (v:=.int _ _) rfl) rfl ?_;refine L.val (x_as (v:=.int _ _) rfl) rfl ?_;refine L.nil (thn_n (W.seq (W.seq (W.region (L.val (x_mv (v:=.int _ _) rfl) rfl ?_)))));refine L.val (x_neq rfl rfl) rfl ?_;refine L.val (x_mv (v:=.bool _) rfl) rfl ?_;refine' L.group0 3 67 69 69 66 false rfl ?_ ?_ ?_;rotate_left 1
       ·intro g66;have h66:=dne_f g66;refine L.gyes' (dj:=66) (b:=_) rfl rfl g66 ?_;refine L.val (x_mv (v:=.slice _ _ _) rfl) rfl ?_;refine L.gyes' (dj:=66) (b:=_) rfl rfl g66 ?_;refine L.val (x_len_slice Tryz.underlying38 rfl) rfl ?_;refine L.gyes' (dj:=66) (b:=_) rfl rfl g66 ?_;refine L.val (x_gtr rfl rfl) rfl ?_;refine L.nil (thn_n ⟨rfl,rfl,?_,rfl⟩);repeat (first | exact jeq.refl _ _ _ | refine jeq.upd rfl ?_ | refine jeq.jk rfl rfl ?_)
       ·intro g66;(iterate 3 refine L.gno (dj:=66) (b:=_) rfl rfl g66 rfl ?_);refine L.nil (thn_n ⟨rfl,rfl,?_⟩);repeat (first | exact jeq.refl _ _ _ | refine jeq.upd rfl ?_ | refine jeq.jk rfl rfl ?_)
       intro J66 j66;refine L.val (x_or rfl j66) rfl ?_;refine L.nil (thn_n (W.cond (b:=_) rfl (fun g70=>?_) (fun g70=>?_)))
       ·have h70:=g70;have hbad:¬ ((takeList s nm.2.1).2.2=0∧(takeList s nm.2.1).1.length≤400):=by
          rintro ⟨e1,e2⟩;simp only [Bool.or_eq_true,Bool.not_eq_true',decide_eq_true_eq,decide_eq_false_iff_not] at g70;rcases g70 with g | g
          · exact g e1
          · omega
        have hnone:pSh s lv a=none:=by rw [hE,tList_none hbad];rfl
        refine W.seq (W.region (L.val (x_ldn (vs:=_) kifh_ag41 rfl rfl (bx9.row rfl)) rfl ?_));refine L.setRow kifh_ag41 rfl rfl bx6 rfl rfl (by simp [Value.oneCell',S]) (fun wl77 bx6 hw hzl77=>?_);have hsz:=hB.size;have hB:=hB.set hw om_;have bx9:=bx9.carryR hw om_;have hN1:=hN1.carryR hw (fun k e=>by have e:k=_:=e;first | (show k<_;omega) | exact .inl om_ | exact .inr om_);refine L.val (x_as (v:=.int _ _) rfl) rfl ?_;refine L.val (x_as (v:=.bool _) rfl) rfl ?_;refine L.nil (thn_n (W.ret (thn_r (finR_mk (.inr rfl) ?_))));exact ⟨_,resSTT (v:=.int .i64 0) (u:=.bool false) rfl kifh_ag41 rfl rfl rfl bx6 rfl,hfail _ hnone hB⟩
       ·have h70:=g70;have hgood:(takeList s nm.2.1).2.2=0∧(takeList s nm.2.1).1.length≤400:=by
          simp only [Bool.or_eq_false_iff,Bool.not_eq_false',decide_eq_true_eq,decide_eq_false_iff_not] at g70;exact ⟨g70.1,by omega⟩
        have hl2:=takeList_le s nm.2.1;rw [tList_some hgood,Option.bind_some] at hE;obtain ⟨nl,hnl⟩:∃ z,z=takeList s nm.2.1:=⟨_,rfl⟩;rw [← hnl] at hE hl2 hN1 ⊢;have hN1:=hN1.mono (A':=fun k=>k<w50.heap.size∨w60.heap.size≤k) (fun b hb h=>by
          rcases h with h | h
          · exact h
          · omega)
        refine W.skip (thn_n (W.seq (W.region (L.val (x_mv (v:=S _) rfl) rfl ?_))));refine L.val (x_mv (v:=.int _ _) rfl) rfl ?_;refine L.ret (x_call kifh_en37 rfl) rfl (small16 s nl.2.1 400 hl2 hs om_ _) ?_;rintro _ w75 ⟨rfl,hw⟩;have hB:=hB.carry hw;have bx6:=bx6.carry hw;have bx9:=bx9.carry hw;have hN1:=hN1.carry hw;have hs75:=hw.size;refine L.val (x_mv (v:=_) rfl) rfl ?_;refine L.val (x_ext (v:=.int _ _) rfl rfl) rfl ?_;refine L.val (x_ext (v:=.int _ _) rfl rfl) rfl ?_;refine L.val (x_ext (v:=.bool _) rfl rfl) rfl ?_;refine L.val (x_as (v:=.int _ _) rfl) rfl ?_;refine L.val (x_as (v:=.int _ _) rfl) rfl ?_;refine L.val (x_as (v:=.bool _) rfl) rfl ?_;refine L.nil (thn_n (W.seq (W.seq (W.region (L.val (x_mv (v:=.bool _) rfl) rfl ?_)))));refine L.val (x_not rfl) rfl ?_;refine L.nil (thn_n (W.cond (b:=_) rfl (fun g80=>?_) (fun g80=>?_)))
        ·have h80:=(not_t g80);have hnone:pSh s lv a=none:=by
           cases hm:smallN s nl.2.1 400 with
           | none=>rw [hE,hm];rfl
           | some m=>rw [hm] at h80;cases h80
         refine W.seq (W.region (L.val (x_ldn (vs:=_) kifh_ag41 rfl rfl (bx9.row rfl)) rfl ?_));refine L.setRow kifh_ag41 rfl rfl bx6 rfl rfl (by simp [Value.oneCell',S]) (fun wl93 bx6 hw hzl93=>?_);have hsz:=hB.size;have hB:=hB.set hw om_;have bx9:=bx9.carryR hw om_;have hN1:=hN1.carryR hw (fun k e=>by have e:k=_:=e;first | (show k<_;omega) | exact .inl om_ | exact .inr om_);refine L.val (x_as (v:=.int _ _) rfl) rfl ?_;refine L.val (x_as (v:=.bool _) rfl) rfl ?_;refine L.nil (thn_n (W.ret (thn_r (finR_mk (.inr rfl) ?_))));exact ⟨_,resSTT (v:=.int .i64 0) (u:=.bool false) rfl kifh_ag41 rfl rfl rfl bx6 rfl,hfail _ hnone hB⟩
        ·have h80:=(not_f g80);obtain ⟨m,hm⟩:=Option.isSome_iff_exists.1 h80;rw [hm,Option.bind_some] at hE;rw [hm];simp only [Option.getD_some];obtain ⟨hm1,hm2⟩:=smallN_le hm;refine W.skip (thn_n (W.seq (W.region (L.val (x_mv (v:=.int _ _) rfl) rfl ?_))));refine L.val (x_mv (v:=S _) rfl) rfl ?_;refine L.val (x_mv (v:=S _) rfl) rfl ?_;refine L.val (x_mv (v:=.slice _ _ _) rfl) rfl ?_;refine L.val (x_build (cells:=[.int _ _,S _,S _,.slice _ _ _,.slice _ _ _]) kifh_si41 rfl rfl) rfl ?_;refine L.alloc (cs:=[Value.int .i64 0,S [],S [],Value.slice none 0 0,Value.slice none 0 0]) kifh_zr41 rfl rfl (fun w17 bx17 hw hz17=>?_);have hB:=hB.carry hw;have bx6:=bx6.carry hw;have bx9:=bx9.carry hw;have hN1:=hN1.carry hw;obtain ⟨b17,hb17⟩:∃ b,b=w75.heap.size:=⟨_,rfl⟩;rw [← hb17] at bx17 ⊢;have hz17b:w17.heap.size=b17+1:=by omega
         have h60b:w60.heap.size≤b17:=by omega
         have hs50b:=hB.size;refine L.setRow kifh_ag41 rfl rfl bx17 rfl rfl (by simp [Value.oneCell',S]) (fun wl102 bx17 hw hzl102=>?_);have hsz:=hB.size;have hB:=hB.set hw om_;have bx6:=bx6.carryR hw om_;have bx9:=bx9.carryR hw om_;have hN1:=hN1.carryR hw (fun k e=>by have e:k=_:=e;first | (show k<_;omega) | exact .inl om_ | exact .inr om_);obtain ⟨base,hbase⟩:∃ base,base=wl102.heap.size:=⟨_,rfl⟩;have hbb:b17<base:=by omega
         have hG:Ge base wl102:=by show base≤_;omega
         have h6b:w.heap.size<b17∧w6.heap.size<b17:=by omega
         have hM0:pMany (pSh s (lv - 1)) m.1 m.2=(pMany (pSh s (lv - 1)) (m.1 - 0) m.2).map fun y=>(([]:List Sh)++y.1,y.2):=by
           rw [Nat.sub_zero];cases pMany (pSh s (lv - 1)) m.1 m.2 <;> rfl
         refine L.nil (thn_n (W.seq (W.seq (W.region (L.val (x_as (v:=.int _ _) rfl) rfl ?_)))));refine L.nil (thn_n (W.block (W.loop (fun m' E w'=>∃ (i at':Nat) (vP:Value) (ps:List Sh),m'=m.1 - i∧E 0=S s∧E 1=.int .i64 (at':Nat)∧E 2=.int .i64 (lv:Nat)∧E 6=.pointer (some ⟨w.heap.size,0,none⟩)∧E 9=.pointer (some ⟨w6.heap.size,0,none⟩)∧E 16=.int .i64 (m.1:Nat)∧E 17=.pointer (some ⟨b17,0,none⟩)∧E 18=.int .i64 (i:Nat)∧(i≤m.1)∧(Bel w w')∧(Box w' w.heap.size 41 [.int .i64 0,S [],S [],.slice none 0 0,.slice none 0 0])∧(Box w' w6.heap.size 41 [.int .i64 0,S [],S [],.slice none 0 0,.slice none 0 0])∧(Box w' b17 41 [.int .i64 (k.1:Nat),S o.1,S nm.1,.slice pu nl.1.length cu,vP])∧(StrsAt (fun k=>k<w50.heap.size∨w60.heap.size≤k) w' (.slice pu nl.1.length cu) nl.1)∧(Ge base w')∧(at'≤s.length)∧(ps.length=i)∧(pMany (pSh s (lv - 1)) m.1 m.2=(pMany (pSh s (lv - 1)) (m.1 - i) at').map fun y=>(ps++y.1,y.2))∧(ShsOwn (AvP base w' vP) w' base 41 vP ps)) (m.1) ?_ ?_)))
         ·exact ⟨0,_,.slice none 0 0,[],by omega,vi_,vi_,vi_,vi_,vi_,vi_,vi_,vi_,ao_,ao_,ao_,ao_,ao_,ao_,ao_,ao_,(by rfl),(by exact hM0),(by exact ShsOwn.nil)⟩
         ·rintro _ E wL87 ⟨i,at',vP,ps,em,e0,e1,e2,e6,e9,e16,e17,e18,hi,hB,bx6,bx9,bx17,hN1,hG,hat,hpl,hM,hP⟩;rw [upd_self e0,upd_self e1,upd_self e2,upd_self e6,upd_self e9,upd_self e16,upd_self e17,upd_self e18];refine W.seq (W.seq (W.region (L.val (x_mv (v:=.int _ _) rfl) rfl ?_)));refine L.val (x_mv (v:=.int _ _) rfl) rfl ?_;refine L.val (x_lss rfl rfl) rfl ?_;refine L.nil (thn_n (W.cond (b:=_) rfl (fun g89=>?_) (fun g89=>?_)))
          ·have h89:=of_decide_eq_true g89;have him:i<m.1:=by omega
           obtain ⟨xsP,hPo⟩:=hP.own;obtain ⟨aP,cP,rfl,hcP⟩:=own_shape hPo;clear hPo xsP;have hloP:∀ j,some j=(Value.slice aP ps.length cP).ownBlock→base≤j:=fun j h=>(hP.lt h).1
           have hqP:∀ j,some j=(Value.slice aP ps.length cP).ownBlock→j<wL87.heap.size:=fun j h=>(hP.lt h).2
           have hGL0:base≤wL87.heap.size:=hG;refine W.skip (thn_n (W.seq (W.block (W.seq (W.region (L.val (x_mv (v:=S _) rfl) rfl ?_))))));refine L.val (x_mv (v:=.int _ _) rfl) rfl ?_;refine L.val (x_mv (v:=.int _ _) rfl) rfl ?_;refine L.val (x_sub (c:=((lv - 1:Nat):Int)) rfl rfl (by rw [wr64 om_];omega)) rfl ?_;refine L.ret (x_call kifh_en39 rfl) rfl (ih (lv - 1) om_ om_ at' _ hat) ?_;rintro _ w97 ⟨⟨cs97,rfl,hz97,hs97⟩,hw⟩;have hB:=hB.carry hw;have bx6:=bx6.carry hw;have bx9:=bx9.carry hw;have bx17:=bx17.carry hw;have hN1:=hN1.carry hw;have hG:=hG.carry hw;have hP:=hP.carry hw;have hs97b:=hw.size;have hc97:cs97.length=5∧∀ u∈cs97,u.oneCell'=true:=by
             cases hq:pSh s (lv - 1) at' with
             | none=>rw [hz97 hq];exact ⟨rfl,by simp [zeroL5,Value.oneCell',S]⟩
             | some x=>exact ⟨(hs97 x hq).len,(hs97 x hq).one⟩
           have ht:ShO (AvP base w97 (.slice aP ps.length cP)) w97 cs97 (pSh s (lv - 1) at'):=hs97.mono (fun j hj h=>by
             rcases h with h | h | h
             · show j<_;omega
             · exact hqP j h
             · omega)
           refine L.val (x_mv (v:=_) rfl) rfl ?_;refine L.val (x_ext (v:=_) rfl rfl) rfl ?_;refine L.val (x_ext (v:=.int _ _) rfl rfl) rfl ?_;refine L.val (x_ext (v:=.bool _) rfl rfl) rfl ?_;refine L.alloc (cs:=[Value.int .i64 0,S [],S [],Value.slice none 0 0,Value.slice none 0 0]) kifh_zr41 rfl rfl (fun w19 bx19 hw hz19=>?_);have hB:=hB.carry hw;have bx6:=bx6.carry hw;have bx9:=bx9.carry hw;have bx17:=bx17.carry hw;have hN1:=hN1.carry hw;have hG:=hG.carry hw;have hP:=hP.carry hw;have ht:=ht.carry hw;refine L.setRow kifh_ag41 rfl rfl bx19 rfl hc97.1 hc97.2 (fun wl117 bx19 hw hzl117=>?_);have hsz:=hB.size;have hB:=hB.set hw om_;have bx6:=bx6.carryR hw om_;have bx9:=bx9.carryR hw om_;have bx17:=bx17.carryR hw om_;have hN1:=hN1.carryR hw (fun k e=>by have e:k=_:=e;first | (show k<_;omega) | exact .inl om_ | exact .inr om_);have hG:=hG.carryR hw;have hP:=hP.carryA (A':=AvP base wL87 (.slice aP ps.length cP)) hw (fun j hj e=>by have e:j=_:=e;have h1:=hloP j hj;have h2:=hqP j hj;omega) (fun j e=>by have e:j=_:=e;first | exact .inr (.inr om_) | exact .inl om_) (fun _ h=>h);have ht:=ht.carryR hw (fun j e=>by have e:j=_:=e;first | exact .inr (.inr om_) | exact .inl om_);refine L.val (x_as (v:=.int _ _) rfl) rfl ?_;refine L.val (x_as (v:=.bool _) rfl) rfl ?_;refine L.nil (thn_n (W.seq (W.seq (W.region (L.val (x_mv (v:=.bool _) rfl) rfl ?_)))));refine L.val (x_not rfl) rfl ?_;refine L.nil (thn_n (W.cond (b:=_) rfl (fun g102=>?_) (fun g102=>?_)))
           ·have h102:=(not_t g102);have hnone:pSh s lv a=none:=by
              have hq:pSh s (lv - 1) at'=none:=by
                cases hq:pSh s (lv - 1) at' with
                | none=>rfl
                | some x=>rw [hq] at h102;cases h102
              rw [hE,hM,pMany_fail him hq];rfl
            refine W.seq (W.region (L.val (x_ldn (vs:=_) kifh_ag41 rfl rfl (bx9.row rfl)) rfl ?_));refine L.setRow kifh_ag41 rfl rfl bx6 rfl rfl (by simp [Value.oneCell',S]) (fun wl123 bx6 hw hzl123=>?_);have hsz:=hB.size;have hB:=hB.set hw om_;have bx9:=bx9.carryR hw om_;have bx17:=bx17.carryR hw om_;have hN1:=hN1.carryR hw (fun k e=>by have e:k=_:=e;first | (show k<_;omega) | exact .inl om_ | exact .inr om_);have hG:=hG.carryR hw;have hP:=hP.carryA (A':=AvP base wL87 (.slice aP ps.length cP)) hw (fun j hj e=>by have e:j=_:=e;have h1:=hloP j hj;have h2:=hqP j hj;omega) (fun j e=>by have e:j=_:=e;first | exact .inr (.inr om_) | exact .inl om_) (fun _ h=>h);have ht:=ht.carryR hw (fun j e=>by have e:j=_:=e;first | exact .inr (.inr om_) | exact .inl om_);have bx19:=bx19.carryR hw om_;refine L.val (x_as (v:=.int _ _) rfl) rfl ?_;refine L.val (x_as (v:=.bool _) rfl) rfl ?_;refine L.nil (thn_n (W.ret (thn_r (blk_r (thn_r (thn_r (blk_r (thn_r (finR_mk (.inr rfl) ?_)))))))));exact ⟨_,resSTT (v:=.int .i64 0) (u:=.bool false) rfl kifh_ag41 rfl rfl rfl bx6 rfl,hfail _ hnone hB⟩
           ·have h102:=(not_f g102);obtain ⟨x,hx⟩:=Option.isSome_iff_exists.1 h102;have hM2:=hM;rw [pMany_step him hx] at hM2;have hx2:=pSh_le _ _ _ hx;have ht:ShC (AvP base w97 (.slice aP ps.length cP)) wl117 cs97 x.1:=ht x hx;rw [hx];simp only [Option.map_some,Option.getD_some];obtain ⟨rows,r1,r2,r3,r4⟩:=hP;have hR0:=Gr.refl (fun k=>some k=(Value.slice aP ps.length cP).ownBlock) wl117;refine W.skip (thn_n (W.seq (W.region (L.val (x_fa kifh_fo41_4 rfl) rfl ?_))));refine L.val (x_ld (v:=.slice _ _ _) kifh_oc39 rfl (bx17.cell0 rfl)) rfl ?_;refine L.val (x_ldn (vs:=cs97) kifh_ag41 rfl hc97.1 (bx19.row hc97.1)) rfl ?_;refine L.bs (sz:=5) (cells:=cs97) Tryz.underlying39 kifh_el41 rfl (by show (partsOk 5 0 [(0,Value.agg cs97.toArray)] && decide ([((0:Nat),Value.agg cs97.toArray)].length=1) && decide (0<1) && decide (1 * 5≤16777216))=true;simp [partsOk,hc97.1,Value.cells]) (by show ([((0:Nat),Value.agg cs97.toArray)].map fun x=>x.2.cells.toList).flatten=cs97;simp [Value.cells]) rfl (fun w107 bx107 hw hz107=>?_);have hB:=hB.carry hw;have bx6:=bx6.carry hw;have bx9:=bx9.carry hw;have bx17:=bx17.carry hw;have bx19:=bx19.carry hw;have hN1:=hN1.carry hw;have hG:=hG.carry hw;have ht:=ht.carry hw;have r2:=r2.carry hw;have hR0:=hR0.carry hw;have hs108:=hR0.size;refine L.append (m:=1) Tryz.underlying39 kifh_el41 rfl rfl rfl r2 hc97.1 bx107.news hc97.2 om_ (Nat.le_trans hGL0 om_) (fun v108 w108 hO108 hg hiff108 hob108=>?_);obtain ⟨g108,c108,rfl⟩:=own_form hO108;have hb17o:¬ some b17=(Value.slice aP ps.length cP).ownBlock:=fun e=>by have:=hloP b17 e;omega
            have hav:(Value.slice (some ⟨g108,0,none⟩) (ps.length+1) c108).ownBlock=(Value.slice aP ps.length cP).ownBlock∨∀ k,some k=(Value.slice (some ⟨g108,0,none⟩) (ps.length+1) c108).ownBlock→w107.heap.size≤k:=
              hob108.imp id (fun h k e=>by have e2:=Option.some.inj (e.trans h);omega)
            have hB:=hB.step hg (fun k hk e=>by have:=hloP k e;omega);have bx6:=bx6.carryR hg (fun e=>by have:=hloP _ e;omega);have bx9:=bx9.carryR hg (fun e=>by have:=hloP _ e;omega);have bx17:=bx17.carryR hg (fun e=>by have:=hloP _ e;omega);have hN1:=hN1.carryR hg (fun k e=>.inr (by have:=hloP k e;omega));have hG:=hG.carryR hg;have hsg:=hg.size;have hR1:=hR0.trans hg;have hQ:ShsOwn (AvP base w108 (.slice (some ⟨g108,0,none⟩) (ps.length+1) c108)) w108 base 41 (.slice (some ⟨g108,0,none⟩) (ps.length+1) c108) (ps++[x.1]):=
              ShsOwn.snocA r1 r3 r4 ((ht.carryR hg (fun j e=>.inr (.inl e))).mono (fun j _ h=>avp_step om_ (hav.imp id (fun h k e=>by have:=h k e;omega)) h)) hO108 hR1 (fun j e=>.inr (.inl e)) (fun j h=>avp_step om_ (hav.imp id (fun h k e=>by have:=h k e;omega)) h)
            have hloQ:∀ j,some j=(Value.slice (some ⟨g108,0,none⟩) (ps.length+1) c108).ownBlock→base≤j:=fun j h=>(hQ.lt h).1
            clear hR0 hR1 r2 r4 ht;refine L.val (x_fa kifh_fo41_4 rfl) rfl ?_;refine L.set (v:=.slice _ _ _) kifh_sz39 rfl rfl rfl bx17 rfl (fun wl132 bx17 hw hzl132=>?_);have hsz:=hB.size;have hB:=hB.set hw om_;have bx6:=bx6.carryR hw om_;have bx9:=bx9.carryR hw om_;have hN1:=hN1.carryR hw (fun k e=>by have e:k=_:=e;first | (show k<_;omega) | exact .inl om_ | exact .inr om_);have hG:=hG.carryR hw;have hQ:=hQ.carryA (A':=AvP base w108 (.slice (some ⟨g108,0,none⟩) (ps.length+1) c108)) hw (fun j hj e=>by have e:j=_:=e;have h1:=hloQ j hj;omega) (fun j e=>by have e:j=_:=e;exact .inl om_) (fun _ h=>h);have hP2:=hQ.carryA (A':=AvP base wl132 (.slice (some ⟨g108,0,none⟩) (ps.length+1) c108)) (Gr.refl (fun _=>False) _) (fun _ _ f=>f) (fun _ f=>f.elim) (fun j h=>avp_step om_ (.inl rfl) h);refine L.nil (thn_n (W.region (L.val (x_mv (v:=.int _ _) rfl) rfl ?_)));refine L.val (x_as (v:=.int _ _) rfl) rfl ?_;refine L.nil (blk_n (thn_n (W.region (L.val (x_mv (v:=.int _ _) rfl) rfl ?_))));refine L.val (x_add rfl rfl (wr64 om_)) rfl ?_;refine L.val (x_as (v:=.int _ _) rfl) rfl ?_;refine L.nil (thn_n ⟨rfl,?_⟩);refine ⟨_,?_,i+1,_,_,ps++[x.1],rfl,vi_,vi_,vi_,vi_,vi_,vi_,vi_,vi_,ao_,ao_,ao_,ao_,ao_,ao_,ao_,ao_,(by rw [List.length_append,hpl];rfl),(by exact hM2),(by exact hP2)⟩;omega
          ·have h89:=dlt_f g89;have hii:i=m.1:=by omega
           obtain ⟨xsP,hPo⟩:=hP.own;obtain ⟨aP,cP,rfl,hcP⟩:=own_shape hPo;clear hPo xsP;have hPd:ShsAt (fun k=>k<base) wL87 (.slice aP ps.length cP) ps:=hP.done om_ (fun j h=>.inl h) (fun j h h2=>by have h2:j<base:=h2;omega);rw [hii,Nat.sub_self,pMany,Option.map_some,List.append_nil] at hM;rw [hM,Option.map_some] at hE;dsimp only at hE;refine W.exit (thn_x (thn_x (blk_hit ?_)));refine thn_n (W.seq (W.region (L.val (x_ldn (vs:=_) kifh_ag41 rfl rfl (bx17.row rfl)) rfl ?_)));refine L.val (x_mv (v:=.int _ _) rfl) rfl ?_;refine L.setRow kifh_ag41 rfl rfl bx6 rfl rfl (by simp [Value.oneCell',S]) (fun wl140 bx6 hw hzl140=>?_);have hsz:=hB.size;have hB:=hB.set hw om_;have bx17:=bx17.carryR hw om_;have hN1:=hN1.carryR hw (fun k e=>by have e:k=_:=e;first | (show k<_;omega) | exact .inl om_ | exact .inr om_);have hPd:=hPd.carryR hw (fun k e=>by have e:k=_:=e;show k<_;omega);refine L.val (x_as (v:=.int _ _) rfl) rfl ?_;refine L.val (x_as (v:=.bool _) rfl) rfl ?_;refine L.nil (thn_n (W.ret (finR_mk (.inr rfl) ?_)));refine ⟨_,resSTT (v:=.int .i64 (at':Nat)) (u:=.bool true) rfl kifh_ag41 rfl rfl rfl bx6 rfl,⟨_,by rw [hE];rfl,(fun e=>by rw [hE] at e;cases e),fun x e=>?_⟩,hB⟩;rw [hE] at e;cases e;exact ShC.intro (k:=(k.1:Nat)) (of:=o.1) (nm:=nm.1) (hN1.mono (fun b _ h=>.inl (by have h:b<_:=h;omega))) (hPd.mono (fun b _ h=>by have h:b<_:=h;show b<_;omega)) om_ om_
end Go.Gx
namespace Go.Gx
open Go.Proofs
section
variable {P:Program} {n:Nat} {Q:Post} {D:List Deferred} {E:Env} {w:World}
theorem L.setPart {ops:Array Oper} {r:List Oper} {x y:Operand} {s t:TypeId} {p:String} {af:Array Edge} {b o k:Nat} {T:TypeId} {cs new:List Value} (hs:aggT P s k=true)
    (hx:ev E x=.pointer (some ⟨b,o,none⟩)) (hy:ev E y=.agg new.toArray) (hb:Box w b T cs) (hl:o+k≤cs.length) (hn:new.length=k) (h1:∀ v∈new,v.oneCell'=true)
    (kk:∀ w1,Box w1 b T (cs.take o++new++cs.drop (o+k))→Gr (· = b) w w1→w1.heap.size=w.heap.size→L P n ops Q r D E w1):L P n ops Q (⟨none,.store s x y,t,p,af,none⟩ :: r) D E w:=by
  unfold aggT at hs;simp only [Bool.and_eq_true,beq_iff_eq] at hs;have hst:=run_storeCells_at P b o T new 0 cs.toArray w hb (by simpa [hn] using hl) h1;have hrun:(storeVar s ⟨b,o,none⟩ (.agg new.toArray)).run P w=.ok () (w.setRow b (cs.take o++new++cs.drop (o+k)).toArray):=by
    cases hq:P.info? s with
    | none=>rw [hq] at hs;simp at hs
    | some i=>
      have hi:i.size=k:=by rw [hq] at hs;simpa using hs.2
      simp only [Nat.add_zero,hn] at hst;simp [storeVar,sizeOf,typeInfo,hq,Value.cells,hi,hn,hst]
  refine L.skip (w':=w.setRow b (cs.take o++new++cs.drop (o+k)).toArray) ?_ (kk _ (setRow_heap w b cs.toArray _ T (0,0) hb) ⟨rfl,rfl,rfl,by simp [World.setRow],fun k _ hk=>setRow_other w b k _ hk⟩ (by simp [World.setRow]));unfold Xs;simp only [execOp,hx,hy,Instr.storeAt,Instr.sureAddr,Sem.run_bind,Sem.run_pure,Result.andThen_ok,hrun]
end
end Go.Gx
