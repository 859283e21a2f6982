/- Least shortest ways, and how far the end is, in plain terms. Conditions: none. -/
import Derived.ArgAppend
import Derived.Test.YtigcdmnhmfeioaaGgGrT
import Derived.Test.YtigcdmnhmfeioaaGgRec
import Derived.Test.YtigcdmnhmfeioaaGgMapK
namespace Go.Gx
open Go.Sort
def Wk (E:Str→List Str) (to:Str):Nat→Str→Prop
  | 0,x=>x=to
  | k+1,x=>∃ y∈E x,Wk E to k y
def Dist (E:Str→List Str) (to:Str) (d:Nat) (x:Str):Prop:=Wk E to d x∧∀ j<d,¬ Wk E to j x
open Classical in
noncomputable def wayL (E:Str→List Str) (to:Str):Nat→Str→List Str
  | 0,x=>[x]
  | d+1,x=>match (E x).find? (fun y=>decide (Wk E to d y)) with | some y=>x :: wayL E to d y | none=>[x]
def IsPath (E:Str→List Str) (from_ to:Str) (p:List Str):Prop:=(p=[]∧∀ d,¬ Wk E to d from_)∨∃ d,Dist E to d from_∧p=wayL E to d from_
section
variable {E:Str→List Str} {to from_:Str}
theorem Dist.uniq {d d':Nat} {x:Str} (h:Dist E to d x) (h':Dist E to d' x):d=d':=by
  rcases Nat.lt_trichotomy d d' with e | e | e
  · exact absurd h.1 (h'.2 d e)
  · exact e
  · exact absurd h'.1 (h.2 d' e)
theorem Wk.dist:∀ {d:Nat} {x:Str},Wk E to d x→∃ j≤d,Dist E to j x:=by
  intro d;induction d using Nat.strongRecOn with
  | ind d ih=>
    intro x h;by_cases e:∃ j<d,Wk E to j x
    · obtain ⟨j,h1,h2⟩:=e;obtain ⟨i,h3,h4⟩:=ih j h1 h2;exact ⟨i,by omega,h4⟩
    · exact ⟨d,Nat.le_refl _,h,fun j h1 h2=>e ⟨j,h1,h2⟩⟩
theorem IsPath.uniq {p q:List Str} (h:IsPath E from_ to p) (h':IsPath E from_ to q):p=q:=by
  rcases h with ⟨rfl,h⟩ | ⟨d,h1,rfl⟩
  · rcases h' with ⟨rfl,-⟩ | ⟨d,h1,-⟩
    · rfl
    · exact absurd h1.1 (h d)
  · rcases h' with ⟨-,h⟩ | ⟨d',h2,rfl⟩
    · exact absurd h1.1 (h d)
    · rw [h1.uniq h2]
theorem Dist.next {d:Nat} {x:Str} (h:Dist E to (d+1) x) {y:Str} (hy:y∈E x) (hw:Wk E to d y):Dist E to d y:=
  ⟨hw,fun j hj h2=>h.2 (j+1) om_ ⟨y,hy,h2⟩⟩
structure Bf (E:Str→List Str) (to:Str) (m:List (Str × Int)) (q1 q2:List Str) (L:Nat):Prop where
  pos:∀ x,0≤getI m x
  snd:∀ x (d:Nat),getI m x=(d:Int)+1→Dist E to d x
  v1:∀ x∈q1,getI m x=(L:Int)+1
  v2:∀ x∈q2,getI m x=(L:Int)+2
  all:∀ x d,Dist E to d x→d≤L→1≤getI m x
  cls:∀ y,1≤getI m y→y∉q1→y∉q2→∀ x,y∈E x→1≤getI m x
  top:∀ x,getI m x≤(L:Int)+2
variable {m:List (Str × Int)} {q1 q2:List Str} {L:Nat}
theorem bf0:Bf E to (putI [] to 1) [to] [] 0:=by
  have h:∀ x,getI (putI [] to 1) x=if x=to then 1 else 0:=fun x=>by rw [getI_put,getI_nil]
  refine ⟨fun x=>?_,fun x d hd=>?_,fun x hx=>?_,by simp,fun x d hd h0=>?_,fun y hy h1=>?_,fun x=>?_⟩
  · rw [h];split <;> omega
  · rw [h] at hd;split at hd
    · rename_i e
      have:d=0:=by omega
      subst this;exact ⟨e,fun j hj=>absurd hj om_⟩
    · omega
  · rw [h,if_pos (List.mem_singleton.1 hx)];rfl
  · have:d=0:=by omega
    subst this;have e:x=to:=hd.1;rw [h,if_pos e];omega
  · rw [h] at hy;split at hy
    · rename_i e;rw [e] at h1;simp at h1
    · omega
  · rw [h];split <;> omega
theorem Bf.dist (h:Bf E to m q1 q2 L) {x:Str} (hx:1≤getI m x):∃ d:Nat,getI m x=(d:Int)+1∧Dist E to d x:=
  ⟨(getI m x - 1).toNat,by omega,h.snd x _ om_⟩
theorem Bf.turn (h:Bf E to m [] q2 L):Bf E to m q2 [] (L+1):=by
  refine ⟨h.pos,h.snd,fun x hx=>by have:=h.v2 x hx;omega,by simp,fun x d hd hdl=>?_,fun y hy h1 _=>h.cls y hy (by simp) h1,fun x=>by have:=h.top x;omega⟩;rcases Nat.lt_or_ge L d with hlt | hge
  · obtain ⟨d',rfl⟩:∃ d',d=d'+1:=⟨d - 1,by omega⟩;obtain ⟨y,hy,hw⟩:=hd.1;have hdy:=hd.next hy hw;have h1:=h.all y d' hdy om_;refine h.cls y h1 (by simp) (fun e=>?_) x hy;have h2:=h.v2 y e;obtain ⟨j,h3,h4⟩:=h.dist h1;have:=h4.uniq hdy;omega
  · exact h.all x d hd hge
structure BfS (E:Str→List Str) (to:Str) (m:List (Str × Int)) (n:Str) (ps q1 q2:List Str) (L:Nat):Prop where
  pos:∀ x,0≤getI m x
  snd:∀ x (d:Nat),getI m x=(d:Int)+1→Dist E to d x
  vn:getI m n=(L:Int)+1
  v1:∀ x∈q1,getI m x=(L:Int)+1
  v2:∀ x∈q2,getI m x=(L:Int)+2
  all:∀ x d,Dist E to d x→d≤L→1≤getI m x
  cls:∀ y,1≤getI m y→y≠n→y∉q1→y∉q2→∀ x,y∈E x→1≤getI m x
  done:∀ x∈ps,1≤getI m x
  top:∀ x,getI m x≤(L:Int)+2
theorem Bf.pop {n:Str} (h:Bf E to m (n :: q1) q2 L):BfS E to m n [] q1 q2 L:=
  ⟨h.pos,h.snd,h.v1 n (by simp),fun x hx=>h.v1 x (List.mem_cons_of_mem _ hx),h.v2,h.all,fun y hy hn h1 h2=>h.cls y hy (fun e=>by rcases List.mem_cons.1 e with e | e;exact hn e;exact h1 e) h2,by simp,h.top⟩
theorem BfS.skip {n x:Str} {ps:List Str} (h:BfS E to m n ps q1 q2 L) (hx:¬ getI m x=0):BfS E to m n (ps++[x]) q1 q2 L:=
  ⟨h.pos,h.snd,h.vn,h.v1,h.v2,h.all,h.cls,fun y hy=>by
    rcases List.mem_append.1 hy with hy | hy
    · exact h.done y hy
    · rw [List.mem_singleton.1 hy];have:=h.pos x;omega,h.top⟩
theorem BfS.put {n x:Str} {ps:List Str} (h:BfS E to m n ps q1 q2 L) (hx:getI m x=0) (hn:n∈E x):BfS E to (putI m x (getI m n+1)) n (ps++[x]) q1 (q2++[x]) L:=by
  have hg:∀ y,getI (putI m x (getI m n+1)) y=if y=x then (L:Int)+2 else getI m y:=fun y=>by rw [getI_put,h.vn];split <;> omega
  have hge:∀ y,1≤getI m y→y≠x:=fun y hy e=>by rw [e] at hy;omega
  have hmono:∀ y,1≤getI m y→1≤getI (putI m x (getI m n+1)) y:=fun y hy=>by rw [hg,if_neg (hge y hy)];exact hy
  have hx1:1≤getI (putI m x (getI m n+1)) x:=by rw [hg,if_pos rfl];omega
  have hsame:∀ y,1≤getI m y→getI (putI m x (getI m n+1)) y=getI m y:=fun y hy=>by rw [hg,if_neg (hge y hy)]
  refine ⟨fun y=>?_,fun y d hd=>?_,?_,fun y hy=>?_,fun y hy=>?_,fun y d hd hdl=>hmono y (h.all y d hd hdl),fun y hy h0 h1 h2 z hz=>?_,fun y hy=>?_,fun y=>?_⟩
  · rw [hg];split
    · omega
    · exact h.pos y
  · rw [hg] at hd;split at hd
    · rename_i e
      have e2:d=L+1:=by omega
      rw [e,e2];have hdn:=h.snd n L h.vn;refine ⟨⟨n,hn,hdn.1⟩,fun j hj hw=>?_⟩;obtain ⟨i,hi,hd2⟩:=hw.dist;have:=h.all x i hd2 om_;omega
    · exact h.snd y d hd
  · rw [hsame n (by rw [h.vn];omega),h.vn]
  · have:=h.v1 y hy;rw [hsame y om_,this]
  · rcases List.mem_append.1 hy with hy | hy
    · have:=h.v2 y hy;rw [hsame y om_,this]
    · rw [hg,if_pos (List.mem_singleton.1 hy)]
  · have hyx:y≠x:=fun e=>h2 (by rw [e];simp)
    rw [hg,if_neg hyx] at hy;exact hmono z (h.cls y hy h0 h1 (fun e=>h2 (by simp [e])) z hz)
  · rcases List.mem_append.1 hy with hy | hy
    · exact hmono y (h.done y hy)
    · rw [List.mem_singleton.1 hy];exact hx1
  · rw [hg];split
    · omega
    · exact h.top y
theorem BfS.fin {n:Str} {ps:List Str} (h:BfS E to m n ps q1 q2 L) (hp:∀ x,n∈E x→x∈ps):Bf E to m q1 q2 L:=
  ⟨h.pos,h.snd,h.v1,h.v2,h.all,fun y hy h1 h2 x hx=>by
    by_cases e:y=n
    · rw [e] at hx;exact h.done x (hp x hx)
    · exact h.cls y hy e h1 h2 x hx,h.top⟩
theorem Bf.none (h:Bf E to m [] [] L) {x:Str} (hx:getI m x=0) (hto:1≤getI m to):∀ d,¬ Wk E to d x:=by
  have key:∀ (d:Nat) (x:Str),Wk E to d x→1≤getI m x:=by
    intro d;induction d with
    | zero=>intro x hx;have e:x=to:=hx;rw [e];exact hto
    | succ d ih=>
      rintro x ⟨y,hy,hw⟩;exact h.cls y (ih y hw) (by simp) (by simp) x hy
  intro d hw;have:=key d x hw;omega
theorem Bf.near (h:Bf E to m q1 q2 L) {x y:Str} {d j:Nat} (hx:getI m x=(d:Int)+1) (hy:Dist E to j y) (hj:j<d):getI m y=(j:Int)+1:=by
  have h1:=h.top x;have h2:=h.all y j hy om_;obtain ⟨i,h3,h4⟩:=h.dist h2;rw [h3,h4.uniq hy]
theorem Bf.head (h:Bf E to m q1 q2 L) (hne:q1++q2≠[]):∃ n r1 r2 L',q1++q2=n :: (r1++r2)∧Bf E to m (n :: r1) r2 L':=by
  cases q1 with
  | cons n r=>exact ⟨n,r,q2,L,rfl,h⟩
  | nil=>
    cases q2 with
    | nil=>exact absurd rfl hne
    | cons n r=>exact ⟨n,r,[],L+1,by simp,h.turn⟩
def unK (l:List Str) (m:List (Str × Int)):Nat:=(l.filter fun x=>decide (getI m x=0)).length
theorem unK_le (l:List Str) (m:List (Str × Int)):unK l m≤l.length:=List.length_filter_le _ _
theorem unK_put {l:List Str} {m:List (Str × Int)} {x:Str} {i:Int} (hx:x∈l) (h0:getI m x=0) (hi:i≠0):unK l (putI m x i)+1≤unK l m:=by
  unfold unK;rw [← List.countP_eq_length_filter,← List.countP_eq_length_filter];have key:∀ l:List Str,l.countP (fun y=>decide (getI (putI m x i) y=0))≤l.countP (fun y=>decide (getI m y=0))∧(x∈l→l.countP (fun y=>decide (getI (putI m x i) y=0))+1≤l.countP (fun y=>decide (getI m y=0))):=by
    intro l;induction l with
    | nil=>exact ⟨Nat.le_refl _,fun h=>by cases h⟩
    | cons y l ih=>
      rw [List.countP_cons,List.countP_cons,getI_put];by_cases e:y=x
      · have h1:¬ decide (i=0)=true:=by simpa using hi
        have h2:decide (getI m y=0)=true:=by rw [e,h0];rfl
        rw [if_pos e,if_neg h1,if_pos h2];exact ⟨by omega,fun _=>by omega⟩
      · rw [if_neg e];refine ⟨by omega,fun h=>?_⟩;have:=ih.2 ((List.mem_cons.1 h).resolve_left (fun h=>e h.symm));omega
  exact (key l).2 hx
theorem way_step {d:Nat} {x y:Str} {k:Nat} (hk:k<(E x).length) (hy:y=(E x).getD k []) (hw:Wk E to d y) (hn:∀ j,j<k→¬ Wk E to d ((E x).getD j [])):wayL E to (d+1) x=x :: wayL E to d y:=by
  have hf:(E x).find? (fun y=>@decide (Wk E to d y) (Classical.propDecidable _))=some y:=by
    have hyk:(E x)[k]'hk=y:=by rw [hy,List.getD_eq_getElem?_getD,List.getElem?_eq_getElem hk];rfl
    rw [List.find?_eq_some_iff_getElem];refine ⟨by simpa using hw,k,hk,hyk,fun j hj=>?_⟩;have:=hn j hj;rw [List.getD_eq_getElem?_getD,List.getElem?_eq_getElem om_] at this;simpa using this
  rw [wayL,hf]
end
end Go.Gx
namespace Go.Gx
def QueAt (e:TypeId) (base:Nat) (w:World) (v:Value) (l:List Str):Prop:=
  ∃ b o c cs,v=.slice (some ⟨b,o,none⟩) l.length c∧base≤b∧l.length≤c∧c≤9223372036854775807∧Box w b e cs∧o+c≤cs.length∧∀ i,i<l.length→cs[o+i]? = some (S (l.getD i []))
section
variable {e:TypeId} {base:Nat} {w:World} {v:Value} {l:List Str}
theorem QueAt.carryR {R:Nat→Prop} {w':World} (h:QueAt e base w v l) (g:Gr R w w') (hR:∀ j,some j=v.ownBlock→¬ R j):QueAt e base w' v l:=by
  obtain ⟨b,o,c,cs,rfl,h1,h2,h3,h4,h5,h6⟩:=h;exact ⟨b,o,c,cs,rfl,h1,h2,h3,h4.carryR g (hR b rfl),h5,h6⟩
theorem QueAt.carry {w':World} (h:QueAt e base w v l) (g:Bel w w'):QueAt e base w' v l:=h.carryR g fun _ _ f=>f
theorem QueAt.lt (h:QueAt e base w v l) {j:Nat} (hj:some j=v.ownBlock):base≤j∧j<w.heap.size:=by
  obtain ⟨b,o,c,cs,rfl,h1,-,-,h4,-⟩:=h;have hj:=Option.some.inj hj;rw [hj];exact ⟨h1,h4.lt⟩
theorem QueAt.shape (h:QueAt e base w v l):∃ b o c,v=.slice (some ⟨b,o,none⟩) l.length c∧l.length≤c∧c≤9223372036854775807:=by
  obtain ⟨b,o,c,cs,rfl,-,h2,h3,-⟩:=h;exact ⟨b,o,c,rfl,h2,h3⟩
theorem QueAt.head {b o c:Nat} {x:Str} (h:QueAt e base w (.slice (some ⟨b,o,none⟩) (l.length+1) c) (x :: l)):w.cell? ⟨b,o+0,none⟩=some (S x):=by
  obtain ⟨b',o',c',cs,e,-,-,-,h4,-,h6⟩:=h;cases e;exact h4.cell (h6 0 (by simp))
theorem que_one {b:Nat} {x:Str} (h:Box w b e [S x]) (hb:base≤b):QueAt e base w (.slice (some ⟨b,0,none⟩) 1 1) [x]:=
  ⟨b,0,1,_,rfl,hb,Nat.le_refl _,by omega,h,Nat.le_refl _,fun i hi=>by
    have:i=0:=by simpa using hi
    subst this;rfl⟩
theorem QueAt.tail {b o c:Nat} {x:Str} (h:QueAt e base w (.slice (some ⟨b,o,none⟩) (l.length+1) c) (x :: l)):QueAt e base w (.slice (if c=1 then some ⟨b,o,none⟩ else (some ⟨b,o,none⟩:Option Addr).map (·.add (1 * 1))) (l.length+1 - 1) (c - 1)) l:=by
  obtain ⟨b',o',c',cs,e,h1,h2,h3,h4,h5,h6⟩:=h;cases e;have h2:l.length+1≤c:=h2;by_cases hc:c=1
  · rw [if_pos hc];have h0:l=[]:=List.eq_nil_of_length_eq_zero om_;subst h0;exact ⟨b,o,c - 1,cs,rfl,h1,by simp,by omega,h4,by omega,fun i hi=>absurd hi (by simp)⟩
  · rw [if_neg hc];refine ⟨b,o+1,c - 1,cs,rfl,h1,by omega,by omega,h4,by omega,fun i hi=>?_⟩;have:=h6 (i+1) (by rw [List.length_cons];omega);rw [show o+(i+1)=o+1+i by omega] at this;rw [this];rfl
variable {P:Program} {n:Nat} {Q:Post} {D:List Deferred} {E:Env}
theorem L.appendQ {ops:Array Oper} {r:List Oper} {d g c':Nat} {x y:Operand} {T t:TypeId} {p:String} {af:Array Edge} {s:Str}
    (hu:P.underlying T=some (.slice e)) (he:elT P e 1=true) (hx:ev E x=v) (hy:ev E y=.slice (some ⟨g,0,none⟩) 1 c') (hd:Nat.blt d n=true) (h:QueAt e base w v l) (hbx:Box w g e [S s]) (hk:l.length≤1000000) (hb:base≤w.heap.size)
    (kk:∀ v' w',QueAt e base w' v' (l++[s])→Gr (fun j=>some j=v.ownBlock) w w'→(v'.ownBlock=v.ownBlock∨∀ j,some j=v'.ownBlock→w.heap.size≤j)→L P n ops Q r D (upd E d v') w'):
    L P n ops Q (⟨some d,.call ⟨.builtin .append,#[x,y],#[T,T]⟩,t,p,af,none⟩ :: r) D E w:=by
  obtain ⟨b,o,c,cs,rfl,h1,h2,h3,h4,h5,h6⟩:=h;obtain ⟨i,z,hi,hz,hs,hzs,hpos,hby⟩:=elT_spec he;have hnews:∀ (j:Nat) (u:Value),[S s][j]? = some u→w.cell? ((⟨g,0,none⟩:Addr).add j)=some u:=fun j u hj=>by
    have hj0:j=0:=by
      rcases j with _ | j
      · rfl
      · cases hj
    subst hj0;cases hj;exact hbx.cell (i:=0) rfl
  have holds:∀ (j:Nat) (u:Value),(l.map S)[j]? = some u→w.cell? ((⟨b,o,none⟩:Addr).add j)=some u:=fun j u hj=>by
    rw [List.getElem?_map] at hj;obtain ⟨x,hx,rfl⟩:=Option.map_eq_some_iff.1 hj;have hjl:j<l.length:=(List.getElem?_eq_some_iff.1 hx).1;have h7:=h6 j hjl;rw [List.getD_eq_getElem?_getD,hx] at h7;have h8:w.cell? ⟨b,o+j,none⟩=some (S x):=h4.cell h7;rw [Addr.add_lit];exact h8
  have hone:∀ u∈[S s],u.oneCell'=true:=fun u hu=>by rw [List.mem_singleton.1 hu];rfl
  by_cases hroom:l.length+1≤c
  · have hlt:o+l.length<cs.length:=by omega
    have hrun:=run_append_room_cells (P:=P) w T t e i hu hi b o l.length c ⟨g,0,none⟩ 1 c' [S s] (by rw [hs];rfl) hnews hone hroom (fun j hj=>by
      have hj0:j=0:=by simpa using hj
      subst hj0;rw [hs,Nat.mul_one,Nat.add_zero,h4.cell (List.getElem?_eq_getElem hlt)];rfl) (fun j hj=>h4.free _)
    rw [hs,Nat.mul_one] at hrun;refine L.val (x_append hx hy hrun) hd (kk _ _ ⟨b,o,c,cs.set (o+l.length) (S s),by rw [List.length_append];rfl,h1,by rw [List.length_append];exact hroom,h3,h4.set (o+l.length) (S s),by rw [List.length_set];exact h5,fun j hj=>?_⟩ ((gr_setCells b _ _ _).mono fun k _ e=>by have e:k=b:=e;rw [e];rfl) (.inl rfl));rw [List.length_append,List.length_singleton] at hj;by_cases e1:j=l.length
    · subst e1;rw [List.getElem?_set_self om_,List.getD_eq_getElem?_getD,List.getElem?_append_right (Nat.le_refl _),Nat.sub_self];rfl
    · rw [List.getElem?_set_ne om_,h6 j om_,List.getD_eq_getElem?_getD,List.getD_eq_getElem?_getD,List.getElem?_append_left om_]
  · obtain ⟨v',w',hrun,ho,hg⟩:=run_append_arg_grows (P:=P) w T t e i z 1 i.bytes hu hi hz hs rfl hzs hpos ⟨b,o,none⟩ l.length c (l.map S) (by rw [List.length_map,Nat.mul_one]) holds ⟨g,0,none⟩ 1 c' [S s] rfl hnews om_ (by simp only [maxLen];omega) (by
      have:(l.length+1) * i.bytes≤(l.length+1) * 200:=Nat.mul_le_mul_left _ hby;omega)
    have hgr:=gr_of_grown hg;obtain ⟨hlen,hh⟩:=ho;rcases hh with ⟨-,e0⟩ | ⟨b2,cap,cur,rfl,hbb,hgg,hnc,hcm,hcs,ht⟩
    · omega
    · rw [Nat.mul_one] at hcs ht;refine L.val (x_append hx hy hrun) hd (kk _ _ ⟨b2,0,cap,cur.toList,by rw [List.length_append];rfl,Nat.le_trans hb hbb,by rw [List.length_append];exact hnc,by simp only [maxLen] at hcm;omega,by unfold Box;rw [Array.toArray_toList];exact hgg,by rw [Nat.zero_add,Array.length_toList];omega,fun j hj=>?_⟩ (hgr.mono fun k _ e=>by cases e) (.inr fun j hj=>by have hj:=Option.some.inj hj;rw [hj];exact hbb));rw [List.length_append,List.length_singleton] at hj;have h7:(cur.toList.take (l.length+1))[j]? = (l.map S++[S s])[j]? := by rw [ht]
      rw [List.getElem?_take_of_lt hj] at h7;rw [Nat.zero_add,h7,show l.map S++[S s]=(l++[s]).map S by rw [List.map_append];rfl,List.getElem?_map,List.getD_eq_getElem?_getD,List.getElem?_eq_getElem (by rw [List.length_append];exact hj)];rfl
end
end Go.Gx
