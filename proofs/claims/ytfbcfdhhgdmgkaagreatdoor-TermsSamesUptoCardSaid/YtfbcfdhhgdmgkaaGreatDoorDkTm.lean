/- Expressions as trees: the cells that hold them, and plain functions over them. Conditions: none. -/
import Derived.Test.YtfbcfdhhgdmgkaaGreatDoorDkSeq
import Derived.Test.YtfbcfdhhgdmgkaaGreatDoorDkSh
import Derived.Test.YtfbcfdhhgdmgkaaGreatDoorDkRep
namespace Go.Gx
open Go.Proofs
inductive Tm where
  | mk (kind:Int) (of name:Str) (n:Int) (names vars:List Str) (shapes:List Sh) (parts:List Tm) (place:Int)
instance:Inhabited Tm:=⟨.mk 0 [] [] 0 [] [] [] [] 0⟩
namespace Tm
def kind:Tm→Int | .mk k _ _ _ _ _ _ _ _=>k
def of:Tm→Str | .mk _ o _ _ _ _ _ _ _=>o
def name:Tm→Str | .mk _ _ n _ _ _ _ _ _=>n
def n:Tm→Int | .mk _ _ _ n _ _ _ _ _=>n
def names:Tm→List Str | .mk _ _ _ _ l _ _ _ _=>l
def vars:Tm→List Str | .mk _ _ _ _ _ l _ _ _=>l
def shapes:Tm→List Sh | .mk _ _ _ _ _ _ l _ _=>l
def parts:Tm→List Tm | .mk _ _ _ _ _ _ _ l _=>l
def place:Tm→Int | .mk _ _ _ _ _ _ _ _ a=>a
theorem part_lt {s:Tm} {i:Nat} (h:i<s.parts.length):SizeOf.sizeOf (s.parts.getD i default)<SizeOf.sizeOf s:=by
  rw [List.getD_eq_getElem?_getD,List.getElem?_eq_getElem h,Option.getD_some];cases s with
  | mk k o n j l v ss ps a=>
    have:=List.sizeOf_lt_of_mem (List.getElem_mem (l:=ps) h);simp only [parts] at *;simp only [mk.sizeOf_spec];omega
end Tm
theorem strs_move {A A':Nat→Prop} {w w':World} (hc:∀ (a:Addr) v,¬ A a.block→w.cell? a=some v→w'.cell? a=some v∧¬ A' a.block) {v:Value} {l:List Str} (hn:StrsAt A w v l):StrsAt A' w' v l:=by
  obtain ⟨p',cap',hv,g1,g2,g3,gx,g4⟩:=hn;refine ⟨p',cap',hv,g1,g2,g3,gx,fun hne=>?_⟩;obtain ⟨b,o,e,hA,hcell⟩:=g4 hne;refine ⟨b,o,e,?_,fun i hi=>(hc _ _ hA (hcell i hi)).1⟩;cases l with
  | nil=>exact absurd rfl hne
  | cons x l=>exact (hc _ _ hA (hcell 0 (by simp))).2
theorem strs_one {A:Nat→Prop} {w:World} {v:Value} {l:List Str} (h:StrsAt A w v l):v.oneCell'=true:=by obtain ⟨_,_,rfl,-⟩:=h;rfl
theorem shs_one {A:Nat→Prop} {w:World} {v:Value} {l:List Sh} (h:ShsAt A w v l):v.oneCell'=true:=by obtain ⟨_,_,_,rfl,-⟩:=h;rfl
inductive TmC (A:Nat→Prop) (w:World):List Value→Tm→Prop
  | mk {k:Int} {of nm:Str} {n:Int} {names vars:List Str} {shapes:List Sh} {parts:List Tm} {at_:Int} {vn vv vs:Value} {p:Option Addr} {cap:Nat} (row:Nat→List Value)
      (hn:StrsAt A w vn names) (hv:StrsAt A w vv vars) (hsh:ShsAt A w vs shapes) (ho:of.length≤9223372036854775807) (hm:nm.length≤140737488351232) (hi:-9223372036854775808≤n∧n≤9223372036854775807)
      (h1:parts.length≤cap) (h2:cap≤9223372036854775807) (h3:parts.length≤70368744177664)
      (hp:parts≠[]→∃ b o,p=some ⟨b,o,none⟩∧¬ A b∧∀ i j,i<parts.length→j<9→w.cell? ⟨b,o+i * 9+j,none⟩=(row i)[j]?)
      (hl:∀ i,i<parts.length→(row i).length=9)
      (hs:∀ i,i<parts.length→TmC A w (row i) (parts.getD i default)):
      TmC A w [.int .i64 k,S of,S nm,.int .i64 n,vn,vv,vs,.slice p parts.length cap,.int .i64 at_] (.mk k of nm n names vars shapes parts at_)
section
variable {A A':Nat→Prop} {w w':World} {cs:List Value} {s:Tm}
theorem TmC.inv (h:TmC A w cs s):∃ vn vv vs vp,cs=[.int .i64 s.kind,S s.of,S s.name,.int .i64 s.n,vn,vv,vs,vp,.int .i64 s.place]∧StrsAt A w vn s.names∧StrsAt A w vv s.vars∧ShsAt A w vs s.shapes∧RecsAt TmC 9 A w vp s.parts∧
    s.of.length≤9223372036854775807∧s.name.length≤140737488351232∧(-9223372036854775808≤s.n∧s.n≤9223372036854775807):=by
  cases h with
  | mk row hn hv hsh ho hm hi h1 h2 h3 hp hl hs=>exact ⟨_,_,_,_,rfl,hn,hv,hsh,⟨_,_,row,rfl,h1,h2,h3,⟨hp,hl,hs⟩⟩,ho,hm,hi⟩
theorem TmC.intro {k:Int} {of nm:Str} {n:Int} {names vars:List Str} {shapes:List Sh} {parts:List Tm} {at_:Int} {vn vv vs vp:Value} (hn:StrsAt A w vn names) (hv:StrsAt A w vv vars) (hsh:ShsAt A w vs shapes) (hp:RecsAt TmC 9 A w vp parts)
    (ho:of.length≤9223372036854775807) (hm:nm.length≤140737488351232) (hi:-9223372036854775808≤n∧n≤9223372036854775807):
    TmC A w [.int .i64 k,S of,S nm,.int .i64 n,vn,vv,vs,vp,.int .i64 at_] (.mk k of nm n names vars shapes parts at_):=by
  obtain ⟨p,cap,row,rfl,h1,h2,h3,⟨hp,hl,hs⟩⟩:=hp;exact .mk row hn hv hsh ho hm hi h1 h2 h3 hp hl hs
theorem TmC.move (hc:∀ (a:Addr) v,¬ A a.block→w.cell? a=some v→w'.cell? a=some v∧¬ A' a.block) (h:TmC A w cs s):TmC A' w' cs s:=by
  induction h with
  | mk row hn hv hsh ho hm hi h1 h2 h3 hp hl hs ih=>
    rename_i k of nm n names vars shapes parts at_ vn vv vs p cap
    refine .mk row (strs_move hc hn) (strs_move hc hv) (hsh.move hc) ho hm hi h1 h2 h3 (fun hne=>?_) hl ih;obtain ⟨b,o,e,hA,hcell⟩:=hp hne;have h5:∀ i j,i<parts.length→j<9→∃ v,(row i)[j]? = some v:=fun i j hi hj=>⟨_,List.getElem?_eq_getElem (by rw [hl i hi];exact hj)⟩
    refine ⟨b,o,e,?_,fun i j hi hj=>?_⟩
    · cases parts with
      | nil=>exact absurd rfl hne
      | cons x l=>
        obtain ⟨v,hv⟩:=h5 0 0 (by simp) om_;exact (hc ⟨b,o+0 * 9+0,none⟩ v hA (by rw [hcell 0 0 (by simp) om_,hv])).2
    · obtain ⟨v,hv⟩:=h5 i j hi hj;rw [hv];exact (hc _ v hA (by rw [hcell i j hi hj,hv])).1
theorem TmC.len (h:TmC A w cs s):cs.length=9:=by cases h;rfl
theorem TmC.one (h:TmC A w cs s):∀ v∈cs,v.oneCell'=true:=by
  obtain ⟨vn,vv,vs,vp,rfl,h1,h2,h3,h4,-⟩:=h.inv;intro v hv;simp only [List.mem_cons,List.not_mem_nil,or_false] at hv;rcases hv with rfl | rfl | rfl | rfl | rfl | rfl | rfl | rfl | rfl
  · rfl
  · rfl
  · rfl
  · rfl
  · exact strs_one h1
  · exact strs_one h2
  · exact shs_one h3
  · exact h4.one
  · rfl
instance car_tm:Car TmC 9 where
  pos:=by decide
  len:=TmC.len
  one:=TmC.one
  move:=TmC.move
theorem TmC.carryR {R:Nat→Prop} (h:TmC A w cs s) (g:Gr R w w') (hR:∀ j,R j→A j):TmC A w' cs s:=Car.carryR h g hR
theorem TmC.carry (h:TmC A w cs s) (g:Bel w w'):TmC A w' cs s:=Car.carry h g
theorem TmC.mono (h:TmC A w cs s) (hA:∀ b,b<w.heap.size→A' b→A b):TmC A' w cs s:=Car.mono h hA
theorem TmC.up (h:TmC A w cs s):TmC (fun j=>A j∨w.heap.size≤j) w cs s:=Car.up h
end
mutual
def Tm.size:Tm→Nat | .mk _ _ _ _ _ _ _ ps _=>1+tsizeL ps
def tsizeL:List Tm→Nat | []=>0 | p :: ps=>p.size+tsizeL ps
end
mutual
def Tm.deep:Tm→Nat | .mk _ _ _ _ _ _ _ ps _=>1+tdeepL ps
def tdeepL:List Tm→Nat | []=>0 | p :: ps=>max p.deep (tdeepL ps)
end
mutual
def Tm.allB (f:Tm→Bool):Tm→Bool | .mk k o m n l v ss ps a=>f (.mk k o m n l v ss ps a) && tallL f ps
def tallL (f:Tm→Bool):List Tm→Bool | []=>true | x :: xs=>x.allB f && tallL f xs
end
theorem Tm.size_eq (s:Tm):s.size=1+tsizeL s.parts:=by cases s;rw [Tm.size];rfl
theorem Tm.deep_eq (s:Tm):s.deep=1+tdeepL s.parts:=by cases s;rw [Tm.deep];rfl
theorem Tm.allB_eq (f:Tm→Bool) (s:Tm):s.allB f=(f s && tallL f s.parts):=by cases s;rw [Tm.allB];rfl
theorem tsizeL_take {l:List Tm} {k:Nat} (hk:k<l.length):tsizeL (l.take (k+1))=tsizeL (l.take k)+(l.getD k default).size:=by
  induction l generalizing k with
  | nil=>simp at hk
  | cons x l ih=>
    cases k with
    | zero=>simp [tsizeL]
    | succ k=>have:=ih (k:=k) (by simpa using hk);simp only [List.take_succ_cons,tsizeL,this,List.getD_cons_succ];omega
theorem tsizeL_le {l:List Tm} {k:Nat}:tsizeL (l.take k)≤tsizeL l:=by
  induction l generalizing k with
  | nil=>simp
  | cons x l ih=>cases k with
    | zero=>simp [tsizeL]
    | succ k=>have:=ih (k:=k);simp only [List.take_succ_cons,tsizeL];omega
theorem tdeepL_take {l:List Tm} {k:Nat} (hk:k<l.length):tdeepL (l.take (k+1))=max (tdeepL (l.take k)) (l.getD k default).deep:=by
  induction l generalizing k with
  | nil=>simp at hk
  | cons x l ih=>
    cases k with
    | zero=>simp [tdeepL]
    | succ k=>have:=ih (k:=k) (by simpa using hk);simp only [List.take_succ_cons,tdeepL,this,List.getD_cons_succ];omega
mutual
theorem Tm.deep_le:∀ s:Tm,s.deep≤s.size
  | .mk _ _ _ _ _ _ _ ps _=>by have:=tdeepL_le ps;simp only [Tm.deep,Tm.size];omega
theorem tdeepL_le:∀ l:List Tm,tdeepL l≤tsizeL l
  | []=>Nat.le_refl _
  | p :: ps=>by have:=Tm.deep_le p;have:=tdeepL_le ps;simp only [tdeepL,tsizeL];omega
end
theorem Tm.part_size {s:Tm} {i:Nat} (h:i<s.parts.length):(s.parts.getD i default).size<s.size:=by
  rw [Tm.size_eq s];have h1:=tsizeL_take h;have h2:=tsizeL_le (l:=s.parts) (k:=i+1);omega
theorem tlength_le:∀ l:List Tm,l.length≤tsizeL l
  | []=>Nat.zero_le _
  | p :: ps=>by
    have:=tlength_le ps;have h:1≤p.size:=by cases p;simp only [Tm.size];omega
    simp only [List.length_cons,tsizeL];omega
theorem Tm.parts_le (s:Tm):s.parts.length≤s.size:=by
  have:=tlength_le s.parts;rw [Tm.size_eq];omega
theorem tallL_all {f:Tm→Bool}:∀ l:List Tm,tallL f l=l.all fun x=>x.allB f
  | []=>by rw [tallL];rfl
  | x :: l=>by rw [tallL,tallL_all l];rfl
theorem tallL_miss {f:Tm→Bool} {l:List Tm} {k:Nat} (hk:k<l.length) (h:(l.getD k default).allB f=false):tallL f l=false:=by
  rw [tallL_all,List.all_eq_false];refine ⟨_,List.getElem_mem hk,?_⟩;rw [List.getD_eq_getElem?_getD,List.getElem?_eq_getElem hk] at h;have h:(l[k]).allB f=false:=h;rw [h];simp
theorem tallL_take {f:Tm→Bool} {l:List Tm} {k:Nat} (hk:k<l.length):tallL f (l.take (k+1))=(tallL f (l.take k) && (l.getD k default).allB f):=by
  rw [tallL_all,tallL_all,List.take_succ_eq_append_getElem hk,List.all_append,List.getD_eq_getElem?_getD,List.getElem?_eq_getElem hk];simp
theorem Tm.ext {a b:Tm} (h1:a.kind=b.kind) (h2:a.of=b.of) (h3:a.name=b.name) (h4:a.n=b.n) (h5:a.names=b.names) (h6:a.vars=b.vars) (h7:a.shapes=b.shapes) (h8:a.parts=b.parts) (h9:a.place=b.place):a=b:=by
  cases a;cases b;simp only [Tm.kind,Tm.of,Tm.name,Tm.n,Tm.names,Tm.vars,Tm.shapes,Tm.parts,Tm.place] at *;subst h1 h2 h3 h4 h5 h6 h7 h8 h9;rfl
mutual
def Tm.bare:Tm→Tm | .mk k o m n l v ss ps _=>.mk k o m n l v ss (tbareL ps) 0
def tbareL:List Tm→List Tm | []=>[] | x :: xs=>x.bare :: tbareL xs
end
theorem tbareL_map:∀ l:List Tm,tbareL l=l.map Tm.bare
  | []=>by rw [tbareL];rfl
  | x :: l=>by rw [tbareL,tbareL_map l];rfl
theorem Tm.bare_eq (s:Tm):s.bare=.mk s.kind s.of s.name s.n s.names s.vars s.shapes (s.parts.map Tm.bare) 0:=by
  cases s;rw [Tm.bare,tbareL_map];rfl
end Go.Gx
namespace Go.Gx
open Go.ChangeShapes Go.WideShapes Go.Deep Go.RowKit
section
variable {H:Type} {enc:TypeId × Value→H} {P:Program} {w:World} {base:Nat} {spare:Nat→Bool} {held:Bool}
structure TmT (P:Program) (tT tS eN:TypeId) (g0 g1 g2 g3 g4 g5 g6 g7 g8:Field):Prop where
  hS:P.underlying tT=some (.struct #[g0,g1,g2,g3,g4,g5,g6,g7,g8])
  h0:P.underlying g0.type=some (.int .i64)
  h1:P.underlying g1.type=some .string
  h2:P.underlying g2.type=some .string
  h3:P.underlying g3.type=some (.int .i64)
  h4:P.underlying g4.type=some (.slice eN)
  h5:P.underlying g5.type=some (.slice eN)
  h6:P.underlying g6.type=some (.slice tS)
  h7:P.underlying g7.type=some (.slice tT)
  h8:P.underlying g8.type=some (.int .i64)
  hN:P.underlying eN=some .string
  o:g0.offset=0∧g1.offset=1∧g2.offset=2∧g3.offset=3∧g4.offset=4∧g5.offset=5∧g6.offset=6∧g7.offset=7∧g8.offset=8
  c:P.cellsOf g0.type=1∧P.cellsOf g1.type=1∧P.cellsOf g2.type=1∧P.cellsOf g3.type=1∧P.cellsOf g4.type=1∧P.cellsOf g5.type=1∧P.cellsOf g6.type=1∧P.cellsOf g7.type=1∧P.cellsOf g8.type=1
  cT:P.cellsOf tT=9
  cN:P.cellsOf eN=1
  bT:2≤P.bytesOf tT
  bN:2≤P.bytesOf eN
theorem shs_open {tL tS eN:TypeId} {f0 f1 f2 f3 f4:Field} (hL:P.underlying tL=some (.slice tS)) (T:ShT P tS eN f0 f1 f2 f3 f4) {fuel:Nat} {v:Value} {x:DataW H × List MemPlace}
    (h:DataW.trod enc P w base spare held fuel tL [v]=some x) (hw:(x.1.weights P tL).all (· ≤ reachBytes)=true):∃ l,ShsAt (fun _=>False) w v l:=by
  rcases DataW.trod_slice hL (x:=x) h with ⟨h1,rfl⟩ | ⟨a,len,cap,elems,rest,n',hn',h1,rfl,-,hl,hm,hel,hx,-,-⟩
  · simp at h1;exact ⟨[],h1 ▸ ShsAt.nil _ _ _ _ (by simp)⟩
  · simp at h1;subst h1;obtain ⟨hby,hwd⟩:=weights_slice hL hw;have hlen:len≤70368744177664:=by
      have h1:len * P.bytesOf tS≤reachBytes:=Nat.le_trans (Nat.mul_le_mul_right _ (by simp [hel])) hby;have h2:len * 2≤len * P.bytesOf tS:=Nat.mul_le_mul_left _ T.bS;have h3:=reachBytes_lt;omega
    have each:∀ i,i<len→∃ p:List Value × Sh,p.1.length=5∧(∀ j,j<5→w.cell? ((a.add (i * 5)).add j)=p.1[j]?)∧ShC (fun _=>False) w p.1 p.2:=fun i hi=>by
      have h0:=hx i hi;rw [List.getElem?_eq_getElem om_] at h0;obtain ⟨cs',h1,h2⟩:=Option.bind_eq_some_iff.1 h0;rw [T.cS] at h1;obtain ⟨-,h3,h4⟩:=World.cells?_some h1;obtain ⟨s,hs⟩:=sh_open T n' cs' _ h2 (hwd _ (List.mem_map_of_mem (List.getElem_mem _)));exact ⟨(cs',s),h3,h4,hs⟩
    obtain ⟨F,hF⟩:=choose_lt (α := List Value × Sh) each;have e0:((List.range len).map fun i=>(F i).2).length=len:=by simp
    refine ⟨(List.range len).map fun i=>(F i).2,some a,cap,fun i=>(F i).1,by rw [e0],by rw [e0];exact hl,hm,by rw [e0];exact hlen,?_⟩;refine ⟨fun hne=>?_,fun i hi=>(hF i (by rw [e0] at hi;exact hi)).1,fun i hi=>?_⟩
    · have h0:0<len:=by rcases Nat.eq_zero_or_pos len with h | h;exact absurd (by rw [h];rfl) hne;exact h
      obtain ⟨q1,q2,-⟩:=hF 0 h0;have hc0:=q2 0 om_;rw [List.getElem?_eq_getElem om_] at hc0;obtain ⟨b,o,spot⟩:=a;have hspot:spot=none:=by simpa [Addr.add] using World.cell?_spot hc0
      subst hspot;refine ⟨b,o,rfl,fun f=>f,fun i j hi hj=>?_⟩;rw [e0] at hi;have:=(hF i hi).2.1 j hj;rw [add_plain,add_plain] at this;exact this
    · rw [e0] at hi;have:=(hF i hi).2.2;simpa [hi] using this
theorem i64_wf {n:Int} (h:(Lit.int .i64 n).wf=true):-9223372036854775808≤n∧n≤9223372036854775807:=by
  have h:(decide (IntKind.min .i64≤n) && decide (n≤IntKind.max .i64))=true:=h;rw [Bool.and_eq_true] at h;exact ⟨of_decide_eq_true h.1,of_decide_eq_true h.2⟩
theorem name_le {t:TypeId} {s:ByteArray} (h:((DataW.lit (.string s.data.toList):DataW H).weights P t).all (· ≤ reachBytes)=true):s.data.toList.length≤140737488351232:=by
  simp [DataW.weights] at h;have e:reachBytes=140737488351232:=rfl;have h1:s.data.toList.length=s.data.size:=Array.length_toList;have h2:s.data.size=s.size:=rfl;omega
end
end Go.Gx
namespace Go.Gx
open Go.Proofs
theorem ktm1_ag26:aggT Tryz.prog 26 9=true:=by kernel_rfl
theorem ktm1_en11:Go.Proofs.Enters Tryz.prog 11:=Go.Proofs.enters_of Tryz.func11 kr_ rfl
theorem ktm1_en19:Go.Proofs.Enters Tryz.prog 19:=Go.Proofs.enters_of Tryz.func19 kr_ rfl
theorem ktm1_en21:Go.Proofs.Enters Tryz.prog 21:=Go.Proofs.enters_of Tryz.func21 kr_ rfl
theorem ktm1_fo26_7:fieldOff Tryz.prog 26 7=some 7:=by kernel_rfl
theorem ktm1_oc24:oneCellT Tryz.prog 24=true:=by kernel_rfl
theorem ktm1_sz26:(Tryz.prog.info? 26).map (·.size)=some 9:=by kernel_rfl
theorem ktm1_zr26:(Tryz.prog.info? 26).bind (·.zero)=some (Value.agg [Value.int .i64 0,S [],S [],Value.int .i64 0,Value.slice none 0 0,Value.slice none 0 0,Value.slice none 0 0,Value.slice none 0 0,Value.int .i64 0].toArray):=by kernel_rfl
theorem tcount_ok:∀ (N:Nat) (s:Tm),SizeOf.sizeOf s<N→∀ (A0:Nat→Prop) (cs:List Value) (m:Int) (w:World),0≤m→m≤1000000→TmC A0 w cs s→
    Ret Tryz.prog 19 #[.agg cs.toArray,.int .i64 m] w fun v w'=>(∃ b:Nat,v=.tuple #[.int .i64 (min (s.size:Int) (m+1)),.int .i64 b]∧(b:Int)≤min (s.size:Int) (m+1)∧((s.size:Int)≤m→b=s.deep))∧Bel w w':=by
  intro N;induction N with
  | zero=>intro s h;omega
  | succ N ih=>
    intro s hN A0 cs m w hm0 hm1 hs0;obtain ⟨A,hs,hU⟩:∃ A:Nat→Prop,TmC A w cs s∧(∀ k,w.heap.size≤k→A k):=⟨_,Car.up hs0,fun _=>.inr⟩;clear hs0;obtain ⟨vn,vv,vh,vp,rfl,hn,hv,hsh,hp,hof,hnm,hi⟩:=hs.inv;obtain ⟨p,cap,row,rfl,p1,p2,p3,hr⟩:=hp;have hsz:=s.size_eq;have ht0:tsizeL (s.parts.take 0)=0:=by rw [List.take_zero,tsizeL]
    have hdp:=s.deep_eq;refine ret_of_W Tryz.func19 rfl (Nat.le_of_ble_eq_true rfl) (res2 rfl) ?_;have hB:=Gr.refl (fun _=>False) w;refine W.seq (W.region (L.box (cs:=_) rfl rfl (fun w2 bx2 hw hz2=>?_)));have hB:=hB.carry hw;have hr:=hr.carry hw;refine L.val (x_as (v:=.int _ _) rfl) rfl ?_;refine L.val (x_as (v:=.int _ _) rfl) rfl ?_;refine L.nil (thn_n (W.seq (W.region (L.val (x_as (v:=.int _ _) rfl) rfl ?_))));refine L.val (x_as (v:=.int _ _) rfl) rfl ?_;refine L.nil (thn_n (W.seq (W.seq (W.region (L.val (x_fa ktm1_fo26_7 rfl) rfl ?_)))));refine L.val (x_ld (v:=.slice _ _ _) ktm1_oc24 rfl (bx2.cell0 rfl)) rfl ?_;refine L.val (x_len_slice Tryz.underlying24 rfl) rfl ?_;refine L.val (x_mv (v:=.int _ _) rfl) rfl ?_;refine L.nil (thn_n (W.block (W.loop (fun m' E w'=>∃ (k d:Nat),m'=s.parts.length - k∧E 1=.int .i64 m∧E 6=.int .i64 (min (1+tsizeL (s.parts.take k):Nat) (m+1))∧E 7=.int .i64 (d:Nat)∧E 13=.slice p s.parts.length cap∧E 14=.int .i64 (s.parts.length:Nat)∧E 15=.int .i64 (k:Nat)∧(Bel w w')∧(RecRow TmC 9 A w' p row s.parts)∧(k≤s.parts.length)∧(((1+tsizeL (s.parts.take k):Nat):Int)≤m→d=tdeepL (s.parts.take k))∧((d:Int)+1≤min ((1+tsizeL (s.parts.take k):Nat):Int) (m+1))) (s.parts.length) ?_ ?_)))
    ·exact ⟨0,0,by omega,vi_,vi_,vi_,vi_,vi_,vi_,ao_,ao_,ao_,(by intro _;rfl),(by show ((0:Nat):Int)+1≤min (1:Int) (m+1);omega)⟩
    ·rintro _ E wL16 ⟨k,d,em,e1,e6,e7,e13,e14,e15,hB,hr,hk,hd,hd1⟩;rw [upd_self e1,upd_self e6,upd_self e7,upd_self e13,upd_self e14,upd_self e15];refine W.seq (W.region (L.val (x_lss rfl rfl) rfl ?_));refine L.nil (thn_n (W.seq (W.cond (b:=_) rfl (fun g16=>?_) (fun g16=>?_))))
     ·have h16:=of_decide_eq_true g16;have hlt:k<s.parts.length:=by omega
      obtain ⟨b,o,rfl,-,hc⟩:=hr.elem hlt;have hts:=tsizeL_take hlt;have hsl:=tsizeL_le (l:=s.parts) (k:=k+1);have hdt:=tdeepL_take hlt;have hdl:=tdeepL_le (s.parts.take k);have hs16:=hB.size;refine W.skip (thn_n (W.seq (W.block (W.seq (W.region (L.val (x_ia (j:=k) Tryz.underlying24 ktm1_sz26 rfl rfl om_ om_) rfl ?_))))));refine L.val (x_ldn (vs:=row k) ktm1_ag26 rfl (hr.len k hlt) hc) rfl ?_;refine L.alloc (cs:=[Value.int .i64 0,S [],S [],Value.int .i64 0,Value.slice none 0 0,Value.slice none 0 0,Value.slice none 0 0,Value.slice none 0 0,Value.int .i64 0]) ktm1_zr26 rfl rfl (fun w9 bx9 hw hz9=>?_);have hB:=hB.carry hw;have hr:=hr.carry hw;refine L.setRow ktm1_ag26 rfl rfl bx9 rfl (hr.len k hlt) (Car.one (hr.each k hlt)) (fun wl14 bx9 hw hzl14=>?_);have hsz:=hB.size;have hB:=hB.set hw om_;have hr:=hr.carryR hw (fun k e=>hU k (by have:k=_:=e;omega));refine L.nil (thn_n (W.seq (W.seq (W.region (L.val (x_mv (v:=.int _ _) rfl) rfl ?_)))));refine L.val (x_mv (v:=.int _ _) rfl) rfl ?_;refine L.val (x_gtr rfl rfl) rfl ?_;refine L.nil (thn_n (W.cond (b:=_) rfl (fun g21=>?_) (fun g21=>?_)))
      ·have h21:=of_decide_eq_true g21;have hmin:min (s.size:Int) (m+1)=min ((1+tsizeL (s.parts.take k):Nat):Int) (m+1):=by omega
       refine W.exit (thn_x (blk_miss rfl (thn_x (thn_x (blk_hit ?_)))));refine thn_n (W.seq (W.region (L.val (x_mv (v:=.int _ _) rfl) rfl ?_)));refine L.val (x_mv (v:=.int _ _) rfl) rfl ?_;refine L.val (x_add rfl rfl (wr64 om_)) rfl ?_;refine L.val (x_as (v:=.int _ _) rfl) rfl ?_;refine L.val (x_as (v:=.int _ _) rfl) rfl ?_;refine L.nil (thn_n (W.ret (fin_mk (.inr rfl) ?_)));refine ⟨⟨d+1,by rw [hmin];rfl,by omega,by omega⟩,hB⟩
      ·have h21:=dlt_f g21;refine W.skip (thn_n (W.seq (W.region (L.val (x_ldn (vs:=row k) ktm1_ag26 rfl (hr.len k hlt) (bx9.row (hr.len k hlt))) rfl ?_))));refine L.val (x_mv (v:=.int _ _) rfl) rfl ?_;refine L.val (x_mv (v:=.int _ _) rfl) rfl ?_;refine L.val (x_sub rfl rfl (wr64 om_)) rfl ?_;refine L.ret (x_call ktm1_en19 rfl) rfl (ih _ (by have:=Tm.part_lt hlt;omega) A _ _ _ om_ om_ (hr.each k hlt)) ?_;rintro _ w27 ⟨⟨b27,rfl,hb1,hb2⟩,hw⟩;have hB:=hB.carry hw;have hr:=hr.carry hw;have bx9:=bx9.carry hw;refine L.val (x_mv (v:=_) rfl) rfl ?_;refine L.val (x_ext (v:=.int _ _) rfl rfl) rfl ?_;refine L.val (x_ext (v:=.int _ _) rfl rfl) rfl ?_;refine L.val (x_as (v:=.int _ _) rfl) rfl ?_;refine L.val (x_as (v:=.int _ _) rfl) rfl ?_;refine L.nil (thn_n (W.region (L.val (x_mv (v:=.int _ _) rfl) rfl ?_)));refine L.val (x_mv (v:=.int _ _) rfl) rfl ?_;refine L.val (x_add rfl rfl (wr64 om_)) rfl ?_;refine L.val (x_mv (v:=.int _ _) rfl) rfl ?_;refine L.val (x_mv (v:=.int _ _) rfl) rfl ?_;refine L.val (x_max rfl rfl) rfl ?_;refine L.val (x_as (v:=.int _ _) rfl) rfl ?_;refine L.val (x_as (v:=.int _ _) rfl) rfl ?_;refine L.nil (blk_n (thn_n (W.region (L.val (x_add rfl rfl (wr64 om_)) rfl ?_))));refine L.val (x_mv (v:=.int _ _) rfl) rfl ?_;refine L.nil (thn_n ⟨rfl,?_⟩);refine ⟨_,?_,k+1,max d b27,rfl,vi_,vi_,vi_,vi_,vi_,vi_,ao_,ao_,ao_,(by intro hh;have q1:=hd om_;have q2:=hb2 om_;rw [hdt,← q1,← q2]),om_⟩;omega
     ·have h16:=dlt_f g16;have hkk:k=s.parts.length:=by omega
      have hmin:min (s.size:Int) (m+1)=min ((1+tsizeL (s.parts.take k):Nat):Int) (m+1):=by rw [hkk,List.take_length];omega
      have hdd:s.deep=1+tdeepL (s.parts.take k):=by rw [hkk,List.take_length];omega
      refine W.exit (thn_x (thn_x (blk_hit ?_)));refine thn_n (W.seq (W.region (L.val (x_mv (v:=.int _ _) rfl) rfl ?_)));refine L.val (x_mv (v:=.int _ _) rfl) rfl ?_;refine L.val (x_add rfl rfl (wr64 om_)) rfl ?_;refine L.val (x_as (v:=.int _ _) rfl) rfl ?_;refine L.val (x_as (v:=.int _ _) rfl) rfl ?_;refine L.nil (thn_n (W.ret (fin_mk (.inr rfl) ?_)));refine ⟨⟨d+1,by rw [hmin];rfl,by omega,by omega⟩,hB⟩
theorem tsize_ok (A0:Nat→Prop) (s:Tm) (cs:List Value) (w:World) (hs:TmC A0 w cs s):
    Ret Tryz.prog 10 #[.agg cs.toArray] w fun v w'=>v=.int .i64 (min (s.size:Int) 4097)∧Bel w w':=by
  have hlen:=hs.len;refine ret_of_W Tryz.func10 rfl (Nat.le_of_ble_eq_true rfl) (res1 rfl) ?_;have hB:=Gr.refl (fun _=>False) w;refine W.seq (W.region (L.box (cs:=cs) rfl rfl (fun w1 bx1 hw hz1=>?_)));have hB:=hB.carry hw;have hs:=hs.carry hw;refine L.val (x_as (v:=.int _ _) rfl) rfl ?_;refine L.nil (thn_n (W.seq (W.region (L.val (x_ldn (vs:=cs) ktm1_ag26 rfl hlen (bx1.row hlen)) rfl ?_))));refine L.ret (x_call ktm1_en19 rfl) rfl (tcount_ok _ s (Nat.lt_succ_self _) A0 _ 4096 _ om_ om_ hs) ?_;rintro _ w7 ⟨⟨b7,rfl,hb1,hb2⟩,hw⟩;have hB:=hB.carry hw;have hs:=hs.carry hw;have bx1:=bx1.carry hw;refine L.val (x_mv (v:=_) rfl) rfl ?_;refine L.val (x_ext (v:=.int _ _) rfl rfl) rfl ?_;refine L.val (x_ext (v:=.int _ _) rfl rfl) rfl ?_;refine L.val (x_as (v:=.int _ _) rfl) rfl ?_;refine L.val (x_as (v:=.int _ _) rfl) rfl ?_;refine L.nil (thn_n (W.seq (W.region (L.val (x_mv (v:=.int _ _) rfl) rfl ?_))));refine L.val (x_min rfl rfl) rfl ?_;refine L.val (x_as (v:=.int _ _) rfl) rfl ?_;refine L.nil (thn_n (W.ret (fin_mk (.inr rfl) ?_)));exact ⟨vi om_,hB⟩
theorem tsize08:∀ (N:Nat) (s:Tm),SizeOf.sizeOf s<N→∀ (A0:Nat→Prop) (cs:List Value) (m:Int) (w:World),0≤m→m≤1000000→TmC A0 w cs s→
    Ret Tryz.prog 11 #[.agg cs.toArray,.int .i64 m] w fun v w'=>v=.int .i64 (min (s.size:Int) (m+1))∧Bel w w':=by
  intro N;induction N with
  | zero=>intro s h;omega
  | succ N ih=>
    intro s hN A cs m w hm0 hm1 hs;obtain ⟨vn,vv,vh,vp,rfl,hn,hv,hsh,hp,hof,hnm,hi⟩:=hs.inv;obtain ⟨p,cap,row,rfl,p1,p2,p3,hr⟩:=hp;have hsz:=s.size_eq;have ht0:tsizeL (s.parts.take 0)=0:=by rw [List.take_zero,tsizeL]
    refine ret_of_W Tryz.func11 rfl (Nat.le_of_ble_eq_true rfl) (res1 rfl) ?_;have hB:=Gr.refl (fun _=>False) w;refine W.seq (W.region (L.box (cs:=_) rfl rfl (fun w2 bx2 hw hz2=>?_)));have hB:=hB.carry hw;have hr:=hr.carry hw;refine L.val (x_as (v:=.int _ _) rfl) rfl ?_;refine L.nil (thn_n (W.seq (W.region (L.val (x_as (v:=.int _ _) rfl) rfl ?_))));refine L.nil (thn_n (W.seq (W.seq (W.region (L.val (x_as (v:=.int _ _) rfl) rfl ?_)))));refine L.nil (thn_n (W.block (W.loop (fun m' E w'=>∃ (k:Nat),m'=s.parts.length - k∧E 1=.int .i64 m∧E 2=.pointer (some ⟨w.heap.size,0,none⟩)∧E 5=.int .i64 (min (1+tsizeL (s.parts.take k):Nat) (m+1))∧E 6=.int .i64 (k:Nat)∧(Bel w w')∧(RecRow TmC 9 A w' p row s.parts)∧(Box w' w.heap.size 26 [.int .i64 s.kind,S s.of,S s.name,.int .i64 s.n,vn,vv,vh,.slice p s.parts.length cap,.int .i64 s.place])∧(k≤s.parts.length)) (s.parts.length) ?_ ?_)))
    ·exact ⟨0,by omega,vi_,vi_,vi_,vi_,ao_,ao_,ao_,ao_⟩
    ·rintro _ E wL7 ⟨k,em,e1,e2,e5,e6,hB,hr,bx2,hk⟩;rw [upd_self e1,upd_self e2,upd_self e5,upd_self e6];refine W.seq (W.seq (W.region (L.val (x_mv (v:=.int _ _) rfl) rfl ?_)));refine L.val (x_fa ktm1_fo26_7 rfl) rfl ?_;refine L.val (x_ld (v:=.slice _ _ _) ktm1_oc24 rfl (bx2.cell0 rfl)) rfl ?_;refine L.val (x_len_slice Tryz.underlying24 rfl) rfl ?_;refine L.val (x_lss rfl rfl) rfl ?_;refine L.val (x_mv (v:=.bool _) rfl) rfl ?_;refine' L.group0 3 13 15 15 12 true rfl ?_ ?_ ?_;rotate_left 1
     ·intro g12;have h12:=of_decide_eq_true g12;refine L.gyes' (dj:=12) (b:=_) rfl rfl g12 ?_;refine L.val (x_mv (v:=.int _ _) rfl) rfl ?_;refine L.gyes' (dj:=12) (b:=_) rfl rfl g12 ?_;refine L.val (x_mv (v:=.int _ _) rfl) rfl ?_;refine L.gyes' (dj:=12) (b:=_) rfl rfl g12 ?_;refine L.val (x_leq rfl rfl) rfl ?_;refine L.nil (thn_n ⟨rfl,rfl,?_,rfl⟩);repeat (first | exact jeq.refl _ _ _ | refine jeq.upd rfl ?_ | refine jeq.jk rfl rfl ?_)
     ·intro g12;(iterate 3 refine L.gno (dj:=12) (b:=_) rfl rfl g12 rfl ?_);refine L.nil (thn_n ⟨rfl,rfl,?_⟩);repeat (first | exact jeq.refl _ _ _ | refine jeq.upd rfl ?_ | refine jeq.jk rfl rfl ?_)
     intro J12 j12;refine L.val (x_and rfl j12) rfl ?_;refine L.nil (thn_n (W.cond (b:=_) rfl (fun g16=>?_) (fun g16=>?_)))
     ·have h16:=g16;simp only [Bool.and_eq_true,decide_eq_true_eq] at h16;have hlt:k<s.parts.length:=by omega
      obtain ⟨b,o,rfl,-,hc⟩:=hr.elem hlt;have hts:=tsizeL_take hlt;refine W.skip (thn_n (W.seq (W.block (W.region (L.val (x_mv (v:=.int _ _) rfl) rfl ?_)))));refine L.val (x_fa ktm1_fo26_7 rfl) rfl ?_;refine L.val (x_ld (v:=.slice _ _ _) ktm1_oc24 rfl (bx2.cell0 rfl)) rfl ?_;refine L.val (x_mv (v:=.int _ _) rfl) rfl ?_;refine L.val (x_ia (j:=k) Tryz.underlying24 ktm1_sz26 rfl rfl om_ om_) rfl ?_;refine L.val (x_ldn (vs:=row k) ktm1_ag26 rfl (hr.len k hlt) hc) rfl ?_;refine L.val (x_mv (v:=.int _ _) rfl) rfl ?_;refine L.val (x_mv (v:=.int _ _) rfl) rfl ?_;refine L.val (x_sub rfl rfl (wr64 om_)) rfl ?_;refine L.ret (x_call ktm1_en11 rfl) rfl (ih _ (by have:=Tm.part_lt hlt;omega) A _ _ _ om_ om_ (hr.each k hlt)) ?_;rintro _ w28 ⟨rfl,hw⟩;have hB:=hB.carry hw;have hr:=hr.carry hw;have bx2:=bx2.carry hw;refine L.val (x_add rfl rfl (wr64 om_)) rfl ?_;refine L.val (x_as (v:=.int _ _) rfl) rfl ?_;refine L.nil (blk_n (thn_n (W.region (L.val (x_mv (v:=.int _ _) rfl) rfl ?_))));refine L.val (x_add rfl rfl (wr64 om_)) rfl ?_;refine L.val (x_as (v:=.int _ _) rfl) rfl ?_;refine L.nil (thn_n ⟨rfl,?_⟩);refine ⟨_,?_,k+1,rfl,vi_,vi_,vi_,vi_,ao_,ao_,ao_,ao_⟩;omega
     ·have h16:=g16;refine W.exit (thn_x (thn_x (blk_hit ?_)));refine thn_n (W.seq (W.region (L.val (x_mv (v:=.int _ _) rfl) rfl ?_)));refine L.val (x_as (v:=.int _ _) rfl) rfl ?_;refine L.nil (thn_n (W.ret (fin_mk (.inr rfl) ?_)));refine ⟨vi ?_,hB⟩;have hle:=tsizeL_le (l:=s.parts) (k:=k);rcases Nat.lt_or_ge k s.parts.length with hlt | hge
      · have:decide ((k:Int)<(s.parts.length:Int))=true:=by simp;omega
        rw [this,Bool.true_and] at h16;have:=of_decide_eq_false h16;omega
      · rw [List.take_of_length_le hge];omega
theorem tdeep08:∀ (N:Nat) (s:Tm),SizeOf.sizeOf s<N→s.size≤1000000→∀ (A0:Nat→Prop) (cs:List Value) (w:World),TmC A0 w cs s→
    Ret Tryz.prog 21 #[.agg cs.toArray] w fun v w'=>v=.int .i64 (s.deep:Nat)∧Bel w w':=by
  intro N;induction N with
  | zero=>intro s h;omega
  | succ N ih=>
    intro s hN hS A cs w hs;obtain ⟨vn,vv,vh,vp,rfl,hn,hv,hsh,hp,hof,hnm,hi⟩:=hs.inv;obtain ⟨p,cap,row,rfl,p1,p2,p3,hr⟩:=hp;have hdl:tdeepL s.parts≤1000000:=by have:=Tm.deep_le s;rw [Tm.deep_eq] at this;omega
    refine ret_of_W Tryz.func21 rfl (Nat.le_of_ble_eq_true rfl) (res1 rfl) ?_;have hB:=Gr.refl (fun _=>False) w;refine W.seq (W.region (L.box (cs:=_) rfl rfl (fun w1 bx1 hw hz1=>?_)));have hB:=hB.carry hw;have hr:=hr.carry hw;refine L.val (x_as (v:=.int _ _) rfl) rfl ?_;refine L.nil (thn_n (W.seq (W.region (L.val (x_as (v:=.int _ _) rfl) rfl ?_))));refine L.nil (thn_n (W.seq (W.seq (W.region (L.val (x_as (v:=.int _ _) rfl) rfl ?_)))));refine L.nil (thn_n (W.block (W.loop (fun m' E w'=>∃ (k:Nat),m'=s.parts.length - k∧E 1=.pointer (some ⟨w.heap.size,0,none⟩)∧E 3=.int .i64 (tdeepL (s.parts.take k):Nat)∧E 4=.int .i64 (k:Nat)∧(Bel w w')∧(RecRow TmC 9 A w' p row s.parts)∧(Box w' w.heap.size 26 [.int .i64 s.kind,S s.of,S s.name,.int .i64 s.n,vn,vv,vh,.slice p s.parts.length cap,.int .i64 s.place])∧(k≤s.parts.length)) (s.parts.length) ?_ ?_)))
    ·exact ⟨0,by omega,vi_,vi_,vi_,ao_,ao_,ao_,ao_⟩
    ·rintro _ E wL6 ⟨k,em,e1,e3,e4,hB,hr,bx1,hk⟩;rw [upd_self e1,upd_self e3,upd_self e4];refine W.seq (W.seq (W.region (L.val (x_mv (v:=.int _ _) rfl) rfl ?_)));refine L.val (x_fa ktm1_fo26_7 rfl) rfl ?_;refine L.val (x_ld (v:=.slice _ _ _) ktm1_oc24 rfl (bx1.cell0 rfl)) rfl ?_;refine L.val (x_len_slice Tryz.underlying24 rfl) rfl ?_;refine L.val (x_lss rfl rfl) rfl ?_;refine L.nil (thn_n (W.cond (b:=_) rfl (fun g10=>?_) (fun g10=>?_)))
     ·have h10:=of_decide_eq_true g10;have hlt:k<s.parts.length:=by omega
      obtain ⟨b,o,rfl,-,hc⟩:=hr.elem hlt;have hts:=tdeepL_take hlt;refine W.skip (thn_n (W.seq (W.block (W.seq (W.region (L.val (x_fa ktm1_fo26_7 rfl) rfl ?_))))));refine L.val (x_ld (v:=.slice _ _ _) ktm1_oc24 rfl (bx1.cell0 rfl)) rfl ?_;refine L.val (x_mv (v:=.int _ _) rfl) rfl ?_;refine L.val (x_ia (j:=k) Tryz.underlying24 ktm1_sz26 rfl rfl om_ om_) rfl ?_;refine L.val (x_ldn (vs:=row k) ktm1_ag26 rfl (hr.len k hlt) hc) rfl ?_;refine L.ret (x_call ktm1_en21 rfl) rfl (ih _ (by have:=Tm.part_lt hlt;omega) (by have:=Tm.part_size hlt;omega) A _ _ (hr.each k hlt)) ?_;rintro _ w18 ⟨rfl,hw⟩;have hB:=hB.carry hw;have hr:=hr.carry hw;have bx1:=bx1.carry hw;refine L.val (x_as (v:=.int _ _) rfl) rfl ?_;refine L.nil (thn_n (W.seq (W.region (L.val (x_mv (v:=.int _ _) rfl) rfl ?_))));refine L.val (x_mv (v:=.int _ _) rfl) rfl ?_;refine L.val (x_gtr rfl rfl) rfl ?_;refine L.nil (thn_n (W.cond (b:=_) rfl (fun g21=>?_) (fun g21=>?_)))
      ·have h21:=of_decide_eq_true g21;refine W.region (L.val (x_mv (v:=.int _ _) rfl) rfl ?_);refine L.val (x_as (v:=.int _ _) rfl) rfl ?_;refine L.nil (blk_n (thn_n (W.region (L.val (x_mv (v:=.int _ _) rfl) rfl ?_))));refine L.val (x_add rfl rfl (wr64 om_)) rfl ?_;refine L.val (x_as (v:=.int _ _) rfl) rfl ?_;refine L.nil (thn_n ⟨rfl,?_⟩);refine ⟨_,?_,k+1,rfl,vi_,vi_,vi_,ao_,ao_,ao_,ao_⟩;omega
      ·have h21:=dlt_f g21;refine W.skip (blk_n (thn_n (W.region (L.val (x_mv (v:=.int _ _) rfl) rfl ?_))));refine L.val (x_add rfl rfl (wr64 om_)) rfl ?_;refine L.val (x_as (v:=.int _ _) rfl) rfl ?_;refine L.nil (thn_n ⟨rfl,?_⟩);refine ⟨_,?_,k+1,rfl,vi_,vi_,vi_,ao_,ao_,ao_,ao_⟩;omega
     ·have h10:=dlt_f g10;have hle:tdeepL (s.parts.take k)≤1000000:=by rw [List.take_of_length_le om_];exact hdl
      refine W.exit (thn_x (thn_x (blk_hit ?_)));refine thn_n (W.seq (W.region (L.val (x_mv (v:=.int _ _) rfl) rfl ?_)));refine L.val (x_add rfl rfl (wr64 om_)) rfl ?_;refine L.val (x_as (v:=.int _ _) rfl) rfl ?_;refine L.nil (thn_n (W.ret (fin_mk (.inr rfl) ?_)));refine ⟨vi ?_,hB⟩;rw [Tm.deep_eq,List.take_of_length_le om_];omega
end Go.Gx
namespace Go.Gx
open Go.Proofs
theorem ktm2_en102:Go.Proofs.Enters Tryz.prog 102:=Go.Proofs.enters_of Tryz.func102 kr_ rfl
theorem ktm2_en79:Go.Proofs.Enters Tryz.prog 79:=Go.Proofs.enters_of Tryz.func79 kr_ rfl
theorem ktm2_en80:Go.Proofs.Enters Tryz.prog 80:=Go.Proofs.enters_of Tryz.func80 kr_ rfl
theorem ktm2_oc64:oneCellT Tryz.prog 64=true:=by kernel_rfl
theorem ktm2_oc9:oneCellT Tryz.prog 9=true:=by kernel_rfl
theorem ktm2_sz9:(Tryz.prog.info? 9).map (·.size)=some 1:=by kernel_rfl
theorem any_no {α : Type} {p:α → Bool} {l:List α} {k:Nat} {d:α} (hk:k<l.length) (h:(l.take k).any p=false) (hp:p (l.getD k d)=false):(l.take (k+1)).any p=false:=by
  rw [List.take_succ_eq_append_getElem hk,List.any_append,h];rw [List.getD_eq_getElem?_getD,List.getElem?_eq_getElem hk] at hp;have hp:p l[k]=false:=hp;simp [hp]
theorem any_yes {α : Type} {p:α → Bool} {l:List α} {k:Nat} {d:α} (hk:k<l.length) (hp:p (l.getD k d)=true):l.any p=true:=by
  rw [List.getD_eq_getElem?_getD,List.getElem?_eq_getElem hk] at hp;exact List.any_eq_true.2 ⟨_,List.getElem_mem hk,hp⟩
theorem not_any {α : Type} (p:α → Bool) (l:List α):(!l.any fun x=>!p x)=l.all p:=by
  induction l with
  | nil=>rfl
  | cons x l ih=>rw [List.any_cons,List.all_cons,← ih];cases p x <;> simp
def CallsP (gf:Nat) (cap:List Value) (p:Bool) (xs:List Value) (w:World):Prop:=∀ w1,Bel w w1→Ret Tryz.prog gf (xs++cap).toArray w1 fun r w2=>r=.bool p∧Bel w1 w2
theorem CallsP.carry {gf:Nat} {cap:List Value} {p:Bool} {xs:List Value} {w w':World} (h:CallsP gf cap p xs w) (g:Bel w w'):CallsP gf cap p xs w':=fun w1 h1=>h w1 (g.trans h1)
theorem idxS_ok (gf:Nat) (cap:List Value) (p:Str→Bool) (eg:Go.Proofs.Enters Tryz.prog gf) (A:Nat→Prop) (v:Value) (l:List Str) (w:World) (h:StrsAt A w v l) (hg:∀ i,i<l.length→CallsP gf cap (p (l.getD i [])) [S (l.getD i [])] w):
    Ret Tryz.prog 102 #[v,.func (.func gf) #[] cap.toArray] w fun r w'=>(∃ i:Int,r=.int .i64 i∧(decide ((0:Int)≤i))=l.any p)∧Bel w w':=by
  obtain ⟨q,c,rfl,-,-,l3,-⟩:=id h;refine ret_of_W Tryz.func102 rfl (Nat.le_of_ble_eq_true rfl) (res1 rfl) ?_;have hB:=Gr.refl (fun _=>False) w;refine W.seq (W.region (L.val (x_as (v:=.int _ _) rfl) rfl ?_));refine L.nil (thn_n (W.seq (W.seq (W.region (L.val (x_mv (v:=.slice _ _ _) rfl) rfl ?_)))));refine L.val (x_len_slice Tryz.underlying22 rfl) rfl ?_;refine L.val (x_mv (v:=.int _ _) rfl) rfl ?_;refine L.nil (thn_n (W.block (W.loop (fun m' E w'=>∃ (k:Nat),m'=l.length - k∧E 0=.slice q l.length c∧E 1=.func (.func gf) #[] cap.toArray∧E 7=.int .i64 (l.length:Nat)∧E 8=.int .i64 (k:Nat)∧(Bel w w')∧(StrsAt A w' (.slice q l.length c) l)∧(k≤l.length)∧((l.take k).any p=false)) (l.length) ?_ ?_)))
  ·exact ⟨0,by omega,vi_,vi_,vi_,vi_,ao_,ao_,ao_,(by rfl)⟩
  ·rintro _ E wL9 ⟨k,em,e0,e1,e7,e8,hB,h,hk,ha⟩;rw [upd_self e0,upd_self e1,upd_self e7,upd_self e8];refine W.seq (W.region (L.val (x_lss rfl rfl) rfl ?_));refine L.nil (thn_n (W.seq (W.cond (b:=_) rfl (fun g9=>?_) (fun g9=>?_))))
   ·have h9:=of_decide_eq_true g9;have hlt:k<l.length:=by omega
    obtain ⟨b,o,rfl,hc⟩:=h.elem hlt;refine W.skip (thn_n (W.seq (W.block (W.seq (W.region (L.val (x_mv (v:=.int _ _) rfl) rfl ?_))))));refine L.val (x_as (v:=.int _ _) rfl) rfl ?_;refine L.nil (thn_n (W.seq (W.region (L.val (x_mv (v:=.func _ _ _) rfl) rfl ?_))));refine L.val (x_mv (v:=.slice _ _ _) rfl) rfl ?_;refine L.val (x_mv (v:=.int _ _) rfl) rfl ?_;refine L.val (x_ia1 (j:=k) Tryz.underlying22 ktm2_sz9 rfl rfl om_ om_) rfl ?_;refine L.val (x_ld (v:=S _) ktm2_oc9 rfl hc) rfl ?_;refine L.ret (x_callv eg rfl rfl) rfl ((hg k hlt _ hB)) ?_;rintro _ w16 ⟨rfl,hw⟩;have hB:=hB.carry hw;have h:=h.carry hw;refine L.nil (thn_n (W.cond (b:=_) rfl (fun g16=>?_) (fun g16=>?_)))
    ·have h16:=g16;refine W.seq (W.region (L.val (x_mv (v:=.int _ _) rfl) rfl ?_));refine L.val (x_as (v:=.int _ _) rfl) rfl ?_;refine L.nil (thn_n (W.ret (blk_r (thn_r (thn_r (blk_r (thn_r (fin_mk (.inr rfl) ?_))))))));exact ⟨⟨k,rfl,by rw [any_yes hlt h16];exact decide_eq_true om_⟩,hB⟩
    ·have h16:=g16;refine W.skip (blk_n (thn_n (W.region (L.val (x_add rfl rfl (wr64 om_)) rfl ?_))));refine L.val (x_mv (v:=.int _ _) rfl) rfl ?_;refine L.nil (thn_n ⟨rfl,?_⟩);refine ⟨_,?_,k+1,rfl,vi_,vi_,vi_,vi_,ao_,ao_,ao_,(by exact any_no hlt ha h16)⟩;omega
   ·have h9:=dlt_f g9;refine W.exit (thn_x (thn_x (blk_hit ?_)));refine thn_n (W.seq (W.region (L.val (x_as (v:=.int _ _) rfl) rfl ?_)));refine L.nil (thn_n (W.ret (fin_mk (.inr rfl) ?_)));rw [List.take_of_length_le om_] at ha;exact ⟨⟨-1,rfl,by rw [ha];rfl⟩,hB⟩
theorem hasS_ok (gf:Nat) (cap:List Value) (p:Str→Bool) (eg:Go.Proofs.Enters Tryz.prog gf) (A:Nat→Prop) (v:Value) (l:List Str) (w:World) (h:StrsAt A w v l) (hg:∀ i,i<l.length→CallsP gf cap (p (l.getD i [])) [S (l.getD i [])] w):
    Ret Tryz.prog 79 #[v,.func (.func gf) #[] cap.toArray] w fun r w'=>r=.bool (l.any p)∧Bel w w':=by
  obtain ⟨q,c,rfl,-,-,l3,-⟩:=id h;refine ret_of_W Tryz.func79 rfl (Nat.le_of_ble_eq_true rfl) (res1 rfl) ?_;have hB:=Gr.refl (fun _=>False) w;refine W.seq (W.region (L.val (x_as (v:=.bool _) rfl) rfl ?_));refine L.nil (thn_n (W.seq (W.region (L.val (x_mv (v:=.slice _ _ _) rfl) rfl ?_))));refine L.val (x_mv (v:=.func _ _ _) rfl) rfl ?_;refine L.ret (x_call ktm2_en102 rfl) rfl (idxS_ok gf cap p eg A _ l _ h (fun i hi=>(hg i hi).carry hB)) ?_;rintro _ w7 ⟨⟨i7,rfl,hi7⟩,hw⟩;have hB:=hB.carry hw;have h:=h.carry hw;refine L.val (x_geq rfl rfl) rfl ?_;refine L.val (x_as (v:=.bool _) rfl) rfl ?_;refine L.nil (thn_n (W.ret (fin_mk (.inr rfl) ?_)));exact ⟨vb hi7,hB⟩
theorem notS_ok (b gf:Nat) (cap:List Value) (p:Bool) (eg:Go.Proofs.Enters Tryz.prog gf) (x:Str) (w:World) (hb:Box w b 64 [.func (.func gf) #[] cap.toArray]) (hg:CallsP gf cap p [S x] w):
    Ret Tryz.prog 80 #[S x,.pointer (some ⟨b,0,none⟩)] w fun r w'=>r=.bool (!p)∧Bel w w':=by
  refine ret_of_W Tryz.func80 rfl (Nat.le_of_ble_eq_true rfl) (res1 rfl) ?_;have hB:=Gr.refl (fun _=>False) w;refine W.seq (W.region (L.val (x_as (v:=.bool _) rfl) rfl ?_));refine L.nil (thn_n (W.seq (W.region (L.val (x_ld (v:=_) ktm2_oc64 rfl (hb.cell (i:=0) rfl)) rfl ?_))));refine L.val (x_mv (v:=S _) rfl) rfl ?_;refine L.ret (x_callv eg rfl rfl) rfl ((hg _ hB)) ?_;rintro _ w6 ⟨rfl,hw⟩;have hB:=hB.carry hw;refine L.val (x_not rfl) rfl ?_;refine L.val (x_as (v:=.bool _) rfl) rfl ?_;refine L.nil (thn_n (W.ret (fin_mk (.inr rfl) ?_)));exact ⟨rfl,hB⟩
theorem eachS_ok (gf:Nat) (cap:List Value) (p:Str→Bool) (eg:Go.Proofs.Enters Tryz.prog gf) (A:Nat→Prop) (v:Value) (l:List Str) (w:World) (h:StrsAt A w v l) (hg:∀ i,i<l.length→CallsP gf cap (p (l.getD i [])) [S (l.getD i [])] w):
    Ret Tryz.prog 53 #[v,.func (.func gf) #[] cap.toArray] w fun r w'=>r=.bool (l.all p)∧Bel w w':=by
  obtain ⟨q,c,rfl,-,-,l3,-⟩:=id h;refine ret_of_W Tryz.func53 rfl (Nat.le_of_ble_eq_true rfl) (res1 rfl) ?_;have hB:=Gr.refl (fun _=>False) w;refine W.seq (W.region (L.box (cs:=[.func (.func gf) #[] cap.toArray]) rfl rfl (fun w3 bx3 hw hz3=>?_)));have hB:=hB.carry hw;have h:=h.carry hw;refine L.val (x_as (v:=.bool _) rfl) rfl ?_;refine L.nil (thn_n (W.seq (W.region (L.val (x_mv (v:=.slice _ _ _) rfl) rfl ?_))));refine L.val (x_mkfn rfl rfl) rfl ?_;refine L.ret (x_call ktm2_en79 rfl) rfl (hasS_ok 80 [.pointer (some ⟨w.heap.size,0,none⟩)] (fun x=>!p x) ktm2_en80 A _ l _ h (fun i hi w1 h1=>notS_ok _ gf cap _ eg _ _ (bx3.carry h1) ((hg i hi).carry (hB.trans h1)))) ?_;rintro _ w7 ⟨rfl,hw⟩;have hB:=hB.carry hw;have h:=h.carry hw;have bx3:=bx3.carry hw;refine L.val (x_not rfl) rfl ?_;refine L.val (x_as (v:=.bool _) rfl) rfl ?_;refine L.nil (thn_n (W.ret (fin_mk (.inr rfl) ?_)));exact ⟨vb (not_any p l),hB⟩
end Go.Gx
