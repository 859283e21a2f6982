/- Maps of numbers; names that reach each other: a walk with a stack finds them; in plain terms. Conditions: none. -/
import Derived.Test.YtigcdmnhmfeioaaGgRec
import Derived.Test.YtigcdmnhmfeioaaGgDrawD
import Derived.Test.YtigcdmnhmfeioaaGgMapK
import Derived.Test.YtigcdmnhmfeioaaGgSrtK
namespace Go.Gx
open Go.Sort
def encI (m:List (Str × Int)):List (Str × Value):=m.map fun x=>(x.1,.int .i64 x.2)
def getI (m:List (Str × Int)) (n:Str):Int:=match getK (encI m) n with | some (.int _ i)=>i | _=>0
def putI (m:List (Str × Int)) (n:Str) (i:Int):List (Str × Int):=if idxK n (encI m)<m.length then m.set (idxK n (encI m)) (n,i) else m++[(n,i)]
theorem encI_put (m:List (Str × Int)) (n:Str) (i:Int):putK (encI m) n (.int .i64 i)=encI (putI m n i):=by
  unfold putK putI;have hl:(encI m).length=m.length:=by unfold encI;rw [List.length_map]
  rw [hl];split
  · unfold encI;rw [List.map_set]
  · unfold encI;rw [List.map_append];rfl
theorem getK_enc (m:List (Str × Int)) (n:Str):(getK (encI m) n=none∧getI m n=0)∨getK (encI m) n=some (.int .i64 (getI m n)):=by
  unfold getI;cases h:getK (encI m) n with
  | none=>exact .inl ⟨rfl,rfl⟩
  | some v=>
    right;unfold getK at h;split at h
    · rename_i hi
      have h:=Option.some.inj h;rw [valK_at hi] at h;have key:∀ i (h:i<(encI m).length),((encI m)[i]'h)=((m[i]'(by simpa [encI] using h)).1,Value.int .i64 (m[i]'(by simpa [encI] using h)).2):=fun i h=>by simp only [encI,List.getElem_map]
      rw [key] at h;rw [← h]
    · cases h
theorem getI_look (m:List (Str × Int)) (n:Str):(getK (encI m) n).getD (.int .i64 0)=.int .i64 (getI m n):=by
  rcases getK_enc m n with ⟨h1,h2⟩ | h
  · rw [h1,h2];rfl
  · rw [h];rfl
theorem getI_nil (n:Str):getI [] n=0:=rfl
theorem getI_put (m:List (Str × Int)) (n k:Str) (i:Int):getI (putI m n i) k=if k=n then i else getI m k:=by
  unfold getI;rw [← encI_put,getK_put];by_cases h:k=n
  · rw [if_pos h,if_pos h]
  · rw [if_neg h,if_neg h]
theorem keysI_put (m:List (Str × Int)) (n k:Str) (i:Int):k∈(putI m n i).map (·.1)↔k=n∨k∈m.map (·.1):=by
  have e:∀ m:List (Str × Int),(encI m).map (·.1)=m.map (·.1):=fun m=>by unfold encI;rw [List.map_map];rfl
  rw [← e,← encI_put,putK_keys,e];split
  · rename_i h
    constructor
    · exact .inr
    · rintro (rfl | h2)
      · exact h
      · exact h2
  · rw [List.mem_append,List.mem_singleton];exact or_comm
theorem putI_len (m:List (Str × Int)) (n:Str) (i:Int):(putI m n i).length=if n∈m.map (·.1) then m.length else m.length+1:=by
  have e:∀ m:List (Str × Int),(encI m).map (·.1)=m.map (·.1):=fun m=>by unfold encI;rw [List.map_map];rfl
  have h:=congrArg List.length (putK_keys (l:=encI m) (x:=n) (v:=.int .i64 i));rw [encI_put,e,e] at h;rw [List.length_map] at h;rw [h];split
  · rw [List.length_map]
  · rw [List.length_append,List.length_map];rfl
inductive Rt (E:Str→List Str) (x:Str):Str→Prop
  | refl:Rt E x x
  | step {y z}:Rt E x y→z∈E y→Rt E x z
theorem Rt.trans {E:Str→List Str} {x y z:Str} (h:Rt E x y) (k:Rt E y z):Rt E x z:=by
  induction k with
  | refl=>exact h
  | step _ h2 ih=>exact ih.step h2
theorem Rt.one {E:Str→List Str} {x y:Str} (h:y∈E x):Rt E x y:=Rt.refl.step h
open Classical in
noncomputable def clsU (E:Str→List Str) (U:List Str) (n:Str):List Str:=U.filter fun k=>decide (Rt E n k∧Rt E k n)
theorem mem_cls {E:Str→List Str} {U:List Str} {n k:Str}:k∈clsU E U n↔k∈U∧Rt E n k∧Rt E k n:=by
  unfold clsU;rw [List.mem_filter];simp
theorem cls_same {E:Str→List Str} {U:List Str} {n k:Str} (h1:Rt E n k) (h2:Rt E k n):clsU E U n=clsU E U k:=by
  unfold clsU;refine List.filter_congr fun x _=>?_
  rw [decide_eq_decide];exact ⟨fun h=>⟨h2.trans h.1,h.2.trans h1⟩,fun h=>⟨h1.trans h.1,h.2.trans h2⟩⟩
structure TS where
  seen:List (Str × Int)
  low:List (Str × Int)
  on:List (Str × Int)
  stack:List Str
  out:List (List Str)
def TS.num (s:TS) (x:Str):Int:=getI s.seen x
def TS.lo (s:TS) (x:Str):Int:=getI s.low x
def pushT (n:Str) (s:TS):TS:=⟨putI s.seen n ((s.seen.length:Int)+1),putI s.low n ((s.seen.length:Int)+1),putI s.on n 1,s.stack++[n],s.out⟩
def lowT (n:Str) (i:Int) (s:TS):TS:={ s with low:=putI s.low n i }
def stepT (wkf:Str→TS→TS) (n:Str) (s:TS) (to:Str):TS:=
  if s.num to=0 then lowT n (min ((wkf to s).lo n) ((wkf to s).lo to)) (wkf to s)
  else if getI s.on to=1 then lowT n (min (s.lo n) (s.num to)) s else s
def offL (g:List Str) (m:List (Str × Int)):List (Str × Int):=g.foldl (fun m x=>putI m x 0) m
def popT (n:Str) (s:TS):TS:=⟨s.seen,s.low,offL (onceL (s.stack.drop (s.stack.idxOf n))) s.on,s.stack.take (s.stack.idxOf n),s.out++[onceL (s.stack.drop (s.stack.idxOf n))]⟩
def endT (n:Str) (s:TS):TS:=if s.lo n<s.num n then s else popT n s
def wk (E:Str→List Str):Nat→Str→TS→TS
  | 0,_,s=>s
  | f+1,n,s=>endT n ((E n).foldl (stepT (wk E f) n) (pushT n s))
theorem off_get (g:List Str) (m:List (Str × Int)) (x:Str):getI (offL g m) x=if x∈g then 0 else getI m x:=by
  unfold offL;induction g generalizing m with
  | nil=>simp
  | cons y g ih=>
    rw [List.foldl_cons,ih,getI_put];by_cases h1:x∈g
    · rw [if_pos h1,if_pos (List.mem_cons_of_mem _ h1)]
    · rw [if_neg h1];by_cases h2:x=y
      · rw [if_pos h2,if_pos (by rw [h2];exact List.mem_cons_self)]
      · rw [if_neg h2,if_neg (fun h=>by rcases List.mem_cons.1 h with h | h;exact h2 h;exact h1 h)]
structure Inv (E:Str→List Str) (U:List Str) (s:TS) (G:List Str):Prop where
  sn:∀ x,(x∈s.seen.map (·.1)↔1≤s.num x)∧0≤s.num x∧s.num x≤s.seen.length
  sub:∀ x,1≤s.num x→x∈U
  onI:∀ x,getI s.on x=if x∈s.stack then 1 else 0
  stk:∀ x∈s.stack,1≤s.num x
  srt:s.stack.Pairwise (fun x y=>s.num x<s.num y)
  gray:∀ g∈G,g∈s.stack
  closed:∀ x,1≤s.num x→x∉s.stack→∀ y∈E x,1≤s.num y∧y∉s.stack
  black:∀ x∈s.stack,x∉G→∀ y∈E x,1≤s.num y
  fwd:∀ x∈s.stack,∀ y∈s.stack,s.num x≤s.num y→Rt E x y
  bwd:∀ y∈s.stack,∃ g∈G,s.num g≤s.num y∧Rt E y g
  cls:∀ c∈s.out,∃ x,1≤s.num x∧x∉s.stack∧c=clsU E U x
  cov:∀ x,1≤s.num x→x∉s.stack→clsU E U x∈s.out
  nod:s.out.Nodup
theorem Inv.low {E:Str→List Str} {U:List Str} {s:TS} {G:List Str} (h:Inv E U s G) (n:Str) (i:Int):Inv E U (lowT n i s) G:=
  ⟨h.sn,h.sub,h.onI,h.stk,h.srt,h.gray,h.closed,h.black,h.fwd,h.bwd,h.cls,h.cov,h.nod⟩
theorem Inv.nodup {E:Str→List Str} {U:List Str} {s:TS} {G:List Str} (h:Inv E U s G):s.stack.Nodup:=h.srt.imp fun {a b} hab e=>by rw [e] at hab;exact Int.lt_irrefl _ hab
def unT (U:List Str) (s:TS):Nat:=(U.filter fun x=>decide (s.num x=0)).length
structure PostT (E:Str→List Str) (U:List Str) (s s':TS) (n:Str) (G:List Str):Prop where
  inv:Inv E U s' G
  mono:∀ x,1≤s.num x→s'.num x=s.num x∧s'.lo x=s.lo x
  fresh:(s.seen.length:Int)<s'.num n
  lowp:1≤s'.lo n∧s'.lo n≤s'.num n
  stack:∃ t,s'.stack=s.stack++t∧∀ z∈t,s.num z=0
  tip:s'.lo n=s'.num n∨∃ y∈s.stack,s.num y=s'.lo n∧Rt E n y
  cross:∀ z∈s'.stack,z∉s.stack→∀ y∈s.stack,y∈E z→s'.lo n≤s.num y
structure Lp (E:Str→List Str) (U:List Str) (s q:TS) (n:Str) (G p:List Str):Prop where
  inv:Inv E U q (G++[n])
  mono:∀ x,1≤s.num x→q.num x=s.num x∧q.lo x=s.lo x
  fresh:(s.seen.length:Int)<q.num n
  lowp:1≤q.lo n∧q.lo n≤q.num n
  stack:∃ t,q.stack=s.stack++n :: t∧∀ z∈t,s.num z=0
  tip:q.lo n=q.num n∨∃ y∈s.stack,s.num y=q.lo n∧Rt E n y
  cross:∀ z∈q.stack,z∉s.stack→z≠n→∀ y∈s.stack,y∈E z→q.lo n≤s.num y
  crossn:∀ y∈p,y∈s.stack→q.lo n≤s.num y
  seenp:∀ y∈p,1≤q.num y
section
variable {E:Str→List Str} {U:List Str} {s q:TS} {n:Str} {G p:List Str}
theorem push_num (n x:Str) (s:TS):(pushT n s).num x=if x=n then (s.seen.length:Int)+1 else s.num x:=getI_put _ _ _ _
theorem push_lo (n x:Str) (s:TS):(pushT n s).lo x=if x=n then (s.seen.length:Int)+1 else s.lo x:=getI_put _ _ _ _
theorem low_lo (n x:Str) (i:Int) (s:TS):(lowT n i s).lo x=if x=n then i else s.lo x:=getI_put _ _ _ _
theorem push_ok (h:Inv E U s G) (h0:s.num n=0) (hn:n∈U) (hp:∀ g∈G,Rt E g n):Lp E U s (pushT n s) n G []:=by
  have hns:n∉s.stack:=fun e=>by have:=h.stk n e;omega
  have hnk:n∉s.seen.map (·.1):=fun e=>by have:=(h.sn n).1.1 e;omega
  have hne:∀ x,1≤s.num x→(pushT n s).num x=s.num x:=fun x hx=>by rw [push_num,if_neg (fun e=>by rw [e] at hx;omega)]
  have hnn:(pushT n s).num n=(s.seen.length:Int)+1:=by rw [push_num,if_pos rfl]
  have hlen:((pushT n s).seen.length:Int)=(s.seen.length:Int)+1:=by
    show ((putI s.seen n _).length:Int)=_;rw [putI_len,if_neg hnk];omega
  have hstk:(pushT n s).stack=s.stack++[n]:=rfl;refine ⟨⟨fun x=>?_,fun x hx=>?_,fun x=>?_,fun x hx=>?_,?_,fun g hg=>?_,fun x hx hxs y hy=>?_,fun x hx hxg y hy=>?_,fun x hx y hy hxy=>?_,fun y hy=>?_,fun c hc=>?_,fun x hx hxs=>?_,h.nod⟩,fun x hx=>⟨hne x hx,?_⟩,by omega,?_,⟨[],by rw [hstk],by simp⟩,.inl ?_,fun z hz hzs hzn=>?_,by simp,by simp⟩
  · have hx:=h.sn x;show (x∈(putI s.seen n _).map (·.1)↔_)∧_;rw [keysI_put,push_num,hlen];by_cases e:x=n
    · rw [if_pos e];exact ⟨⟨fun _=>by omega,fun _=>.inl e⟩,by omega,by omega⟩
    · rw [if_neg e];exact ⟨⟨fun h=>hx.1.1 (h.resolve_left e),fun h=>.inr (hx.1.2 h)⟩,hx.2.1,by omega⟩
  · rw [push_num] at hx;by_cases e:x=n
    · rw [e];exact hn
    · rw [if_neg e] at hx;exact h.sub x hx
  · show getI (putI s.on n 1) x=_;rw [getI_put,h.onI,hstk];by_cases e:x=n
    · rw [if_pos e,if_pos (by rw [e];simp)]
    · rw [if_neg e];by_cases e2:x∈s.stack
      · rw [if_pos e2,if_pos (List.mem_append.2 (.inl e2))]
      · rw [if_neg e2,if_neg (fun h=>by rcases List.mem_append.1 h with h | h;exact e2 h;exact e (List.mem_singleton.1 h))]
  · rw [hstk] at hx;rcases List.mem_append.1 hx with hx | hx
    · have:=h.stk x hx;rw [hne x this];exact this
    · rw [List.mem_singleton.1 hx,hnn];omega
  · rw [hstk,List.pairwise_append];refine ⟨?_,List.pairwise_singleton _ _,fun a ha b hb=>?_⟩
    · refine List.Pairwise.imp_of_mem (fun {a b} ha hb hab=>?_) h.srt;rw [hne a (h.stk a ha),hne b (h.stk b hb)];exact hab
    · rw [List.mem_singleton.1 hb,hnn,hne a (h.stk a ha)];have:=(h.sn a).2.2;omega
  · rw [hstk];rcases List.mem_append.1 hg with hg | hg
    · exact List.mem_append.2 (.inl (h.gray g hg))
    · exact List.mem_append.2 (.inr hg)
  · rw [hstk] at hxs ⊢;have hxn:x≠n:=fun e=>hxs (by rw [e];simp)
    rw [push_num,if_neg hxn] at hx;obtain ⟨h1,h2⟩:=h.closed x hx (fun e=>hxs (by simp [e])) y hy;refine ⟨by rw [hne y h1];exact h1,fun e=>?_⟩;rcases List.mem_append.1 e with e | e
    · exact h2 e
    · rw [List.mem_singleton.1 e] at h1;omega
  · rw [hstk] at hx;rcases List.mem_append.1 hx with hx | hx
    · have:=h.black x hx (fun e=>hxg (List.mem_append.2 (.inl e))) y hy;rw [hne y this];exact this
    · exact absurd (List.mem_append.2 (.inr hx)) hxg
  · rw [hstk] at hx hy;rcases List.mem_append.1 hx with hx | hx
    · rcases List.mem_append.1 hy with hy | hy
      · rw [hne x (h.stk x hx),hne y (h.stk y hy)] at hxy;exact h.fwd x hx y hy hxy
      · rw [List.mem_singleton.1 hy];obtain ⟨g,hg,-,hr⟩:=h.bwd x hx;exact hr.trans (hp g hg)
    · rcases List.mem_append.1 hy with hy | hy
      · rw [List.mem_singleton.1 hx,hnn,hne y (h.stk y hy)] at hxy;have:=(h.sn y).2.2;omega
      · rw [List.mem_singleton.1 hx,List.mem_singleton.1 hy];exact Rt.refl
  · rw [hstk] at hy;rcases List.mem_append.1 hy with hy | hy
    · obtain ⟨g,hg,h1,h2⟩:=h.bwd y hy;exact ⟨g,List.mem_append.2 (.inl hg),by rw [hne g (h.stk g (h.gray g hg)),hne y (h.stk y hy)];exact h1,h2⟩
    · rw [List.mem_singleton.1 hy];exact ⟨n,by simp,Int.le_refl _,Rt.refl⟩
  · obtain ⟨x,h1,h2,h3⟩:=h.cls c hc;refine ⟨x,by rw [hne x h1];exact h1,fun e=>?_,h3⟩;rw [hstk] at e;rcases List.mem_append.1 e with e | e
    · exact h2 e
    · rw [List.mem_singleton.1 e] at h1;omega
  · rw [hstk] at hxs;have hxn:x≠n:=fun e=>hxs (by rw [e];simp)
    rw [push_num,if_neg hxn] at hx;exact h.cov x hx (fun e=>hxs (by simp [e]))
  · rw [push_lo,if_neg (fun e=>by rw [e] at hx;omega)]
  · rw [push_lo,if_pos rfl,hnn];omega
  · rw [push_lo,if_pos rfl,hnn]
  · rw [hstk] at hz;rcases List.mem_append.1 hz with hz | hz
    · exact absurd hz hzs
    · exact absurd (List.mem_singleton.1 hz) hzn
theorem Lp.stkn (h:Lp E U s q n G p):n∈q.stack:=by
  obtain ⟨t,e,-⟩:=h.stack;rw [e];simp
theorem Lp.old (h:Lp E U s q n G p) (hi:Inv E U s G) {y:Str} (hy:y∈s.stack):y∈q.stack∧q.num y=s.num y∧q.num y<q.num n:=by
  obtain ⟨t,e,-⟩:=h.stack;refine ⟨by rw [e];simp [hy],(h.mono y (hi.stk y hy)).1,?_⟩;have hs:=h.inv.srt;rw [e,List.pairwise_append] at hs;exact hs.2.2 y hy n (by simp)
theorem Lp.new (h:Lp E U s q n G p) {z:Str} (hz:z∈q.stack) (hzs:z∉s.stack):q.num n≤q.num z:=by
  obtain ⟨t,e,-⟩:=h.stack;have hs:=h.inv.srt;rw [e,List.pairwise_append,List.pairwise_cons] at hs;rw [e] at hz;rcases List.mem_append.1 hz with hz | hz
  · exact absurd hz hzs
  · rcases List.mem_cons.1 hz with hz | hz
    · rw [hz];exact Int.le_refl _
    · have:=hs.2.1.1 z hz;omega
theorem Lp.seen (h:Lp E U s q n G p) (hi:Inv E U s G) {to:Str} (hto:to∈E n) (h1:1≤q.num to):
    Lp E U s (if getI q.on to=1 then lowT n (min (q.lo n) (q.num to)) q else q) n G (p++[to]):=by
  have hns:∀ x,1≤s.num x→x≠n:=fun x hx e=>by
    have h2:=h.fresh;have h3:=(h.mono x hx).1;have:=(hi.sn x).2.2;rw [e] at h3 this;omega
  have hon:=h.inv.onI to;by_cases e:to∈q.stack
  · rw [if_pos e] at hon;rw [if_pos hon];have hlo:(lowT n (min (q.lo n) (q.num to)) q).lo n=min (q.lo n) (q.num to):=by rw [low_lo,if_pos rfl]
    have hl1:=h.lowp;refine ⟨h.inv.low _ _,fun x hx=>⟨(h.mono x hx).1,?_⟩,h.fresh,?_,h.stack,?_,fun z hz hzs hzn y hy hyz=>?_,fun y hy hys=>?_,fun y hy=>?_⟩
    · rw [low_lo,if_neg (hns x hx)];exact (h.mono x hx).2
    · rw [hlo];show 1≤min _ _∧min _ _≤q.num n;omega
    · rw [hlo];show min _ _=q.num n∨_;rcases Int.le_total (q.lo n) (q.num to) with hle | hle
      · rw [Int.min_eq_left hle];exact h.tip
      · rw [Int.min_eq_right hle];by_cases e2:to∈s.stack
        · exact .inr ⟨to,e2,((h.old hi e2).2.1).symm,Rt.one hto⟩
        · have:=h.new e e2;left;omega
    · rw [hlo];have:=h.cross z hz hzs hzn y hy hyz;omega
    · rw [hlo];rcases List.mem_append.1 hy with hy | hy
      · have:=h.crossn y hy hys;omega
      · rw [List.mem_singleton.1 hy] at hys ⊢;have:=(h.old hi hys).2.1;omega
    · rcases List.mem_append.1 hy with hy | hy
      · exact h.seenp y hy
      · rw [List.mem_singleton.1 hy];exact h1
  · rw [if_neg e] at hon;rw [if_neg (by rw [hon];decide)];refine ⟨h.inv,h.mono,h.fresh,h.lowp,h.stack,h.tip,h.cross,fun y hy hys=>?_,fun y hy=>?_⟩
    · rcases List.mem_append.1 hy with hy | hy
      · exact h.crossn y hy hys
      · rw [List.mem_singleton.1 hy] at hys;exact absurd (h.old hi hys).1 e
    · rcases List.mem_append.1 hy with hy | hy
      · exact h.seenp y hy
      · rw [List.mem_singleton.1 hy];exact h1
theorem Lp.pre (h:Lp E U s q n G p) (hi:Inv E U s G) {to:Str} (hto:to∈E n):∀ g∈G++[n],Rt E g to:=fun g hg=>by
  rcases List.mem_append.1 hg with hg | hg
  · have h1:=h.old hi (hi.gray g hg);exact (h.inv.fwd g h1.1 n h.stkn om_).step hto
  · rw [List.mem_singleton.1 hg];exact Rt.one hto
theorem Lp.walked (h:Lp E U s q n G p) (hi:Inv E U s G) {to:Str} {q':TS} (hto:to∈E n) (h0:q.num to=0) (hp:PostT E U q q' to (G++[n])):
    Lp E U s (lowT n (min (q'.lo n) (q'.lo to)) q') n G (p++[to]):=by
  have hns:∀ x,1≤s.num x→x≠n:=fun x hx e=>by
    have h2:=h.fresh;have h3:=(h.mono x hx).1;have:=(hi.sn x).2.2;rw [e] at h3 this;omega
  have hn1:1≤q.num n:=h.inv.stk n h.stkn;have hmn:=hp.mono n hn1;have hlo:(lowT n (min (q'.lo n) (q'.lo to)) q').lo n=min (q.lo n) (q'.lo to):=by rw [low_lo,if_pos rfl,hmn.2]
  have hl1:=h.lowp;have hl2:=hp.lowp;have hm:∀ x,1≤s.num x→q'.num x=s.num x∧q'.lo x=s.lo x:=fun x hx=>by
    have h1:=h.mono x hx;have h2:=hp.mono x (by rw [h1.1];exact hx);exact ⟨h2.1.trans h1.1,h2.2.trans h1.2⟩
  have hsn:(s.seen.length:Int)<q'.num n:=by rw [hmn.1];exact h.fresh
  refine ⟨hp.inv.low _ _,fun x hx=>⟨(hm x hx).1,?_⟩,hsn,?_,?_,?_,fun z hz hzs hzn y hy hyz=>?_,fun y hy hys=>?_,fun y hy=>?_⟩
  · rw [low_lo,if_neg (hns x hx)];exact (hm x hx).2
  · rw [hlo];show 1≤min _ _∧min _ _≤q'.num n;omega
  · obtain ⟨t,e1,e2⟩:=h.stack;obtain ⟨t2,e3,e4⟩:=hp.stack;refine ⟨t++t2,?_,fun z hz=>?_⟩
    · show q'.stack=_;rw [e3,e1,List.append_assoc,List.cons_append]
    · rcases List.mem_append.1 hz with hz | hz
      · exact e2 z hz
      · have h1:=e4 z hz;have h2:=(hi.sn z).2.1;rcases (by omega:s.num z<1∨1≤s.num z) with h3 | h3
        · omega
        · have:=(h.mono z h3).1;omega
  · rw [hlo];show min _ _=q'.num n∨_;rw [hmn.1];rcases Int.le_total (q.lo n) (q'.lo to) with hle | hle
    · rw [Int.min_eq_left hle];exact h.tip
    · rw [Int.min_eq_right hle];rcases hp.tip with ht | ⟨y,hy,hy2,hy3⟩
      · have h3:=hp.fresh;have h4:=(h.inv.sn n).2.2;left;omega
      · by_cases e:y∈s.stack
        · exact .inr ⟨y,e,by rw [← hy2];exact ((h.old hi e).2.1).symm,(Rt.one hto).trans hy3⟩
        · have:=h.new hy e;left;omega
  · rw [hlo];have hz:z∈q'.stack:=hz;have ho:=h.old hi hy;by_cases e:z∈q.stack
    · have:=h.cross z e hzs hzn y hy hyz;omega
    · have:=hp.cross z hz e y ho.1 hyz;omega
  · rw [hlo];rcases List.mem_append.1 hy with hy | hy
    · have:=h.crossn y hy hys;omega
    · rw [List.mem_singleton.1 hy] at hys;have h1:=(h.old hi hys).2.1;have h2:=hi.stk to hys;omega
  · show 1≤q'.num y;rcases List.mem_append.1 hy with hy | hy
    · have h1:=h.seenp y hy;rw [(hp.mono y h1).1];exact h1
    · rw [List.mem_singleton.1 hy];have:=hp.fresh;omega
theorem Lp.stay (h:Lp E U s q n G (E n)) (hi:Inv E U s G) (hlt:q.lo n<q.num n):PostT E U s q n G:=by
  obtain ⟨y0,hy0,hy1,hy2⟩:=h.tip.resolve_left om_;obtain ⟨t,e1,e2⟩:=h.stack;refine ⟨⟨h.inv.sn,h.inv.sub,h.inv.onI,h.inv.stk,h.inv.srt,fun g hg=>h.inv.gray g (List.mem_append.2 (.inl hg)),h.inv.closed,fun x hx hxg y hy=>?_,h.inv.fwd,fun y hy=>?_,h.inv.cls,h.inv.cov,h.inv.nod⟩,h.mono,h.fresh,h.lowp,⟨n :: t,e1,fun z hz=>?_⟩,.inr ⟨y0,hy0,hy1,hy2⟩,fun z hz hzs y hy hyz=>?_⟩
  · by_cases e:x=n
    · rw [e] at hy;exact h.seenp y hy
    · exact h.inv.black x hx (fun e3=>by rcases List.mem_append.1 e3 with e3 | e3;exact hxg e3;exact e (List.mem_singleton.1 e3)) y hy
  · obtain ⟨g,hg,h1,h2⟩:=h.inv.bwd y hy;rcases List.mem_append.1 hg with hg | hg
    · exact ⟨g,hg,h1,h2⟩
    · rw [List.mem_singleton.1 hg] at h1 h2;obtain ⟨g2,hg2,h3,h4⟩:=hi.bwd y0 hy0;have ho:=h.old hi hy0;have ho2:=h.old hi (hi.gray g2 hg2);exact ⟨g2,hg2,by omega,(h2.trans hy2).trans h4⟩
  · rcases List.mem_cons.1 hz with hz | hz
    · rw [hz];have h1:=(hi.sn n).2.1;rcases (by omega:s.num n<1∨1≤s.num n) with h3 | h3
      · omega
      · have h4:=(h.mono n h3).1;have:=h.fresh;have:=(hi.sn n).2.2;omega
    · exact e2 z hz
  · by_cases e:z=n
    · rw [e] at hyz;exact h.crossn y hyz hy
    · exact h.cross z hz hzs e y hy hyz
theorem Lp.out (h:Lp E U s q n G (E n)) (hi:Inv E U s G) (heq:q.lo n=q.num n) {t:List Str} (ht:q.stack=s.stack++n :: t) {z y:Str} (hz:z∈n :: t) (hr:Rt E z y):y∈n :: t∨(1≤q.num y∧y∉q.stack):=by
  induction hr with
  | refl=>exact .inl hz
  | @step a b _ hy ih=>
    rcases ih with ih | ih
    · have ha:a∈q.stack:=by rw [ht];exact List.mem_append.2 (.inr ih)
      have hb:1≤q.num b:=by
        by_cases e:a=n
        · rw [e] at hy;exact h.seenp b hy
        · have hns:a∉G++[n]:=fun e2=>by
            rcases List.mem_append.1 e2 with e2 | e2
            · have hnd:=h.inv.nodup;rw [ht,List.nodup_append] at hnd;exact hnd.2.2 a (hi.gray a e2) a ih rfl
            · exact e (List.mem_singleton.1 e2)
          exact h.inv.black a ha hns b hy
      by_cases hbs:b∈q.stack
      · rw [ht] at hbs;rcases List.mem_append.1 hbs with hbs | hbs
        · have ho:=h.old hi hbs;have has:a∉s.stack:=fun e2=>by
            have hnd:=h.inv.nodup;rw [ht,List.nodup_append] at hnd;exact hnd.2.2 a e2 a ih rfl
          by_cases e:a=n
          · rw [e] at hy;have:=h.crossn b hy hbs;omega
          · have:=h.cross a ha has e b hbs hy;omega
        · exact .inl hbs
      · exact .inr ⟨hb,hbs⟩
    · exact .inr (h.inv.closed a ih.1 ih.2 b hy)
theorem Inv.off (h:Inv E U q G) {z y:Str} (h1:1≤q.num z) (h2:z∉q.stack) (hr:Rt E z y):1≤q.num y∧y∉q.stack:=by
  induction hr with
  | refl=>exact ⟨h1,h2⟩
  | step _ hy ih=>exact h.closed _ ih.1 ih.2 _ hy
theorem Lp.pop (hU:∀ x∈U,∀ y∈E x,y∈U) (hs:Strict U) (h:Lp E U s q n G (E n)) (hi:Inv E U s G) (heq:q.lo n=q.num n):PostT E U s (popT n q) n G:=by
  obtain ⟨t,ht,ht2⟩:=h.stack;have hnd:=h.inv.nodup;rw [ht,List.nodup_append] at hnd;have hdis:∀ x∈s.stack,x∉n :: t:=fun x hx e=>hnd.2.2 x hx x e rfl
  have hnst:n∉s.stack:=fun e=>hdis n e (by simp)
  have hidx:q.stack.idxOf n=s.stack.length:=by
    rw [ht,List.idxOf_append,if_neg hnst];simp
  have hdrop:q.stack.drop (q.stack.idxOf n)=n :: t:=by rw [hidx,ht,List.drop_left]
  have htake:q.stack.take (q.stack.idxOf n)=s.stack:=by rw [hidx,ht,List.take_left]
  have hmem:∀ x,x∈q.stack↔x∈s.stack∨x∈n :: t:=fun x=>by rw [ht,List.mem_append]
  have hCn:∀ z∈n :: t,q.num n≤q.num z:=fun z hz=>h.new ((hmem z).2 (.inr hz)) (fun e=>hdis z e hz)
  have hfw:∀ z∈n :: t,Rt E n z:=fun z hz=>h.inv.fwd n h.stkn z ((hmem z).2 (.inr hz)) (hCn z hz)
  have hbw:∀ z∈n :: t,Rt E z n:=fun z hz=>by
    obtain ⟨g,hg,h1,h2⟩:=h.inv.bwd z ((hmem z).2 (.inr hz));rcases h.out hi heq ht hz h2 with h3 | h3
    · rcases List.mem_append.1 hg with hg | hg
      · exact absurd h3 (hdis g (hi.gray g hg))
      · rw [List.mem_singleton.1 hg] at h2;exact h2
    · exact absurd (h.inv.gray g hg) h3.2
  have hgrp:onceL (n :: t)=clsU E U n:=by
    refine (once_eq (hs.filter _) fun x=>?_).symm;rw [show (U.filter _)=clsU E U n from rfl,mem_cls];constructor
    · rintro ⟨-,h1,h2⟩;rcases h.out hi heq ht (List.mem_cons_self) h1 with h3 | h3
      · exact h3
      · exact absurd h.stkn (h.inv.off h3.1 h3.2 h2).2
    · exact fun hx=>⟨h.inv.sub x (h.inv.stk x ((hmem x).2 (.inr hx))),hfw x hx,hbw x hx⟩
  have hstk:(popT n q).stack=s.stack:=htake;have hout:(popT n q).out=q.out++[clsU E U n]:=by
    show q.out++[onceL (q.stack.drop (q.stack.idxOf n))]=_;rw [hdrop,hgrp]
  have hn1:1≤q.num n:=h.inv.stk n h.stkn;refine ⟨⟨h.inv.sn,h.inv.sub,fun x=>?_,fun x hx=>?_,?_,fun g hg=>?_,fun x hx hxs y hy=>?_,fun x hx hxg y hy=>?_,fun x hx y hy hxy=>?_,fun y hy=>?_,fun c hc=>?_,fun x hx hxs=>?_,?_⟩,h.mono,h.fresh,h.lowp,⟨[],by rw [hstk,List.append_nil],by simp⟩,.inl heq,fun z hz hzs=>?_⟩
  · show getI (offL (onceL (q.stack.drop (q.stack.idxOf n))) q.on) x=_;rw [off_get,hdrop,h.inv.onI,hstk];by_cases e:x∈n :: t
    · rw [if_pos (mem_once.2 e),if_neg (fun h=>hdis x h e)]
    · rw [if_neg (fun h=>e (mem_once.1 h))];by_cases e2:x∈s.stack
      · rw [if_pos ((hmem x).2 (.inl e2)),if_pos e2]
      · rw [if_neg (fun h=>by rcases (hmem x).1 h with h | h;exact e2 h;exact e h),if_neg e2]
  · rw [hstk] at hx;exact h.inv.stk x ((hmem x).2 (.inl hx))
  · rw [hstk];have:=h.inv.srt;rw [ht,List.pairwise_append] at this;exact this.1
  · rw [hstk];exact hi.gray g hg
  · rw [hstk] at hxs ⊢;by_cases e:x∈n :: t
    · rcases h.out hi heq ht e (Rt.one hy) with h1 | h1
      · exact ⟨h.inv.stk y ((hmem y).2 (.inr h1)),fun e2=>hdis y e2 h1⟩
      · exact ⟨h1.1,fun e2=>h1.2 ((hmem y).2 (.inl e2))⟩
    · have:=h.inv.closed x hx (fun e2=>by rcases (hmem x).1 e2 with e2 | e2;exact hxs e2;exact e e2) y hy;exact ⟨this.1,fun e2=>this.2 ((hmem y).2 (.inl e2))⟩
  · rw [hstk] at hx;exact h.inv.black x ((hmem x).2 (.inl hx)) (fun e=>by
      rcases List.mem_append.1 e with e | e
      · exact hxg e
      · rw [List.mem_singleton.1 e] at hx;exact hnst hx) y hy
  · rw [hstk] at hx hy;exact h.inv.fwd x ((hmem x).2 (.inl hx)) y ((hmem y).2 (.inl hy)) hxy
  · rw [hstk] at hy;obtain ⟨g,hg,h1,h2⟩:=h.inv.bwd y ((hmem y).2 (.inl hy));rcases List.mem_append.1 hg with hg | hg
    · exact ⟨g,hg,h1,h2⟩
    · rw [List.mem_singleton.1 hg] at h1;have h1:q.num n≤q.num y:=h1;have:=(h.old hi hy).2.2;omega
  · rw [hout] at hc;rw [hstk];rcases List.mem_append.1 hc with hc | hc
    · obtain ⟨x,h1,h2,h3⟩:=h.inv.cls c hc;exact ⟨x,h1,fun e=>h2 ((hmem x).2 (.inl e)),h3⟩
    · exact ⟨n,hn1,hnst,List.mem_singleton.1 hc⟩
  · rw [hstk] at hxs;rw [hout];by_cases e:x∈n :: t
    · rw [← cls_same (hfw x e) (hbw x e)];simp
    · exact List.mem_append.2 (.inl (h.inv.cov x hx (fun e2=>by rcases (hmem x).1 e2 with e2 | e2;exact hxs e2;exact e e2)))
  · rw [hout,List.nodup_append];refine ⟨h.inv.nod,by simp,fun a ha b hb e=>?_⟩;rw [List.mem_singleton.1 hb] at e;rw [e] at ha;obtain ⟨x,h1,h2,h3⟩:=h.inv.cls _ ha;have h4:x∈clsU E U n:=by rw [h3];exact mem_cls.2 ⟨h.inv.sub x h1,Rt.refl,Rt.refl⟩
    have h5:=(mem_cls.1 h4).2.2;exact absurd h.stkn (h.inv.off h1 h2 h5).2
  · rw [hstk] at hz;exact absurd hz hzs
theorem un_lt {s q:TS} (h:∀ x,1≤s.num x→1≤q.num x) (hs:∀ x,0≤s.num x):unT U q≤unT U s:=by
  unfold unT;rw [← List.countP_eq_length_filter,← List.countP_eq_length_filter];refine List.countP_mono_left fun x _ hx=>?_
  have hx:q.num x=0:=by simpa using hx
  have:=hs x;rcases (by omega:s.num x<1∨1≤s.num x) with h1 | h1
  · simp;omega
  · have:=h x h1;omega
theorem un_push (hn:n∈U) (h0:s.num n=0) (hs:∀ x,0≤s.num x):unT U (pushT n s)+1≤unT U s:=by
  unfold unT;rw [← List.countP_eq_length_filter,← List.countP_eq_length_filter];have key:∀ l:List Str,l.countP (fun x=>decide ((pushT n s).num x=0))≤l.countP (fun x=>decide (s.num x=0))∧(n∈l→l.countP (fun x=>decide ((pushT n s).num x=0))+1≤l.countP (fun x=>decide (s.num x=0))):=by
    intro l;induction l with
    | nil=>exact ⟨Nat.le_refl _,fun h=>by cases h⟩
    | cons y l ih=>
      rw [List.countP_cons,List.countP_cons];by_cases e:y=n
      · have h1:¬ (decide ((pushT n s).num y=0))=true:=by rw [e,push_num,if_pos rfl];simp;omega
        have h2:(decide (s.num y=0))=true:=by rw [e,h0];rfl
        rw [if_neg h1,if_pos h2];exact ⟨by omega,fun _=>by omega⟩
      · have h1:(pushT n s).num y=s.num y:=by rw [push_num,if_neg e]
        rw [h1];refine ⟨by omega,fun h=>?_⟩;have:=ih.2 ((List.mem_cons.1 h).resolve_left (fun h=>e h.symm));omega
  exact (key U).2 hn
end
theorem wk_ok {E:Str→List Str} {U:List Str} (hU:∀ x∈U,∀ y∈E x,y∈U) (hs:Strict U):∀ (f:Nat) (n:Str) (s:TS) (G:List Str),Inv E U s G→s.num n=0→n∈U→(∀ g∈G,Rt E g n)→unT U s≤f→PostT E U s (wk E f n s) n G:=by
  intro f;induction f with
  | zero=>
    intro n s G h h0 hn hp hf;have:0<unT U s:=by
      unfold unT;exact List.length_pos_of_mem (List.mem_filter.2 ⟨hn,by rw [h0];rfl⟩)
    omega
  | succ f ih=>
    intro n s G h h0 hn hp hf;have key:∀ (r p:List Str) (q:TS),p++r=E n→Lp E U s q n G p→Lp E U s (r.foldl (stepT (wk E f) n) q) n G (E n):=by
      intro r;induction r with
      | nil=>intro p q e hq;rw [List.append_nil] at e;rw [← e];exact hq
      | cons to r ihr=>
        intro p q e hq;have hto:to∈E n:=by rw [← e];simp
        rw [List.foldl_cons];refine ihr (p++[to]) _ (by rw [← e,List.append_assoc];rfl) ?_;unfold stepT;by_cases h1:q.num to=0
        · rw [if_pos h1];refine hq.walked h hto h1 (ih to q (G++[n]) hq.inv h1 (hU n hn to hto) (hq.pre h hto) ?_);have a1:=un_push (U:=U) hn h0 (fun x=>(h.sn x).2.1);have a2:unT U q≤unT U (pushT n s):=un_lt (fun x hx=>by
            rw [push_num] at hx;by_cases e:x=n
            · rw [e];exact hq.inv.stk n hq.stkn
            · rw [if_neg e] at hx;rw [(hq.mono x hx).1];exact hx) (fun x=>by
            rw [push_num];split
            · omega
            · exact (h.sn x).2.1)
          omega
        · rw [if_neg h1];exact hq.seen h hto (by have:=(hq.inv.sn to).2.1;omega)
    have hL:=key (E n) [] (pushT n s) rfl (push_ok h h0 hn hp);rw [wk];unfold endT;split
    · rename_i hlt;exact hL.stay h hlt
    · rename_i hlt;exact hL.pop hU hs h (by have:=hL.lowp;omega)
end Go.Gx
namespace Go.Gx
open Go.Proofs Go.Sort
theorem kmaps_oc49:oneCellT Try.prog 49=true:=by kernel_rfl
theorem keys_it (l Bs n₀ b:Nat) (ks:List (Str × Value)) (J Jx:List Str→World→Prop) (w:World) (hAb:AbidesFrom w.heap.size J)
    (hY:∀ pre x W,J pre W→pre.length<ks.length→YieldAt Fence.wide 0 Try.prog l #[S x] W fun e W'=>
      (e=.returned (.bool true)∧J (pre++[x]) W'∧KpB n₀ W W')∨(e=.returned (.bool false)∧Jx (pre++[x]) W'))
    (hBs:w.cell? ⟨Bs,0,none⟩=some (.map (some b))) (hs:MapAt w b ks) (h0:J [] w):
    Ret Try.prog 50 #[.func (.yield l) #[] #[],.pointer (some ⟨Bs,0,none⟩)] w fun _ W'=>(∃ xs:List Str,xs.Perm (ks.map (·.1))∧J xs W')∨(∃ pre:List Str,True∧Jx pre W'):=by
  refine ret_of_W Try.func50 rfl (Nat.le_of_ble_eq_true rfl) (res0 rfl) ?_;refine W.seq (W.region (L.val (x_ld (v:=.map _) kmaps_oc49 rfl hBs) rfl ?_));refine L.rangeM Try.underlying49 rfl rfl hs (fun w5 it5 gn5 hw hz5=>?_);have hJ:=hAb _ _ _ _ h0 gn5 (fun r e=>by cases e);refine L.nil (thn_n (W.block (W.loop (fun m' E w'=>∃ (vis:List (Str × Value)) (k:Nat),m'=ks.length - k∧E 0=.func (.yield l) #[] #[]∧E 5=.pointer (some ⟨w.heap.size,0,none⟩)∧(J (vis.map (·.1)) w')∧(IterAt w' w.heap.size b ks vis)∧(k=vis.length)) (ks.length) ?_ ?_)))
  ·exact ⟨[],0,by omega,vi_,vi_,(by exact hJ),ao_,(by rfl)⟩
  ·rintro _ E wL6 ⟨vis,k,em,e0,e5,hJ,it5,hk⟩;rw [upd_self e0,upd_self e5];refine W.seq (W.region (L.nextM rfl rfl it5 (fun hp6=>?_) (fun kv6 w6 hkv6 hlt6 it5 gn6 hw hz6=>?_)))
   ·refine L.val (x_ext (v:=.bool _) rfl rfl) rfl ?_;refine L.nil (thn_n (W.seq (W.cond (b:=false) rfl (fun h=>nomatch h) (fun _=>?_))));refine W.exit (thn_x (thn_x (blk_hit ?_)));refine fin_mk (.inl rfl) ?_;exact .inl ⟨_,hp6.map _,hJ⟩
   ·have hwk:=IterAt.walk (r:=w.heap.size) ‹IterAt wL6 w.heap.size b ks vis›;have hJ:=hAb _ _ _ _ hJ gn6 (fun r e=>by cases e;exact ⟨Nat.le_refl _,hwk⟩);refine L.val (x_ext (v:=.bool _) rfl rfl) rfl ?_;refine L.nil (thn_n (W.seq (W.cond (b:=true) rfl (fun _=>?_) (fun h=>nomatch h))));refine W.skip (thn_n (W.block (W.seq (W.region (L.val (x_entry rfl it5) rfl ?_)))));refine L.val (x_ext (v:=S _) rfl rfl) rfl ?_;refine L.val (x_as (v:=S _) rfl) rfl ?_;refine L.nil (thn_n (W.seq (W.wide (m:=1) (WI.region ?_))));refine LI.val (fun _=>trivial) (fun _ h=>by cases h) (x_mv (v:=.func _ _ _) rfl) rfl ?_;refine LI.val (fun _=>trivial) (fun _ h=>by cases h) (x_mv (v:=S _) rfl) rfl ?_;refine LI.yield (R:=fun e W'=>∃ z,e=.returned (.bool z)∧(z=true→J (vis.map (·.1)++[kv6.1]) W'∧KpB n₀ w6 W')∧(z=false→Jx (vis.map (·.1)++[kv6.1]) W')) (fun _=>trivial) rfl rfl rfl rfl ((hY (vis.map (·.1)) kv6.1 w6 hJ (by rw [List.length_map];exact hlt6)).mono ?_) (fun e w' ⟨z,h,_⟩=>⟨_,h⟩) ?_
    · rintro e W' (⟨rfl,a1,a2⟩ | ⟨rfl,a1⟩)
      · exact ⟨true,rfl,fun _=>⟨a1,a2⟩,fun h=>by cases h⟩
      · exact ⟨false,rfl,fun h=>(by cases h),fun _=>a1⟩
    rintro u w12 ⟨z,hz,r1,r2⟩;cases hz;refine LI.val (fun _=>trivial) (fun _ h=>by cases h) (x_not rfl) rfl ?_;refine LI.nil ?_;refine thn_n (W.cond (b:=_) rfl (fun g13=>?_) (fun g13=>?_))
    ·have h13:=(not_t g13);refine W.ret (blk_r (thn_r (blk_r (fin_mk (.inr rfl) ?_))));exact .inr ⟨_,trivial,r2 (by simpa using g13)⟩
    ·have h13:=(not_f g13);have h13:=g13;have it5:=it5.keep (r1 (by simpa using h13)).2.2;refine W.skip (blk_n (thn_n ⟨rfl,?_⟩));refine ⟨_,?_,vis++[kv6],k+1,rfl,vi_,vi_,(by rw [List.map_append];exact (r1 (by simpa using h13)).1),ao_,(by simp [hk])⟩;omega
theorem keys_seq (Bs n₀ b:Nat) (ks:List (Str × Value)) (w:World) (hBs:Bs<w.heap.size) (hc:w.cell? ⟨Bs,0,none⟩=some (.map (some b))) (hs:MapAt w b ks):
    SeqStopsK Fence.wide 1 Try.prog 50 #[.pointer (some ⟨Bs,0,none⟩)] (fun x:Str=>#[S x]) (KpB n₀) (fun xs=>xs.Perm (ks.map (·.1))) (fun _=>True) ks.length w:=by
  intro l J Jx w1 hW hA _ hY h0;have hlt:=hs.lt;have hs1:MapAt w1 b ks:=by
    obtain ⟨es,c,h,hm⟩:=hs;exact ⟨es,c,(hW.block b hlt).trans h,hm⟩
  have hc1:=(hW.cell (p:=⟨Bs,0,none⟩) hBs).trans hc;rw [show (#[Value.func (.yield l) #[] #[]]++#[Value.pointer (some ⟨Bs,0,none⟩)]:Array Value)=#[.func (.yield l) #[] #[],.pointer (some ⟨Bs,0,none⟩)] from rfl];refine callsIn_wide.2 (Calls.mono (keys_it l Bs n₀ b ks J Jx w1 hA hY hc1 hs1 h0) ?_);rintro e w2 ⟨u,rfl,h⟩;exact ⟨⟨u,rfl⟩,h⟩
theorem keys_ok (b:Nat) (w:World):Ret Try.prog 27 #[.map (some b)] w fun r w'=>r=.func (.func 50) #[] #[.pointer (some ⟨w.heap.size,0,none⟩)]∧Box w' w.heap.size 49 [.map (some b)]∧Bel w w':=by
  refine ret_of_W Try.func27 rfl (Nat.le_of_ble_eq_true rfl) (res1 rfl) ?_;have hB:=Gr.refl (fun _=>False) w;refine W.seq (W.region (L.box (cs:=[.map (some b)]) rfl rfl (fun w1 bx1 hw hz1=>?_)));have hB:=hB.carry hw;refine L.val (x_as (v:=_) rfl) rfl ?_;refine L.nil (thn_n (W.seq (W.region (L.val (x_mkfn rfl rfl) rfl ?_))));refine L.val (x_as (v:=_) rfl) rfl ?_;refine L.nil (thn_n (W.ret (fin_mk (.inr rfl) ?_)));exact ⟨rfl,bx1,hB⟩
end Go.Gx
namespace Go.Gx
open Go.Proofs
theorem kmapsg_oc47:oneCellT Try.prog 47=true:=by kernel_rfl
theorem keys_itG (l Bs n₀ b:Nat) (ks:List (Str × Value)) (J Jx:List Str→World→Prop) (w:World) (hAb:AbidesFrom w.heap.size J)
    (hY:∀ pre x W,J pre W→pre.length<ks.length→YieldAt Fence.wide 0 Try.prog l #[S x] W fun e W'=>
      (e=.returned (.bool true)∧J (pre++[x]) W'∧KpB n₀ W W')∨(e=.returned (.bool false)∧Jx (pre++[x]) W'))
    (hBs:w.cell? ⟨Bs,0,none⟩=some (.map (some b))) (hs:MapAt w b ks) (h0:J [] w):
    Ret Try.prog 56 #[.func (.yield l) #[] #[],.pointer (some ⟨Bs,0,none⟩)] w fun _ W'=>(∃ xs:List Str,xs.Perm (ks.map (·.1))∧J xs W')∨(∃ pre:List Str,True∧Jx pre W'):=by
  refine ret_of_W Try.func56 rfl (Nat.le_of_ble_eq_true rfl) (res0 rfl) ?_;refine W.seq (W.region (L.val (x_ld (v:=.map _) kmapsg_oc47 rfl hBs) rfl ?_));refine L.rangeM Try.underlying47 rfl rfl hs (fun w5 it5 gn5 hw hz5=>?_);have hJ:=hAb _ _ _ _ h0 gn5 (fun r e=>by cases e);refine L.nil (thn_n (W.block (W.loop (fun m' E w'=>∃ (vis:List (Str × Value)) (k:Nat),m'=ks.length - k∧E 0=.func (.yield l) #[] #[]∧E 5=.pointer (some ⟨w.heap.size,0,none⟩)∧(J (vis.map (·.1)) w')∧(IterAt w' w.heap.size b ks vis)∧(k=vis.length)) (ks.length) ?_ ?_)))
  ·exact ⟨[],0,by omega,vi_,vi_,(by exact hJ),ao_,(by rfl)⟩
  ·rintro _ E wL6 ⟨vis,k,em,e0,e5,hJ,it5,hk⟩;rw [upd_self e0,upd_self e5];refine W.seq (W.region (L.nextM rfl rfl it5 (fun hp6=>?_) (fun kv6 w6 hkv6 hlt6 it5 gn6 hw hz6=>?_)))
   ·refine L.val (x_ext (v:=.bool _) rfl rfl) rfl ?_;refine L.nil (thn_n (W.seq (W.cond (b:=false) rfl (fun h=>nomatch h) (fun _=>?_))));refine W.exit (thn_x (thn_x (blk_hit ?_)));refine fin_mk (.inl rfl) ?_;exact .inl ⟨_,hp6.map _,hJ⟩
   ·have hwk:=IterAt.walk (r:=w.heap.size) ‹IterAt wL6 w.heap.size b ks vis›;have hJ:=hAb _ _ _ _ hJ gn6 (fun r e=>by cases e;exact ⟨Nat.le_refl _,hwk⟩);refine L.val (x_ext (v:=.bool _) rfl rfl) rfl ?_;refine L.nil (thn_n (W.seq (W.cond (b:=true) rfl (fun _=>?_) (fun h=>nomatch h))));refine W.skip (thn_n (W.block (W.seq (W.region (L.val (x_entry rfl it5) rfl ?_)))));refine L.val (x_ext (v:=S _) rfl rfl) rfl ?_;refine L.val (x_as (v:=S _) rfl) rfl ?_;refine L.nil (thn_n (W.seq (W.wide (m:=1) (WI.region ?_))));refine LI.val (fun _=>trivial) (fun _ h=>by cases h) (x_mv (v:=.func _ _ _) rfl) rfl ?_;refine LI.val (fun _=>trivial) (fun _ h=>by cases h) (x_mv (v:=S _) rfl) rfl ?_;refine LI.yield (R:=fun e W'=>∃ z,e=.returned (.bool z)∧(z=true→J (vis.map (·.1)++[kv6.1]) W'∧KpB n₀ w6 W')∧(z=false→Jx (vis.map (·.1)++[kv6.1]) W')) (fun _=>trivial) rfl rfl rfl rfl ((hY (vis.map (·.1)) kv6.1 w6 hJ (by rw [List.length_map];exact hlt6)).mono ?_) (fun e w' ⟨z,h,_⟩=>⟨_,h⟩) ?_
    · rintro e W' (⟨rfl,a1,a2⟩ | ⟨rfl,a1⟩)
      · exact ⟨true,rfl,fun _=>⟨a1,a2⟩,fun h=>by cases h⟩
      · exact ⟨false,rfl,fun h=>(by cases h),fun _=>a1⟩
    rintro u w12 ⟨z,hz,r1,r2⟩;cases hz;refine LI.val (fun _=>trivial) (fun _ h=>by cases h) (x_not rfl) rfl ?_;refine LI.nil ?_;refine thn_n (W.cond (b:=_) rfl (fun g13=>?_) (fun g13=>?_))
    ·have h13:=(not_t g13);refine W.ret (blk_r (thn_r (blk_r (fin_mk (.inr rfl) ?_))));exact .inr ⟨_,trivial,r2 (by simpa using g13)⟩
    ·have h13:=(not_f g13);have h13:=g13;have it5:=it5.keep (r1 (by simpa using h13)).2.2;refine W.skip (blk_n (thn_n ⟨rfl,?_⟩));refine ⟨_,?_,vis++[kv6],k+1,rfl,vi_,vi_,(by rw [List.map_append];exact (r1 (by simpa using h13)).1),ao_,(by simp [hk])⟩;omega
theorem keys_seqG (Bs n₀ b:Nat) (ks:List (Str × Value)) (w:World) (hBs:Bs<w.heap.size) (hc:w.cell? ⟨Bs,0,none⟩=some (.map (some b))) (hs:MapAt w b ks):
    SeqStopsK Fence.wide 1 Try.prog 56 #[.pointer (some ⟨Bs,0,none⟩)] (fun x:Str=>#[S x]) (KpB n₀) (fun xs=>xs.Perm (ks.map (·.1))) (fun _=>True) ks.length w:=by
  intro l J Jx w1 hW hA _ hY h0;have hlt:=hs.lt;have hs1:MapAt w1 b ks:=by
    obtain ⟨es,c,h,hm⟩:=hs;exact ⟨es,c,(hW.block b hlt).trans h,hm⟩
  have hc1:=(hW.cell (p:=⟨Bs,0,none⟩) hBs).trans hc;rw [show (#[Value.func (.yield l) #[] #[]]++#[Value.pointer (some ⟨Bs,0,none⟩)]:Array Value)=#[.func (.yield l) #[] #[],.pointer (some ⟨Bs,0,none⟩)] from rfl];refine callsIn_wide.2 (Calls.mono (keys_itG l Bs n₀ b ks J Jx w1 hA hY hc1 hs1 h0) ?_);rintro e w2 ⟨u,rfl,h⟩;exact ⟨⟨u,rfl⟩,h⟩
theorem keys_okG (b:Nat) (w:World):Ret Try.prog 46 #[.map (some b)] w fun r w'=>r=.func (.func 56) #[] #[.pointer (some ⟨w.heap.size,0,none⟩)]∧Box w' w.heap.size 47 [.map (some b)]∧Bel w w':=by
  refine ret_of_W Try.func46 rfl (Nat.le_of_ble_eq_true rfl) (res1 rfl) ?_;have hB:=Gr.refl (fun _=>False) w;refine W.seq (W.region (L.box (cs:=[.map (some b)]) rfl rfl (fun w1 bx1 hw hz1=>?_)));have hB:=hB.carry hw;refine L.val (x_as (v:=_) rfl) rfl ?_;refine L.nil (thn_n (W.seq (W.region (L.val (x_mkfn rfl rfl) rfl ?_))));refine L.val (x_as (v:=_) rfl) rfl ?_;refine L.nil (thn_n (W.ret (fin_mk (.inr rfl) ?_)));exact ⟨rfl,bx1,hB⟩
end Go.Gx
namespace Go.Gx
open Go.Proofs
section
variable {w:World}
theorem HoldsN.take {p:Option Addr} {n cap sz:Nat} {xs:List Value} (h:HoldsN w (.slice p n cap) n xs) {k:Nat} (hk:k≤n):HoldsN w (.slice p k cap) k (xs.take (k * sz)):=by
  rcases h with ⟨a,c,e,hc⟩ | ⟨c,e,h0,hx⟩
  · cases e;exact .inl ⟨a,cap,rfl,fun j x hj=>hc j x (by rw [List.getElem?_take] at hj;split at hj;exact hj;cases hj)⟩
  · cases e;have:k=0:=by omega
    subst this;exact .inr ⟨cap,rfl,rfl,by simp⟩
theorem HoldsN.drop {p:Option Addr} {n cap sz:Nat} {xs:List Value} (h:HoldsN w (.slice p n cap) n xs) (hl:xs.length=n * sz) (hn:n≤cap) {k:Nat} (hk:k≤n):HoldsN w (.slice (if cap=k then p else p.map (·.add (k * sz))) (n - k) (cap - k)) (n - k) (xs.drop (k * sz)):=by
  rcases h with ⟨a,c,e,hc⟩ | ⟨c,e,h0,hx⟩
  · cases e;by_cases hck:cap=k
    · have hkn:k=n:=by omega
      rw [if_pos hck];refine .inl ⟨a,_,rfl,fun j x hj=>?_⟩;rw [List.drop_of_length_le (by rw [hl,hkn];exact Nat.le_refl _)] at hj;simp at hj
    · rw [if_neg hck];refine .inl ⟨_,_,rfl,fun j x hj=>?_⟩;rw [List.getElem?_drop] at hj;have h1:=hc _ x hj;obtain ⟨b,o,spot⟩:=a;have hlt:=(List.getElem?_eq_some_iff.1 hj).1;have hsp:spot=none:=by simpa [Addr.add] using World.cell?_spot (hc 0 _ (List.getElem?_eq_getElem (by omega:0<xs.length)))
      subst hsp;show w.cell? (((⟨b,o,none⟩:Addr).add (k * sz)).add j)=some x;rw [addp,addp];rw [addp] at h1;rw [← h1];congr 2;omega
  · cases e;have:k=0:=by omega
    subst this;refine .inr ⟨cap - 0,?_,rfl,by rw [hx];simp⟩;split <;> rfl
def RowsC {α : Type} [Inhabited α] (C:Thing α) (A:Nat→Prop) (w:World) (rows:List (List Value)) (l:List α):Prop:=rows.length=l.length∧∀ i,i<l.length→C A w (rows.getD i []) (l.getD i default)
theorem RowsC.append {α : Type} [Inhabited α] {C:Thing α} {A:Nat→Prop} {r r':List (List Value)} {l l':List α} (h:RowsC C A w r l) (h':RowsC C A w r' l'):RowsC C A w (r++r') (l++l'):=by
  refine ⟨by simp [h.1,h'.1],fun i hi=>?_⟩;simp only [List.getD_eq_getElem?_getD];by_cases hlt:i<l.length
  · rw [List.getElem?_append_left (by rw [h.1];exact hlt),List.getElem?_append_left hlt];have:=h.2 i hlt;simpa only [List.getD_eq_getElem?_getD] using this
  · rw [List.getElem?_append_right (by rw [h.1];omega),List.getElem?_append_right om_,h.1];have:=h'.2 (i - l.length) (by simp at hi;omega);simpa only [List.getD_eq_getElem?_getD] using this
theorem RowsC.one {α : Type} [Inhabited α] {C:Thing α} {A:Nat→Prop} {r:List Value} {x:α} (h:C A w r x):RowsC C A w [r] [x]:=⟨rfl,fun i hi=>by match i,hi with | 0,_=>exact h⟩
theorem RowsC.nil {α : Type} [Inhabited α] {C:Thing α} {A:Nat→Prop}:RowsC C A w [] ([]:List α):=⟨rfl,fun i hi=>absurd hi (by simp)⟩
theorem RowsC.take {α : Type} [Inhabited α] {C:Thing α} {A:Nat→Prop} {r:List (List Value)} {l:List α} (h:RowsC C A w r l) (k:Nat):RowsC C A w (r.take k) (l.take k):=by
  refine ⟨by simp [h.1],fun i hi=>?_⟩;have hi2:i<l.length∧i<k:=by rw [List.length_take] at hi;omega
  have:=h.2 i hi2.1;simp only [List.getD_eq_getElem?_getD] at this ⊢
  rwa [List.getElem?_take_of_lt hi2.2,List.getElem?_take_of_lt hi2.2]
theorem RowsC.drop {α : Type} [Inhabited α] {C:Thing α} {A:Nat→Prop} {r:List (List Value)} {l:List α} (h:RowsC C A w r l) (k:Nat):RowsC C A w (r.drop k) (l.drop k):=by
  refine ⟨by simp [h.1],fun i hi=>?_⟩;have hi2:k+i<l.length:=by rw [List.length_drop] at hi;omega
  have:=h.2 (k+i) hi2;simp only [List.getD_eq_getElem?_getD] at this ⊢
  rwa [List.getElem?_drop,List.getElem?_drop]
section
variable {α : Type} [Inhabited α] {C:Thing α} {k:Nat} [Car C k] {A A' R:Nat→Prop} {r:List (List Value)} {l:List α}
theorem RowsC.lens (h:RowsC C A w r l):∀ q∈r,q.length=k:=fun q hq=>by
  obtain ⟨i,hi,rfl⟩:=List.getElem_of_mem hq;have:=Car.len (h.2 i (by rw [← h.1];exact hi))
  rwa [List.getD_eq_getElem?_getD,List.getElem?_eq_getElem hi] at this
omit [Car C k] in
theorem RowsC.ones {k:Nat} [Car C k] (h:RowsC C A w r l):∀ u∈r.flatten,u.oneCell'=true:=fun u hu=>by
  obtain ⟨q,hq,hu⟩:=List.mem_flatten.1 hu;obtain ⟨i,hi,rfl⟩:=List.getElem_of_mem hq;refine Car.one (h.2 i (by rw [← h.1];exact hi)) u ?_
  rwa [List.getD_eq_getElem?_getD,List.getElem?_eq_getElem hi]
omit [Car C k] in
theorem RowsC.carryR {k:Nat} [Car C k] {w':World} (h:RowsC C A w r l) (g:Gr R w w') (hR:∀ j,R j→A j):RowsC C A w' r l:=⟨h.1,fun i hi=>Car.carryR (h.2 i hi) g hR⟩
omit [Car C k] in
theorem RowsC.carry {k:Nat} [Car C k] {w':World} (h:RowsC C A w r l) (g:Bel w w'):RowsC C A w' r l:=⟨h.1,fun i hi=>Car.carry (h.2 i hi) g⟩
omit [Car C k] in
theorem RowsC.mono {k:Nat} [Car C k] (h:RowsC C A w r l) (hA:∀ b,b<w.heap.size→A' b→A b):RowsC C A' w r l:=⟨h.1,fun i hi=>Car.mono (h.2 i hi) hA⟩
theorem RowsC.done {base:Nat} {e:TypeId} {v:Value} (h:RowsC C A w r l) (ho:Own w base e k v l.length r.flatten) (hl:l.length≤70368744177664) (hA:∀ j,A' j→A j) (hb:∀ j,base≤j→¬ A' j):RecsAt C k A' w v l:=
  RecOwn.done (A:=A) ⟨r,h.1,ho,fun i hi=>Car.len (h.2 i hi),h.2⟩ hl hA hb
theorem RowsC.doneB {base:Nat} {e:TypeId} {v:Value} (h:RowsC C A w r l) (ho:Own w base e k v l.length r.flatten) (hl:l.length≤70368744177664) (hA:∀ j,A' j→A j) (hb:∀ j,some j=v.ownBlock→¬ A' j):RecsAt C k A' w v l:=by
  have h1:=h.done (A':=fun j=>A' j∧j<base) ho hl (fun j hj=>hA j hj.1) (fun j h1 h2=>by omega);obtain ⟨p,cap,row,e1,g1,g2,g3,hR⟩:=h1;refine ⟨p,cap,row,e1,g1,g2,g3,fun hne=>?_,hR.len,fun i hi=>?_⟩
  · obtain ⟨b,o,hp,-,hc⟩:=hR.at_ hne;exact ⟨b,o,hp,hb b (by rw [e1,hp];rfl),hc⟩
  · obtain ⟨b,o,hp,-,hc⟩:=hR.at_ (by rintro rfl;simp at hi);have hrow:row i=r.getD i []:=by
      rcases Own.open ho with ⟨h1,h2,h3⟩ | ⟨g,cp,tl,h1,-,-,-,hbx⟩
      · rw [h2] at hi;omega
      · have hr:∀ q∈r,q.length=k:=h.lens;rw [h1,hp] at e1;simp only [Value.slice.injEq,Option.some.injEq,Addr.mk.injEq,and_true] at e1;obtain ⟨⟨rfl,rfl⟩,-⟩:=e1;have hri:i<r.length:=by rw [h.1];exact hi
        have hl1:(r.getD i []).length=k:=Car.len (h.2 i hi);apply List.ext_getElem?;intro j;by_cases hj:j<k
        · rw [← hc i j hi hj,Nat.zero_add,← flatk hr hj hri];have hv:(r.getD i [])[j]? = some ((r.getD i [])[j]'om_):=List.getElem?_eq_getElem om_;have hf:=flatk hr hj hri;rw [hv] at hf;have hlt:i * k+j<r.flatten.length:=(List.getElem?_eq_some_iff.1 hf).1;rw [hf];exact hbx.cell (by rw [List.getElem?_append_left hlt];exact hf)
        · rw [List.getElem?_eq_none (by rw [hR.len i hi];omega),List.getElem?_eq_none om_]
    rw [hrow];exact Car.mono (h.2 i hi) fun j _ hj=>hA j hj
omit [Car C k] in
end
end
end Go.Gx
