/- In a region that draws and stores: what is asked, or not, is taken first, too. Conditions: none. -/
import Derived.Lib.Join
import Derived.Test.YtjhcicmlpnkgeaaGreatProg
import Derived.Test.YtjhcicmlpnkgeaaGreatMDrawD
import Derived.Test.YtjhcicmlpnkgeaaGreatMFits
import Derived.Test.YtjhcicmlpnkgeaaGreatMSort1
import Derived.Test.YtjhcicmlpnkgeaaGreatMSort3
import Derived.Test.YtjhcicmlpnkgeaaGreatMSeq
namespace Go.Gx
variable {P:Program} {ops:Array Oper} {C0 C1:World→Prop}
section
variable {n st:Nat} {K:List Deferred→Env→World→Prop} {D:List Deferred} {E:Env} {w:World}
theorem LAD.takeY {fuel:Nat} {listed:Array Bool} {i d:Nat} {o:Oper} {v:Value}
    (ho:ops[i]? = some o) (hod:o.dst=some d) (hs:Region.noSelect ops=true) (hf:Region.free .any ops listed i=true) (hr:(Region.ready .any ops listed).contains i=true) (hne:Nat.beq st i=false)
    (hx:∀ a,Fr D n a E→YF P ops C0 o v a) (hd:Nat.blt d n=true) (k:LAD P n ops C0 C1 st K fuel (listed.setIfInBounds i true) D (upd E d v) w):LAD P n ops C0 C1 st K (fuel+1) listed D E w:=by
  intro a ha;refine wpAnyD.take0 ho (Region.noSelect_spec hs) ?_ (fun h=>by subst h;simp at hne) fuel listed a w (Region.free_spec ho hf) (by simpa using hr) (hx a ha) ?_
  · rintro c a w ⟨_,E,_,h,_⟩;cases h
  · rw [hod];exact k _ (ha.put v hd)
theorem LAD.takeG {fuel:Nat} {listed:Array Bool} {i d j dj:Nat} {op:Op} {t:TypeId} {p:String} {af:Array Edge} {v:Value} {want b:Bool}
    (ho:ops[i]? = some ⟨some d,op,t,p,af,some (j,want)⟩) (hs:Region.noSelect ops=true) (hf:Region.free .any ops listed i=true) (hr:(Region.ready .any ops listed).contains i=true) (hne:Nat.beq st i=false)
    (hj:(ops[j]?).bind (·.dst)=some dj) (hE:E dj=.bool b) (hb:b=want)
    (hx:∀ w,C0 w→X P op t E w v w) (hd:Nat.blt d n=true) (k:LAD P n ops C0 C1 st K fuel (listed.setIfInBounds i true) D (upd E d v) w):LAD P n ops C0 C1 st K (fuel+1) listed D E w:=
  LAD.takeY ho rfl hs hf hr hne (fun a ha=>.inl ⟨wanted_yes rfl hj ha (hb ▸ hE),fun w hw=>by
    have:=hx w hw;unfold X at this;rw [execOp_bare,ha.eval];exact this⟩) hd k
theorem LAD.takeU {fuel:Nat} {listed:Array Bool} {i d j dj:Nat} {op:Op} {t:TypeId} {p:String} {af:Array Edge} {want b:Bool}
    (ho:ops[i]? = some ⟨some d,op,t,p,af,some (j,want)⟩) (hs:Region.noSelect ops=true) (hf:Region.free .any ops listed i=true) (hr:(Region.ready .any ops listed).contains i=true) (hne:Nat.beq st i=false)
    (hj:(ops[j]?).bind (·.dst)=some dj) (hE:E dj=.bool b) (hb:b=!want)
    (hd:Nat.blt d n=true) (k:LAD P n ops C0 C1 st K fuel (listed.setIfInBounds i true) D (upd E d undef) w):LAD P n ops C0 C1 st K (fuel+1) listed D E w:=
  LAD.takeY ho rfl hs hf hr hne (fun _ ha=>.inr ⟨wanted_no rfl hj ha hE hb,rfl⟩) hd k
theorem LAD.split {fuel:Nat} {listed:Array Bool} {dj:Nat} {b:Bool} (_hE:E dj=.bool b) (ht:b=true→LAD P n ops C0 C1 st K fuel listed D E w) (hf:b=false→LAD P n ops C0 C1 st K fuel listed D E w):LAD P n ops C0 C1 st K fuel listed D E w:=by
  cases b
  · exact hf rfl
  · exact ht rfl
end
end Go.Gx
namespace Go.Gx
open Go.Proofs
theorem shs_of_box {A:Nat→Prop} {w:World} {b:Nat} {t:TypeId} (rows:List (List Value)) (l:List Sh) (h:Box w b t rows.flatten) (hA:¬ A b) (hl:l.length≤70368744177664) (hr:rows.length=l.length)
    (hs:∀ i,i<l.length→ShC A w (rows.getD i []) (l.getD i default)):ShsAt A w (.slice (some ⟨b,0,none⟩) l.length l.length) l:=by
  refine ⟨some ⟨b,0,none⟩,l.length,fun i=>rows.getD i [],rfl,Nat.le_refl _,by omega,hl,⟨fun _=>⟨b,0,rfl,hA,fun i j hi hj=>?_⟩,fun i hi=>(hs i hi).len,hs⟩⟩;have h5:∀ r∈rows,r.length=5:=fun r hm=>by
    obtain ⟨i,hi,rfl⟩:=List.getElem_of_mem hm;have:=(hs i om_).len
    rwa [List.getD_eq_getElem?_getD,List.getElem?_eq_getElem hi] at this
  have hf:=flat5 h5 hj (by omega:i<rows.length);have hlen:(rows.getD i []).length=5:=(hs i hi).len;have hv:(rows.getD i [])[j]? = some ((rows.getD i [])[j]'om_):=List.getElem?_eq_getElem om_;show w.cell? ⟨b,0+i * 5+j,none⟩=(rows.getD i [])[j]?;rw [hv] at hf ⊢;rw [show 0+i * 5+j=i * 5+j by omega];exact h.cell hf
abbrev leafC (k:Int):List Value:=[.int .i64 k,S [],S [],.slice none 0 0,.slice none 0 0]
theorem leaf (A:Nat→Prop) (w:World) (k:Int):ShC A w (leafC k) (.mk k [] [] [] []):=
  ShC.intro (StrsAt.nil _ _ _ _ (by simp)) (ShsAt.nil _ _ _ _ (by simp)) (by simp) (by simp)
theorem each1 {p:List Value→Sh→Prop} {r:List Value} {s:Sh} (h:p r s):∀ i,i < [s].length→p ([r].getD i []) ([s].getD i default):=by
  intro i hi
  match i,hi with
  | 0,_=>exact h
end Go.Gx
