/- Rows of names in their order; groups in the order of their least; in plain terms. Conditions: none. -/
import Derived.Sort.Statements
import Derived.Test.YtigcdmnhmfeioaaGgGrT
import Derived.Test.YtigcdmnhmfeioaaGgSrtG
import Derived.Test.YtigcdmnhmfeioaaGgGrM
namespace Go.Gx
open Go.Sort
def cmp1 (a b:Str):Int:=if ltStr a b=true then -1 else if ltStr b a=true then 1 else 0
def cmpL:List Str→List Str→Int
  | [],[]=>0
  | [],_ :: _=>-1
  | _ :: _,[]=>1
  | x :: a,y :: b=>if cmp1 x y=0 then cmpL a b else cmp1 x y
def ltL:List Str→List Str→Bool
  | [],[]=>false
  | [],_ :: _=>true
  | _ :: _,[]=>false
  | x :: a,y :: b=>ltStr x y || (x == y && ltL a b)
theorem cmp1_lt (a b:Str):cmp1 a b<0↔ltStr a b=true:=by
  unfold cmp1;split
  · rename_i h;simp [h]
  · split
    · rename_i h h2;simp [h]
    · rename_i h h2;simp [h]
theorem cmp1_zero (a b:Str):cmp1 a b=0↔a=b:=by
  constructor
  · intro h;refine Classical.byContradiction fun e=>?_
    unfold cmp1 at h;split at h
    · cases h
    · rename_i h1
      rw [if_pos (lt_tot (by simpa using h1) e)] at h;cases h
  · rintro rfl;unfold cmp1;rw [lt_irr,if_neg (by simp),if_neg (by simp)]
theorem cmpL_lt:∀ (a b:List Str),decide (cmpL a b<0)=ltL a b
  | [],[]=>rfl
  | [],_ :: _=>rfl
  | _ :: _,[]=>rfl
  | x :: a,y :: b=>by
    rw [cmpL,ltL];by_cases e:cmp1 x y=0
    · rw [if_pos e,cmpL_lt a b];have e:=(cmp1_zero _ _).1 e;rw [e,lt_irr];simp
    · rw [if_neg e];have e2:¬ x=y:=fun h=>e ((cmp1_zero _ _).2 h)
      have e3:(x == y)=false:=by simpa using e2
      rw [e3,Bool.false_and,Bool.or_false,Bool.eq_iff_iff,decide_eq_true_eq];exact cmp1_lt _ _
theorem ltL_irr:∀ a:List Str,ltL a a=false
  | []=>rfl
  | x :: a=>by rw [ltL,lt_irr,ltL_irr a];simp
theorem ltL_tr:∀ {a b c:List Str},ltL a b=true→ltL b c=true→ltL a c=true
  | [],[],_,h,_=>by cases h
  | [],_ :: _,[],_,h=>by cases h
  | [],_ :: _,_ :: _,_,_=>rfl
  | _ :: _,[],_,h,_=>by cases h
  | _ :: _,_ :: _,[],_,h=>by cases h
  | x :: a,y :: b,z :: c,h1,h2=>by
    rw [ltL,Bool.or_eq_true,Bool.and_eq_true,beq_iff_eq] at h1 h2 ⊢;rcases h1 with h1 | ⟨rfl,h1⟩
    · rcases h2 with h2 | ⟨rfl,h2⟩
      · exact .inl (lt_tr h1 h2)
      · exact .inl h1
    · rcases h2 with h2 | ⟨rfl,h2⟩
      · exact .inl h2
      · exact .inr ⟨rfl,ltL_tr h1 h2⟩
theorem ltL_tot:∀ {a b:List Str},ltL a b=false→a≠b→ltL b a=true
  | [],[],_,h=>absurd rfl h
  | [],_ :: _,h,_=>by cases h
  | _ :: _,[],_,_=>rfl
  | x :: a,y :: b,h,hne=>by
    rw [ltL,Bool.or_eq_false_iff] at h;rw [ltL,Bool.or_eq_true,Bool.and_eq_true,beq_iff_eq];by_cases e:x=y
    · subst e;have h2:=h.2;rw [beq_self_eq_true,Bool.true_and] at h2;exact .inr ⟨rfl,ltL_tot h2 fun e=>hne (by rw [e])⟩
    · exact .inl (lt_tot h.1 e)
theorem ltL_as {a b:List Str} (h:ltL a b=true):ltL b a=false:=by
  cases hb:ltL b a
  · rfl
  · have:=ltL_tr h hb;rw [ltL_irr] at this;cases this
theorem swo_ltL:SWO ltL where
  irrefl:=ltL_irr
  trans _ _ _ h1 h2:=ltL_tr h1 h2
  ntrans x y z h1 h2:=by
    cases h:ltL x z
    · rfl
    · by_cases e:y=z
      · rw [e,h] at h1;cases h1
      · have:=ltL_tr h (ltL_tot h2 e);rw [h1] at this;cases this
theorem ltL_eq:∀ {l m:List (List Str)},l.Pairwise (fun a b=>ltL a b=true)→m.Pairwise (fun a b=>ltL a b=true)→(∀ x,x∈l↔x∈m)→l=m
  | [],[],_,_,_=>rfl
  | [],y :: m,_,_,h=>by have:=(h y).2 (by simp);cases this
  | x :: l,[],_,_,h=>by have:=(h x).1 (by simp);cases this
  | x :: l,y :: m,hl,hm,h=>by
    rw [List.pairwise_cons] at hl hm;have e:x=y:=by
      rcases List.mem_cons.1 ((h x).1 (by simp)) with e | hx
      · exact e
      · rcases List.mem_cons.1 ((h y).2 (by simp)) with e | hy
        · exact e.symm
        · have h1:=hm.1 x hx;have h2:=hl.1 y hy;rw [ltL_as h1] at h2;cases h2
    subst e;rw [ltL_eq hl.2 hm.2 fun z=>?_];have hz:=h z;constructor
    · intro hm1;rcases List.mem_cons.1 (hz.1 (List.mem_cons_of_mem _ hm1)) with e | h1
      · rw [e] at hm1;have:=hl.1 _ hm1;rw [ltL_irr] at this;cases this
      · exact h1
    · intro hm1;rcases List.mem_cons.1 (hz.2 (List.mem_cons_of_mem _ hm1)) with e | h1
      · rw [e] at hm1;have:=hm.1 _ hm1;rw [ltL_irr] at this;cases this
      · exact h1
noncomputable def gF (E:Str→List Str) (U:List Str):List Str→List Str→List (List Str)
  | [],_=>[]
  | u :: r,done=>if done.contains u=true then gF E U r done else clsU E U u :: gF E U r (done++clsU E U u)
section
variable {E:Str→List Str} {U:List Str}
open Classical in
theorem gF_ok (hs:Strict U):∀ (r pre done:List Str),pre++r=U→(∀ x,x∈done↔∃ y∈pre,x∈clsU E U y)→
    (∀ c∈gF E U r done,∃ u t,u∈r∧c=clsU E U u∧c=u :: t)∧(gF E U r done).Pairwise (fun a b=>ltL a b=true)∧∀ u∈r,clsU E U u∈gF E U r done∨u∈done
  | [],_,_,_,_=>⟨by simp [gF],by simp [gF],by simp⟩
  | u :: r,pre,done,hU,hd=>by
    have hU':(pre++[u])++r=U:=by rw [← hU];simp
    have huU:u∈U:=by rw [← hU];simp
    by_cases hc:done.contains u=true
    · have huD:=List.contains_iff_mem.1 hc;rw [gF,if_pos hc];obtain ⟨a1,a2,a3⟩:=gF_ok hs r (pre++[u]) done hU' fun x=>by
        rw [hd];constructor
        · rintro ⟨y,hy,h⟩;exact ⟨y,by simp [hy],h⟩
        · rintro ⟨y,hy,h⟩;rcases List.mem_append.1 hy with hy | hy
          · exact ⟨y,hy,h⟩
          · rw [List.mem_singleton.1 hy] at h;obtain ⟨z,hz,h2⟩:=(hd u).1 huD;have h3:=mem_cls.1 h2;exact ⟨z,hz,by rw [cls_same h3.2.1 h3.2.2];exact h⟩
      refine ⟨fun c h=>?_,a2,fun v hv=>?_⟩
      · obtain ⟨v,t,h1,h2⟩:=a1 c h;exact ⟨v,t,List.mem_cons_of_mem _ h1,h2⟩
      · rcases List.mem_cons.1 hv with e | hv
        · rw [e];exact .inr huD
        · exact a3 v hv
    · have huD:u∉done:=fun h=>hc (List.contains_iff_mem.2 h)
      rw [gF,if_neg hc];obtain ⟨a1,a2,a3⟩:=gF_ok hs r (pre++[u]) (done++clsU E U u) hU' fun x=>by
        rw [List.mem_append,hd];constructor
        · rintro (⟨y,hy,h⟩ | h)
          · exact ⟨y,by simp [hy],h⟩
          · exact ⟨u,by simp,h⟩
        · rintro ⟨y,hy,h⟩;rcases List.mem_append.1 hy with hy | hy
          · exact .inl ⟨y,hy,h⟩
          · rw [List.mem_singleton.1 hy] at h;exact .inr h
      have hhead:∃ t,clsU E U u=u :: t:=by
        refine ⟨clsU E r u,?_⟩;conv=>lhs;rw [← hU]
        unfold clsU;rw [List.filter_append,List.filter_eq_nil_iff.2 (fun y hy h=>by
          have h:=of_decide_eq_true h;exact huD ((hd u).2 ⟨y,hy,mem_cls.2 ⟨huU,h.2,h.1⟩⟩)),List.nil_append,List.filter_cons,if_pos (decide_eq_true ⟨Rt.refl,Rt.refl⟩)]
      obtain ⟨t,ht⟩:=hhead;refine ⟨fun c h=>?_,?_,fun v hv=>?_⟩
      · rcases List.mem_cons.1 h with e | h
        · exact ⟨u,t,by simp,e,by rw [e,ht]⟩
        · obtain ⟨v,t,h1,h2⟩:=a1 c h;exact ⟨v,t,List.mem_cons_of_mem _ h1,h2⟩
      · rw [List.pairwise_cons];refine ⟨fun c h=>?_,a2⟩;obtain ⟨v,t',h1,-,h2⟩:=a1 c h;rw [ht,h2,ltL];have hsU:=hs;rw [← hU,Strict,List.pairwise_append,List.pairwise_cons] at hsU;rw [hsU.2.1.1 v h1,Bool.true_or]
      · rcases List.mem_cons.1 hv with e | hv
        · rw [e];exact .inl (List.mem_cons_self)
        · rcases a3 v hv with h | h
          · exact .inl (List.mem_cons_of_mem _ h)
          · rcases List.mem_append.1 h with h | h
            · exact .inr h
            · have h3:=mem_cls.1 h;rw [← cls_same h3.2.1 h3.2.2];exact .inl List.mem_cons_self
noncomputable def groupsS (E:Str→List Str) (U:List Str):List (List Str):=gF E U U []
theorem groups_sorted (hs:Strict U):(groupsS E U).Pairwise (fun a b=>ltL a b=true):=(gF_ok hs U [] [] rfl (by simp)).2.1
theorem mem_groups (hs:Strict U) {c:List Str}:c∈groupsS E U↔∃ u∈U,c=clsU E U u:=by
  obtain ⟨a1,-,a3⟩:=gF_ok (E:=E) hs U [] [] rfl (by simp);constructor
  · intro h;obtain ⟨u,t,h1,h2,-⟩:=a1 c h;exact ⟨u,h1,h2⟩
  · rintro ⟨u,h1,rfl⟩;rcases a3 u h1 with h | h
    · exact h
    · cases h
theorem Inv.empty {s:TS} (h:Inv E U s []):s.stack=[]:=List.eq_nil_iff_forall_not_mem.2 fun y hy=>by
  obtain ⟨g,hg,-⟩:=h.bwd y hy;cases hg
theorem inv0:Inv E U ⟨[],[],[],[],[]⟩ []:=
  ⟨fun x=>⟨⟨fun h=>(by cases h),fun h=>absurd h (by show ¬ (1:Int)≤0;omega)⟩,Int.le_refl _,Int.le_refl _⟩,fun x h=>absurd h (by show ¬ (1:Int)≤0;omega),fun x=>rfl,fun x h=>(by cases h),List.Pairwise.nil,fun x h=>(by cases h),fun x h=>absurd h (by show ¬ (1:Int)≤0;omega),fun x h=>(by cases h),fun x h=>(by cases h),fun x h=>(by cases h),fun x h=>(by cases h),fun x h=>absurd h (by show ¬ (1:Int)≤0;omega),List.nodup_nil⟩
theorem groups_eq (hs:Strict U) {s:TS} (h:Inv E U s []) (hall:∀ x∈U,1≤s.num x) {l:List (List Str)} (hp:l.Perm s.out) (hl:l.Pairwise fun a b=>ltL b a=false):l=groupsS E U:=by
  refine ltL_eq ?_ (groups_sorted hs) fun c=>?_
  · have hn:=hp.nodup_iff.2 h.nod;refine (hl.and hn).imp fun {a b} hab=>?_
    exact ltL_tot hab.1 fun e=>hab.2 e.symm
  · rw [hp.mem_iff,mem_groups hs];constructor
    · intro hc;obtain ⟨x,h1,-,h3⟩:=h.cls c hc;exact ⟨x,h.sub x h1,h3⟩
    · rintro ⟨u,hu,rfl⟩;exact h.cov u (hall u hu) (by rw [h.empty];simp)
end
end Go.Gx
namespace Go.Gx
open Go.Proofs Go.Sort
theorem ksortg_en39:Go.Proofs.Enters Try.prog 39:=Go.Proofs.enters_of Try.func39 kr_ rfl
theorem ksortg_en52:Go.Proofs.Enters Try.prog 52:=Go.Proofs.enters_of Try.func52 kr_ rfl
theorem ksortg_en53:Go.Proofs.Enters Try.prog 53:=Go.Proofs.enters_of Try.func53 kr_ rfl
theorem ksortg_en54:Go.Proofs.Enters Try.prog 54:=Go.Proofs.enters_of Try.func54 kr_ rfl
theorem ksortg_en59:Go.Proofs.Enters Try.prog 59:=Go.Proofs.enters_of Try.func59 kr_ rfl
theorem ksortg_en68:Go.Proofs.Enters Try.prog 68:=Go.Proofs.enters_of Try.func68 kr_ rfl
theorem ksortg_en69:Go.Proofs.Enters Try.prog 69:=Go.Proofs.enters_of Try.func69 kr_ rfl
theorem ksortg_oc9:oneCellT Try.prog 9=true:=by kernel_rfl
theorem ksortg_sz9:(Try.prog.info? 9).map (·.size)=some 1:=by kernel_rfl
theorem L.tab0 {P:Program} {n:Nat} {Q:Post} {D:List Deferred} {E:Env} {w:World} {ops:Array Oper} {r:List Oper} {d:Nat} {x y:Operand} {t s:TypeId} {p:String} {af:Array Edge} {a:Str} {k:IntKind} {i:Int} (hu:P.underlying s=some .string) (hx:ev E x=S a) (hy:ev E y=.int k i) (hi:i=0)
    (hl:Nat.ble 256 a.length=true) (hd:Nat.blt d n=true) (kk:∀ m:Nat,m<256→L P n ops Q r D (upd E d (.int .u8 (m:Nat))) w):L P n ops Q (⟨some d,.index s x y,t,p,af,none⟩ :: r) D E w:=
  L.val (x_ixs (j:=0) hu hx hy (by rw [hi];rfl) (by have:=Nat.le_of_ble_eq_true hl;omega)) hd (kk _ (UInt8.toNat_lt _))
set_option maxRecDepth 100000 in
theorem len640 (w:World):Ret Try.prog 68 #[.int .u64 0] w fun v w'=>(∃ k:Nat,v=.int .i64 (k:Nat)∧k<256)∧Bel w w':=by
  refine ret_of_W Try.func68 rfl (Nat.le_of_ble_eq_true rfl) (res1 rfl) ?_;have hB:=Gr.refl (fun _=>False) w;refine W.seq (W.region (L.val (x_as (v:=.int _ _) rfl) rfl ?_));refine L.nil (thn_n (W.seq (W.seq (W.region (L.val (x_mv (v:=.int _ _) rfl) rfl ?_)))));refine L.val (x_geq rfl rfl) rfl ?_;refine L.nil (thn_n (W.cond (b:=_) rfl (fun g4=>?_) (fun g4=>?_)))
  ·have h4:=of_decide_eq_true g4;exact absurd g4 (by decide)
  ·have h4:=dle_f g4;refine W.skip (thn_n (W.seq (W.seq (W.region (L.val (x_mv (v:=.int _ _) rfl) rfl ?_)))));refine L.val (x_geq rfl rfl) rfl ?_;refine L.nil (thn_n (W.cond (b:=_) rfl (fun g8=>?_) (fun g8=>?_)))
   ·have h8:=of_decide_eq_true g8;exact absurd g8 (by decide)
   ·have h8:=dle_f g8;refine W.skip (thn_n (W.seq (W.seq (W.region (L.val (x_mv (v:=.int _ _) rfl) rfl ?_)))));refine L.val (x_geq rfl rfl) rfl ?_;refine L.nil (thn_n (W.cond (b:=_) rfl (fun g14=>?_) (fun g14=>?_)))
    ·have h14:=of_decide_eq_true g14;exact absurd g14 (by decide)
    ·have h14:=dle_f g14;refine W.skip (thn_n (W.seq (W.region (L.val (x_mv (v:=.int _ _) rfl) rfl ?_))));refine L.val (x_mv (v:=.int _ _) rfl) rfl ?_;refine L.val (x_conv (k':=.u8) (by rw [Try.underlying89];rfl) Try.underlying5 rfl (wru8 om_)) rfl ?_;refine L.tab0 Try.underlying9 rfl rfl rfl kr_ rfl (fun m hm=>?_);refine L.val (x_conv (k':=.i64) (by rw [Try.underlying5];rfl) Try.underlying3 rfl (wr64 om_)) rfl ?_;refine L.val (x_add rfl rfl (wr64 om_)) rfl ?_;refine L.val (x_as (v:=.int _ _) rfl) rfl ?_;refine L.nil (thn_n (W.ret (fin_mk (.inr rfl) ?_)));exact ⟨⟨_,vi (Int.zero_add _),hm⟩,hB⟩
theorem len0 (w:World):Ret Try.prog 53 #[.int .u64 0] w fun v w'=>(∃ k:Nat,v=.int .i64 (k:Nat)∧k<256)∧Bel w w':=by
  refine ret_of_W Try.func53 rfl (Nat.le_of_ble_eq_true rfl) (res1 rfl) ?_;have hB:=Gr.refl (fun _=>False) w;refine W.seq (W.region (L.val (x_as (v:=.int _ _) rfl) rfl ?_));refine L.nil (thn_n (W.seq (W.cond (b:=false) rfl (fun h=>nomatch h) (fun _=>?_))));refine W.skip (thn_n (W.seq (W.region (L.val (x_mv (v:=.int _ _) rfl) rfl ?_))));refine L.ret (x_call ksortg_en68 rfl) rfl (len640 _) ?_;rintro _ w7 ⟨⟨k,rfl,hk⟩,hw⟩;have hB:=hB.carry hw;refine L.val (x_as (v:=.int _ _) rfl) rfl ?_;refine L.nil (thn_n (W.ret (fin_mk (.inr rfl) ?_)));exact ⟨⟨_,rfl,hk⟩,hB⟩
theorem ins0 (gF:Nat) (w:World):Ret Try.prog 59 #[.slice none 0 0,.int .i64 0,.int .i64 0,.func (.func gF) #[] #[]] w fun _ w'=>Bel w w':=by
  refine ret_of_W Try.func59 rfl (Nat.le_of_ble_eq_true rfl) (res0 rfl) ?_;have hB:=Gr.refl (fun _=>False) w;refine W.seq (W.region (L.val (x_mv (v:=.int _ _) rfl) rfl ?_));refine L.val (x_add rfl rfl (wr64 om_)) rfl ?_;refine L.val (x_as (v:=.int _ _) rfl) rfl ?_;refine L.nil (thn_n (W.block (W.loop (fun m' E w'=>∃ (i:Nat),m'=0∧E 2=.int .i64 0∧E 8=.int .i64 1∧(Bel w w')) (0) ?_ ?_)))
  ·exact ⟨0,by omega,vi_,vi_,ao_⟩
  ·rintro _ E wL12 ⟨i,em,e2,e8,hB⟩;rw [upd_self e2,upd_self e8];refine W.seq (W.seq (W.region (L.val (x_mv (v:=.int _ _) rfl) rfl ?_)));refine L.val (x_mv (v:=.int _ _) rfl) rfl ?_;refine L.val (x_lss rfl rfl) rfl ?_;refine L.nil (thn_n (W.cond (b:=_) rfl (fun g14=>?_) (fun g14=>?_)))
   ·have h14:=of_decide_eq_true g14;exact absurd g14 (by decide)
   ·have h14:=dlt_f g14;refine W.exit (thn_x (thn_x (blk_hit ?_)));refine fin_mk (.inl rfl) ?_;exact hB
theorem pdq0 (gF:Nat) (l:Int) (w:World):Ret Try.prog 52 #[.slice none 0 0,.int .i64 0,.int .i64 0,.int .i64 l,.func (.func gF) #[] #[]] w fun _ w'=>Bel w w':=by
  refine ret_of_W Try.func52 rfl (Nat.le_of_ble_eq_true rfl) (res0 rfl) ?_;have hB:=Gr.refl (fun _=>False) w;refine W.seq (W.region (L.val (x_as (v:=.bool _) rfl) rfl ?_));refine L.nil (thn_n (W.seq (W.region (L.val (x_as (v:=.bool _) rfl) rfl ?_))));refine L.nil (thn_n (W.block (W.loop (fun m' E w'=>∃ (i:Nat),m'=0∧E 0=.slice none 0 0∧E 1=.int .i64 0∧E 2=.int .i64 0∧E 4=.func (.func gF) #[] #[]∧(Bel w w')) (0) ?_ ?_)))
  ·exact ⟨0,by omega,vi_,vi_,vi_,vi_,ao_⟩
  ·rintro _ E wL21 ⟨i,em,e0,e1,e2,e4,hB⟩;rw [upd_self e0,upd_self e1,upd_self e2,upd_self e4];refine W.block (W.seq (W.region (L.val (x_mv (v:=.int _ _) rfl) rfl ?_)));refine L.val (x_mv (v:=.int _ _) rfl) rfl ?_;refine L.val (x_sub rfl rfl (wr64 om_)) rfl ?_;refine L.val (x_as (v:=.int _ _) rfl) rfl ?_;refine L.nil (thn_n (W.seq (W.seq (W.region (L.val (x_mv (v:=.int _ _) rfl) rfl ?_)))));refine L.val (x_leq rfl rfl) rfl ?_;refine L.nil (thn_n (W.cond (b:=_) rfl (fun g25=>?_) (fun g25=>?_)))
   ·have h25:=of_decide_eq_true g25;refine W.seq (W.region (L.val (x_mv (v:=.slice _ _ _) rfl) rfl ?_));refine L.val (x_mv (v:=.int _ _) rfl) rfl ?_;refine L.val (x_mv (v:=.int _ _) rfl) rfl ?_;refine L.val (x_mv (v:=.func _ _ _) rfl) rfl ?_;refine L.ret (x_call ksortg_en59 rfl) rfl (ins0 gF _) ?_;rintro _ w30 hw;have hB:=hB.carry hw;refine L.nil (thn_n (W.ret (thn_r (blk_r (thn_r (blk_r (fin_mk (.inr rfl) ?_)))))));exact hB
   ·have h25:=dle_f g25;exact absurd g25 (by decide)
theorem sortfunc0 (gF:Nat) (w:World):Ret Try.prog 37 #[.slice none 0 0,.func (.func gF) #[] #[]] w fun _ w'=>Bel w w':=by
  refine ret_of_W Try.func37 rfl (Nat.le_of_ble_eq_true rfl) (res0 rfl) ?_;have hB:=Gr.refl (fun _=>False) w;refine W.seq (W.region (L.val (x_mv (v:=.slice _ _ _) rfl) rfl ?_));refine L.val (x_len_slice Try.underlying32 rfl) rfl ?_;refine L.val (x_as (v:=.int _ _) rfl) rfl ?_;refine L.nil (thn_n (W.region (L.val (x_mv (v:=.slice _ _ _) rfl) rfl ?_)));refine L.val (x_mv (v:=.int _ _) rfl) rfl ?_;refine L.val (x_mv (v:=.int _ _) rfl) rfl ?_;refine L.val (x_conv (k':=.u64) (by rw [Try.underlying3];rfl) Try.underlying74 rfl (wru64 om_)) rfl ?_;refine L.ret (x_call ksortg_en53 rfl) rfl (len0 _) ?_;rintro _ w11 ⟨⟨k,rfl,hk⟩,hw⟩;have hB:=hB.carry hw;refine L.val (x_mv (v:=.func _ _ _) rfl) rfl ?_;refine L.ret (x_call ksortg_en52 rfl) rfl (pdq0 gF _ _) ?_;rintro _ w13 hw;have hB:=hB.carry hw;refine L.nil (fin_mk (.inl rfl) ?_);exact hB
theorem sortfunc_okG {α : Type} [Inhabited α] {enc:α → Value} {gF:Nat} {cp:List Value} {cf:α → α → Int} {N0:Nat} (eg:Enters Try.prog gF) (he1:∀ x,(enc x).oneCell'=true) (hS:SWO (ltc cf))
    (b o cap n:Nat) (T:TypeId) (hd tl:List Value) (d:Array α) (w:World) (hC:Cmp Try.prog enc gF cp cf b N0 w) (hR:Row enc w b o T hd d tl) (hn:d.size=n) (h1:1≤n) (hc:n≤2000000000000000000):
    Ret Try.prog 37 #[.slice (some ⟨b,o,none⟩) n cap,.func (.func gF) #[] cp.toArray] w fun v w'=>v=.tuple #[]∧Gr (· = b) w w'∧∃ d',Row enc w' b o T hd d' tl∧PermIn 0 n d d'∧SortedIn (ltc cf) 0 n d':=by
  refine ret_of_W Try.func37 rfl (Nat.le_of_ble_eq_true rfl) (res0 rfl) ?_;have hB:=Gr.refl (fun _=>False) w;refine W.seq (W.region (L.val (x_mv (v:=.slice _ _ _) rfl) rfl ?_));refine L.val (x_len_slice Try.underlying32 rfl) rfl ?_;refine L.val (x_as (v:=.int _ _) rfl) rfl ?_;refine L.nil (thn_n (W.region (L.val (x_mv (v:=.slice _ _ _) rfl) rfl ?_)));refine L.val (x_mv (v:=.int _ _) rfl) rfl ?_;refine L.val (x_mv (v:=.int _ _) rfl) rfl ?_;refine L.val (x_conv (k':=.u64) (by rw [Try.underlying3];rfl) Try.underlying74 rfl (wru64 om_)) rfl ?_;refine L.ret (x_call ksortg_en53 rfl) rfl (len_ok n _ h1 om_) ?_;rintro _ w11 ⟨k,rfl,k1,k2,k3,k4,hw⟩;have hB:=hB.carry hw;have hR:=hR.carry hw;refine L.val (x_mv (v:=.func _ _ _) rfl) rfl ?_;refine L.ret (x_call ksortg_en52 rfl) rfl (pdq_okG eg he1 b o cap n T hd tl hc hS (n+1) 0 n k d _ (hC.mvB hB) om_ hR hn om_ (Nat.le_refl _) om_ (.inl rfl)) ?_;rintro _ w13 ⟨rfl,hg,d',hR',p1,p2⟩;refine L.nil (fin_mk (.inl rfl) ?_);exact ⟨rfl,(hB.mono fun _ _ h=>h.elim).trans hg,d',hR',p1,p2⟩
theorem x_gts {P:Program} {E:Env} {w:World} {x y:Operand} {t u z:TypeId} {a b:Str} (hx:ev E x=S a) (hy:ev E y=S b):X P (.binOp .gtr u x y z) t E w (.bool (!(Op.bytesLess a b || a == b))) w:=by
  have h:binOp .gtr u (.string ⟨a.toArray⟩) (.string ⟨b.toArray⟩)=pure (.bool !(Op.bytesLess a b || a == b)):=by simp [binOp,Op.stringOp]
  unfold X;simp [execOp,hx,hy,S,eqGuard,h]
theorem isnan36 (x:Str) (w:World):Ret Try.prog 69 #[S x] w fun r w'=>r=.bool false∧Bel w w':=by
  refine ret_of_W Try.func69 rfl (Nat.le_of_ble_eq_true rfl) (res1 rfl) ?_;have hB:=Gr.refl (fun _=>False) w;refine W.seq (W.region (L.val (x_as (v:=.bool _) rfl) rfl ?_));refine L.nil (thn_n (W.seq (W.region (L.val (x_mv (v:=S _) rfl) rfl ?_))));refine L.val (x_mv (v:=S _) rfl) rfl ?_;refine L.val (x_nes rfl rfl) rfl ?_;refine L.val (x_as (v:=.bool _) rfl) rfl ?_;refine L.nil (thn_n (W.ret (fin_mk (.inr rfl) ?_)));exact ⟨vb (by simp),hB⟩
theorem cmp36 (x y:Str) (w:World):Ret Try.prog 54 #[S x,S y] w fun r w'=>r=.int .i64 (cmp1 x y)∧Bel w w':=by
  refine ret_of_W Try.func54 rfl (Nat.le_of_ble_eq_true rfl) (res1 rfl) ?_;have hB:=Gr.refl (fun _=>False) w;refine W.seq (W.region (L.val (x_as (v:=.int _ _) rfl) rfl ?_));refine L.nil (thn_n (W.seq (W.region (L.val (x_mv (v:=S _) rfl) rfl ?_))));refine L.ret (x_call ksortg_en69 rfl) rfl (isnan36 x _) ?_;rintro _ w8 ⟨rfl,hw⟩;have hB:=hB.carry hw;refine L.val (x_as (v:=.bool _) rfl) rfl ?_;refine L.nil (thn_n (W.seq (W.region (L.val (x_mv (v:=S _) rfl) rfl ?_))));refine L.ret (x_call ksortg_en69 rfl) rfl (isnan36 y _) ?_;rintro _ w10 ⟨rfl,hw⟩;have hB:=hB.carry hw;refine L.val (x_as (v:=.bool _) rfl) rfl ?_;refine L.nil (thn_n (W.seq (W.seq (W.region (L.val (x_mv (v:=.bool _) rfl) rfl ?_)))));refine L.nil (thn_n (W.cond (b:=_) rfl (fun g8=>?_) (fun g8=>?_)))
  ·have h8:=g8;exact absurd g8 (by decide)
  ·have h8:=g8;refine W.skip (thn_n (W.seq (W.seq (W.region (L.val (x_mv (v:=.bool _) rfl) rfl ?_)))));refine L.nil (thn_n (W.cond (b:=_) rfl (fun g10=>?_) (fun g10=>?_)))
   ·have h10:=g10;exact absurd g10 (by decide)
   ·have h10:=g10;refine W.skip (thn_n (W.seq (W.seq (W.region (L.val (x_mv (v:=S _) rfl) rfl ?_)))));refine L.val (x_mv (v:=S _) rfl) rfl ?_;refine L.val (x_lts rfl rfl) rfl ?_;refine L.nil (thn_n (W.cond (b:=_) rfl (fun g16=>?_) (fun g16=>?_)))
    ·have h16:=g16;refine W.seq (W.region (L.val (x_as (v:=.int _ _) rfl) rfl ?_));refine L.nil (thn_n (W.ret (thn_r (fin_mk (.inr rfl) ?_))));exact ⟨vi (by unfold cmp1;rw [if_pos ((lt_bytesG x y).symm.trans g16)]),hB⟩
    ·have h16:=g16;have h16:ltStr x y=false:=(lt_bytesG x y).symm.trans g16;refine W.skip (thn_n (W.seq (W.seq (W.region (L.val (x_mv (v:=S _) rfl) rfl ?_)))));refine L.val (x_mv (v:=S _) rfl) rfl ?_;refine L.val (x_gts rfl rfl) rfl ?_;refine L.nil (thn_n (W.cond (b:=_) rfl (fun g19=>?_) (fun g19=>?_)))
     ·have h19:=g19;have h19:ltStr y x=true:=by
        rw [lt_bytesG,h16,Bool.false_or,Bool.not_eq_true',beq_eq_false_iff_ne] at g19;exact lt_tot h16 g19
      refine W.seq (W.region (L.val (x_as (v:=.int _ _) rfl) rfl ?_));refine L.nil (thn_n (W.ret (thn_r (fin_mk (.inr rfl) ?_))));exact ⟨vi (by unfold cmp1;rw [if_neg (by rw [h16];simp),if_pos h19]),hB⟩
     ·have h19:=g19;have h19:x=y:=by
        rw [lt_bytesG,h16,Bool.false_or,Bool.not_eq_false',beq_iff_eq] at g19;exact g19
      refine W.skip (thn_n (W.seq (W.region (L.val (x_as (v:=.int _ _) rfl) rfl ?_))));refine L.nil (thn_n (W.ret (fin_mk (.inr rfl) ?_)));exact ⟨vi (by rw [h19,(cmp1_zero y y).2 rfl]),hB⟩
theorem cmpL_drop {a b:List Str} {k:Nat} (ha:k<a.length) (hb:k<b.length):cmpL (a.drop k) (b.drop k)=if cmp1 (a.getD k []) (b.getD k [])=0 then cmpL (a.drop (k+1)) (b.drop (k+1)) else cmp1 (a.getD k []) (b.getD k []):=by
  rw [List.drop_eq_getElem_cons ha,List.drop_eq_getElem_cons hb,cmpL,List.getD_eq_getElem?_getD,List.getD_eq_getElem?_getD,List.getElem?_eq_getElem ha,List.getElem?_eq_getElem hb];rfl
theorem compare36 (A B:Nat→Prop) (v u:Value) (a b:List Str) (w:World) (ha:StrsAt A w v a) (hb:StrsAt B w u b):Ret Try.prog 39 #[v,u] w fun r w'=>r=.int .i64 (cmpL a b)∧Bel w w':=by
  obtain ⟨p,cap,rfl,p1,p2,p3,-⟩:=id ha;obtain ⟨p',cap',rfl,q1,q2,q3,-⟩:=id hb;refine ret_of_W Try.func39 rfl (Nat.le_of_ble_eq_true rfl) (res1 rfl) ?_;have hB:=Gr.refl (fun _=>False) w;refine W.seq (W.region (L.val (x_as (v:=.int _ _) rfl) rfl ?_));refine L.nil (thn_n (W.seq (W.seq (W.region (L.val (x_mv (v:=.slice _ _ _) rfl) rfl ?_)))));refine L.val (x_len_slice Try.underlying23 rfl) rfl ?_;refine L.val (x_mv (v:=.int _ _) rfl) rfl ?_;refine L.nil (thn_n (W.block (W.loop (fun m' E w'=>∃ (k:Nat),m'=a.length - k∧E 0=.slice p a.length cap∧E 1=.slice p' b.length cap'∧E 9=.slice p a.length cap∧E 10=.int .i64 (a.length:Nat)∧E 11=.int .i64 (k:Nat)∧(Bel w w')∧(StrsAt A w' (.slice p a.length cap) a)∧(StrsAt B w' (.slice p' b.length cap') b)∧(k≤a.length)∧(k≤b.length)∧(cmpL a b=cmpL (a.drop k) (b.drop k))) (a.length) ?_ ?_)))
  ·exact ⟨0,by omega,vi_,vi_,vi_,vi_,vi_,ao_,ao_,ao_,ao_,ao_,(by rfl)⟩
  ·rintro _ E wL12 ⟨k,em,e0,e1,e9,e10,e11,hB,ha,hb,hk,hkb,he⟩;rw [upd_self e0,upd_self e1,upd_self e9,upd_self e10,upd_self e11];refine W.seq (W.region (L.val (x_lss rfl rfl) rfl ?_));refine L.nil (thn_n (W.seq (W.cond (b:=_) rfl (fun g12=>?_) (fun g12=>?_))))
   ·have h12:=of_decide_eq_true g12;have hlt:k<a.length:=by omega
    obtain ⟨c,o,rfl,hc⟩:=ha.elem hlt;refine W.skip (thn_n (W.seq (W.block (W.seq (W.region (L.val (x_mv (v:=.int _ _) rfl) rfl ?_))))));refine L.val (x_ia1 (j:=k) Try.underlying23 ksortg_sz9 rfl rfl om_ om_) rfl ?_;refine L.val (x_ld (v:=S _) ksortg_oc9 rfl hc) rfl ?_;refine L.val (x_as (v:=.int _ _) rfl) rfl ?_;refine L.val (x_as (v:=S _) rfl) rfl ?_;refine L.nil (thn_n (W.seq (W.seq (W.region (L.val (x_mv (v:=.int _ _) rfl) rfl ?_)))));refine L.val (x_mv (v:=.slice _ _ _) rfl) rfl ?_;refine L.val (x_len_slice Try.underlying23 rfl) rfl ?_;refine L.val (x_geq rfl rfl) rfl ?_;refine L.nil (thn_n (W.cond (b:=_) rfl (fun g19=>?_) (fun g19=>?_)))
    ·have h19:=of_decide_eq_true g19;have hkl:k=b.length:=by omega
     have he3:cmpL a b=1:=by rw [he,hkl,List.drop_length,List.drop_eq_getElem_cons om_];rfl
     refine W.seq (W.region (L.val (x_as (v:=.int _ _) rfl) rfl ?_));refine L.nil (thn_n (W.ret (thn_r (blk_r (thn_r (thn_r (blk_r (thn_r (fin_mk (.inr rfl) ?_)))))))));exact ⟨vi he3.symm,hB⟩
    ·have h19:=dle_f g19;have hltb:k<b.length:=by omega
     obtain ⟨c',o',rfl,hc'⟩:=hb.elem hltb;have hdr:=cmpL_drop hlt hltb;refine W.skip (thn_n (W.seq (W.region (L.val (x_mv (v:=.slice _ _ _) rfl) rfl ?_))));refine L.val (x_mv (v:=.int _ _) rfl) rfl ?_;refine L.val (x_ia1 (j:=k) Try.underlying23 ksortg_sz9 rfl rfl om_ om_) rfl ?_;refine L.val (x_ld (v:=S _) ksortg_oc9 rfl hc') rfl ?_;refine L.val (x_as (v:=S _) rfl) rfl ?_;refine L.nil (thn_n (W.seq (W.region (L.val (x_mv (v:=S _) rfl) rfl ?_))));refine L.val (x_mv (v:=S _) rfl) rfl ?_;refine L.ret (x_call ksortg_en54 rfl) rfl (cmp36 _ _ _) ?_;rintro _ w26 ⟨rfl,hw⟩;have hB:=hB.carry hw;have ha:=ha.carry hw;have hb:=hb.carry hw;refine L.val (x_as (v:=.int _ _) rfl) rfl ?_;refine L.nil (thn_n (W.seq (W.region (L.val (x_mv (v:=.int _ _) rfl) rfl ?_))));refine L.val (x_neq rfl rfl) rfl ?_;refine L.nil (thn_n (W.cond (b:=_) rfl (fun g28=>?_) (fun g28=>?_)))
     ·have h28:=dne_t g28;rw [if_neg h28] at hdr;refine W.seq (W.region (L.val (x_mv (v:=.int _ _) rfl) rfl ?_));refine L.val (x_as (v:=.int _ _) rfl) rfl ?_;refine L.nil (thn_n (W.ret (blk_r (thn_r (thn_r (blk_r (thn_r (fin_mk (.inr rfl) ?_))))))));exact ⟨vi (by rw [he,hdr]),hB⟩
     ·have h28:=dne_f g28;rw [if_pos h28] at hdr;have he2:cmpL a b=cmpL (a.drop (k+1)) (b.drop (k+1)):=by rw [he,hdr]
      refine W.skip (blk_n (thn_n (W.region (L.val (x_add rfl rfl (wr64 om_)) rfl ?_))));refine L.val (x_mv (v:=.int _ _) rfl) rfl ?_;refine L.nil (thn_n ⟨rfl,?_⟩);refine ⟨_,?_,k+1,rfl,vi_,vi_,vi_,vi_,vi_,ao_,ao_,ao_,ao_,ao_,(by exact he2)⟩;omega
   ·have h12:=dlt_f g12;have hka:k=a.length:=by omega
    rw [hka,List.drop_length] at he;refine W.exit (thn_x (thn_x (blk_hit ?_)));refine thn_n (W.seq (W.seq (W.region (L.val (x_mv (v:=.slice _ _ _) rfl) rfl ?_))));refine L.val (x_len_slice Try.underlying23 rfl) rfl ?_;refine L.val (x_mv (v:=.slice _ _ _) rfl) rfl ?_;refine L.val (x_len_slice Try.underlying23 rfl) rfl ?_;refine L.val (x_lss rfl rfl) rfl ?_;refine L.nil (thn_n (W.cond (b:=_) rfl (fun g35=>?_) (fun g35=>?_)))
    ·have h35:=of_decide_eq_true g35;have he4:cmpL a b=-1:=by rw [he,List.drop_eq_getElem_cons om_];rfl
     refine W.seq (W.region (L.val (x_as (v:=.int _ _) rfl) rfl ?_));refine L.nil (thn_n (W.ret (thn_r (fin_mk (.inr rfl) ?_))));exact ⟨vi he4.symm,hB⟩
    ·have h35:=dlt_f g35;have he4:cmpL a b=0:=by rw [he,List.drop_of_length_le om_];rfl
     refine W.skip (thn_n (W.seq (W.region (L.val (x_as (v:=.int _ _) rfl) rfl ?_))));refine L.nil (thn_n (W.ret (fin_mk (.inr rfl) ?_)));exact ⟨vi he4.symm,hB⟩
theorem less36 (A B:Nat→Prop) (v u:Value) (a b:List Str) (w:World) (ha:StrsAt A w v a) (hb:StrsAt B w u b):Ret Try.prog 38 #[v,u] w fun r w'=>r=.int .i64 (cmpL a b)∧Bel w w':=by
  obtain ⟨p,cap,rfl,-⟩:=id ha;obtain ⟨p',cap',rfl,-⟩:=id hb;refine ret_of_W Try.func38 rfl (Nat.le_of_ble_eq_true rfl) (res1 rfl) ?_;have hB:=Gr.refl (fun _=>False) w;refine W.seq (W.region (L.val (x_as (v:=.int _ _) rfl) rfl ?_));refine L.nil (thn_n (W.seq (W.region (L.val (x_mv (v:=.slice _ _ _) rfl) rfl ?_))));refine L.val (x_mv (v:=.slice _ _ _) rfl) rfl ?_;refine L.ret (x_call ksortg_en39 rfl) rfl (compare36 A B _ _ a b _ ha hb) ?_;rintro _ w7 ⟨rfl,hw⟩;have hB:=hB.carry hw;refine L.val (x_as (v:=.int _ _) rfl) rfl ?_;refine L.nil (thn_n (W.ret (fin_mk (.inr rfl) ?_)));exact ⟨rfl,hB⟩
end Go.Gx
