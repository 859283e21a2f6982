/- The document's store: transactions as bytes, and read. Conditions: none. -/
import Derived.Test.YtdklfpoofgagmaaGreatQbRfY
import Derived.Test.YtdklfpoofgagmaaGreatQbRf2
import Derived.Test.YtdklfpoofgagmaaGreatQbStoD
import Derived.Test.YtdklfpoofgagmaaGreatQbWaf2
namespace Go.Gx
open Go.Proofs Go.Sort
theorem takeListF_inv:∀ {n:Nat} {s:Str} {a:Nat},a≤s.length→(takeListF n s a).2.2=0→(takeListF n s a).1.length=n∧a≤(takeListF n s a).2.1∧(takeListF n s a).2.1≤s.length∧(s.drop a).take ((takeListF n s a).2.1 - a)=((takeListF n s a).1.map textB).flatten
  | 0,s,a,ha,_=>by simp [takeListF,ha]
  | n+1,s,a,ha,h=>by
    rw [takeListF] at h ⊢;by_cases h1:(takeText s a).2.2≠0
    · rw [if_pos h1] at h;exact absurd h h1
    rw [if_neg h1] at h ⊢;by_cases h2:(takeListF n s (takeText s a).2.1).2.2≠0
    · rw [if_pos h2] at h;exact absurd h h2
    rw [if_neg h2];have h1:(takeText s a).2.2=0:=by simpa using h1
    have h2:(takeListF n s (takeText s a).2.1).2.2=0:=by simpa using h2
    obtain ⟨l1,l2,l3⟩:=takeText_le h1;obtain ⟨i1,i2,i3,i4⟩:=takeListF_inv l2 h2;have it:=takeText_inv h1;refine ⟨by rw [List.length_cons,i1],by dsimp only;omega,i3,?_⟩;dsimp only;rw [List.map_cons,List.flatten_cons,← it,← i4,show (takeListF n s (takeText s a).2.1).2.1 - a=((takeText s a).2.1 - a)+((takeListF n s (takeText s a).2.1).2.1 - (takeText s a).2.1) by omega,take_add',List.drop_drop,show a+((takeText s a).2.1 - a)=(takeText s a).2.1 by omega]
theorem takeList_inv {s:Str} (h:(takeList s 0).2.2=0) (ht:(takeList s 0).2.1=s.length):s=listB (takeList s 0).1:=by
  unfold takeList at h ht ⊢;by_cases h1:(takeNum s 0).2.2≠0
  · rw [if_pos h1] at h;exact absurd h h1
  rw [if_neg h1] at h ht ⊢;have h1:(takeNum s 0).2.2=0:=by simpa using h1
  obtain ⟨l1,l2,l3⟩:=takeNum_le h1;have hn:=takeNum_inv h1;obtain ⟨i1,i2,i3,i4⟩:=takeListF_inv l2 h;rw [ht] at i4;unfold listB;rw [i1,← i4,← hn,List.drop_zero,Nat.sub_zero,List.take_of_length_le (l:=s.drop _) (by rw [List.length_drop];omega),List.take_append_drop]
theorem takeList_small {s:Str} (h:(takeList s 0).2.2=0) (ht:(takeList s 0).2.1=s.length):(takeList s 0).1.length≤s.length∧∀ x∈(takeList s 0).1,x.length≤s.length:=by
  have e:=takeList_inv h ht;have hl:s.length=(numB (takeList s 0).1.length).length+(((takeList s 0).1.map textB).flatten).length:=by
    conv=>lhs;rw [e]
    unfold listB;rw [List.length_append]
  exact ⟨by have:=texts_len (takeList s 0).1;omega,fun x hx=>by have:=texts_mem hx;omega⟩
theorem listB_inj {l m:List Str} (hl:l.length≤20000∧∀ s∈l,s.length≤20000) (hm:m.length≤20000∧∀ s∈m,s.length≤20000) (h:listB l=listB m):l=m:=by
  have h1:=takeList_listB hl.1 hl.2;have h2:=takeList_listB hm.1 hm.2;rw [h] at h1;rw [h1] at h2;exact congrArg (·.1) h2
def outT:List Str→List Ed
  | k :: m :: v :: r=>⟨k,v,m == [71]⟩ :: outT r
  | _=>[]
theorem trip_out:∀ (l:List Str) (x:List Ed),trip l=some x→x=outT l∧bodyL (outT l)=l∧l.length % 3=0
  | [],x,h=>by cases h;exact ⟨rfl,rfl,rfl⟩
  | [_],x,h=>by cases h
  | [_,_],x,h=>by cases h
  | k :: m :: v :: r,x,h=>by
    rw [trip] at h;by_cases hm:m=[86]∨m=[71]
    · rw [if_pos hm] at h;cases ht:trip r with
      | none=>rw [ht] at h;cases h
      | some y=>
        rw [ht] at h;obtain ⟨h1,h2,h3⟩:=trip_out r y ht;cases h;refine ⟨by rw [h1];rfl,?_,by simp only [List.length_cons];omega⟩;show k :: (if (m == [71])=true then [71] else [86]) :: v :: bodyL (outT r)=_;rw [h2];rcases hm with rfl | rfl <;> rfl
    · rw [if_neg hm] at h;cases h
theorem out_trip:∀ (l:List Str),bodyL (outT l)=l→trip l=some (outT l)
  | [],_=>rfl
  | [_],h=>by cases h
  | [_,_],h=>by cases h
  | k :: m :: v :: r,h=>by
    have h:k :: (if (m == [71])=true then [71] else [86]) :: v :: bodyL (outT r)=k :: m :: v :: r:=h;have hm:(if (m == [71])=true then ([71]:Str) else [86])=m:=by injection h with _ h;injection h
    have hr:bodyL (outT r)=r:=by injection h with _ h;injection h with _ h;injection h
    rw [trip,out_trip r hr,if_pos (by rw [← hm];split <;> simp)];rfl
theorem outT_len:∀ l:List Str,3 * (outT l).length≤l.length
  | []=>Nat.le_refl _
  | [_]=>by simp [outT]
  | [_,_]=>by simp [outT]
  | k :: m :: v :: r=>by
    have:=outT_len r;simp only [outT,List.length_cons];omega
theorem outT_take:∀ (l:List Str) (k:Nat),3 * k+2<l.length→outT (l.take (3 * (k+1)))=outT (l.take (3 * k))++[⟨l.getD (3 * k) [],l.getD (3 * k+2) [],l.getD (3 * k+1) [] == [71]⟩]
  | a :: b :: c :: r,0,_=>rfl
  | [],k,h=>by simp at h
  | [_],k,h=>absurd h (by simp)
  | [_,_],k,h=>absurd h (by simp only [List.length_cons,List.length_nil];omega)
  | a :: b :: c :: r,k+1,h=>by
    have ih:=outT_take r k (by simp only [List.length_cons] at h;omega);rw [show 3 * (k+1+1)=3 * (k+1)+1+1+1 by omega,List.take_succ_cons,List.take_succ_cons,List.take_succ_cons,outT,ih,
      show 3 * (k+1)=3 * k+1+1+1 by omega,List.take_succ_cons,List.take_succ_cons,List.take_succ_cons,outT]
    rfl
theorem out_mem:∀ (l:List Str) (e:Ed),e∈outT l→(e.key∈l∧e.val∈l)
  | [],e,h=>by cases h
  | [_],e,h=>by cases h
  | [_,_],e,h=>by cases h
  | k :: m :: v :: r,e,h=>by
    rcases List.mem_cons.1 h with rfl | h
    · exact ⟨by simp,by simp⟩
    · obtain ⟨h1,h2⟩:=out_mem r e h;exact ⟨by simp [h1],by simp [h2]⟩
theorem editsB_out {s:Str} (hs:s.length≤20000):editsB s=if (takeList s 0).2.2≠0∨(takeList s 0).2.1≠s.length∨(takeList s 0).1.length % 3≠0 then none else if mayL (outT (takeList s 0).1)=true∧bodyB (outT (takeList s 0).1)=s then some (outT (takeList s 0).1) else none:=by
  unfold editsB;by_cases h1:(takeList s 0).2.2≠0∨(takeList s 0).2.1≠s.length
  · rw [if_pos h1,if_pos (h1.imp id .inl)]
  rw [if_neg h1];obtain ⟨ha,hb⟩:(takeList s 0).2.2=0∧(takeList s 0).2.1=s.length:=by
    constructor
    · exact Decidable.not_not.1 (fun e=>h1 (.inl e))
    · exact Decidable.not_not.1 (fun e=>h1 (.inr e))
  have hinv:=takeList_inv ha hb;have hsm:=takeList_small ha hb;generalize (takeList s 0).1=l at hinv hsm;by_cases h3:l.length % 3≠0
  · rw [if_pos (.inr (.inr h3))];cases ht:trip l with
    | none=>rfl
    | some x=>exact absurd (trip_out l x ht).2.2 h3
  rw [if_neg (by rintro (e | e | e);exact e ha;exact e hb;exact h3 e)];have hbl:=bodyL_len (outT l);have hol:=outT_len l;have hbody:bodyB (outT l)=s↔bodyL (outT l)=l:=by
    constructor
    · intro h;rw [hinv] at h;refine listB_inj ⟨by omega,fun x hx=>?_⟩ ⟨by omega,fun x hx=>by have:=hsm.2 x hx;omega⟩ h;unfold bodyL at hx;obtain ⟨y,hy,hx⟩:=List.mem_flatten.1 hx;obtain ⟨e,he,rfl⟩:=List.mem_map.1 hy;obtain ⟨m1,m2⟩:=out_mem l e he;simp only [List.mem_cons,List.not_mem_nil,or_false] at hx;rcases hx with rfl | rfl | rfl
      · have:=hsm.2 _ m1;omega
      · split <;> simp
      · have:=hsm.2 _ m2;omega
    · intro h;rw [hinv];unfold bodyB;rw [h]
  by_cases hb2:bodyL (outT l)=l
  · rw [out_trip l hb2,Option.bind_some];by_cases hm:mayL (outT l)=true
    · rw [if_pos hm,if_pos ⟨hm,hbody.2 hb2⟩]
    · rw [if_neg hm,if_neg (fun e=>hm e.1)]
  · rw [if_neg (fun e=>hb2 (hbody.1 e.2))];cases ht:trip l with
    | none=>rfl
    | some x=>exact absurd (trip_out l x ht).2.1 hb2
theorem editsB_ok {s:Str} {l:List Ed} (h:editsB s=some l):mayL l=true∧bodyB l=s:=by
  unfold editsB at h;split at h
  · cases h
  · rename_i h1
    obtain ⟨ha,hb⟩:(takeList s 0).2.2=0∧(takeList s 0).2.1=s.length:=by
      constructor
      · exact Decidable.not_not.1 (fun e=>h1 (.inl e))
      · exact Decidable.not_not.1 (fun e=>h1 (.inr e))
    cases ht:trip (takeList s 0).1 with
    | none=>rw [ht] at h;cases h
    | some x=>
      rw [ht,Option.bind_some] at h;split at h
      · rename_i hm
        cases h;obtain ⟨e1,e2,-⟩:=trip_out _ _ ht;refine ⟨hm,?_⟩;conv=>rhs;rw [takeList_inv ha hb]
        unfold bodyB;rw [e1,e2]
      · cases h
end Go.Gx
namespace Go.Gx
open Go.Proofs Go.Sort
theorem krf13_el9:elT Tryz.prog 9 1=true:=by kernel_rfl
theorem krf13_en82:Go.Proofs.Enters Tryz.prog 82:=Go.Proofs.enters_of Tryz.func82 kr_ rfl
theorem krf13_fo70_0:fieldOff Tryz.prog 70 0=some 0:=by kernel_rfl
theorem krf13_fo70_1:fieldOff Tryz.prog 70 1=some 1:=by kernel_rfl
theorem krf13_fo70_2:fieldOff Tryz.prog 70 2=some 2:=by kernel_rfl
theorem krf13_mixed:Tryz.prog.follows .mixedOrders=true:=by kernel_rfl
theorem krf13_oc4:oneCellT Tryz.prog 4=true:=by kernel_rfl
theorem krf13_oc9:oneCellT Tryz.prog 9=true:=by kernel_rfl
theorem krf13_sz70:(Tryz.prog.info? 70).map (·.size)=some 3:=by kernel_rfl
theorem may23 (A:Nat→Prop) (v:Value) (l:List Ed) (w:World) (h:EdsAt A w v l):Ret Tryz.prog 47 #[v] w fun r w'=>r=.bool (mayL l)∧Bel w w':=by
  obtain ⟨p,cap,row,rfl,h1,h2,h3,-⟩:=id h;refine ret_of_W Tryz.func47 rfl (Nat.le_of_ble_eq_true rfl) (res1 rfl) ?_;have hB:=Gr.refl (fun _=>False) w;refine W.seq (W.region (L.val (x_as (v:=.bool _) rfl) rfl ?_));refine L.nil (thn_n (W.seq (W.seq (W.region (L.val (x_as (v:=.int _ _) rfl) rfl ?_)))));refine L.nil (thn_n (W.block (W.loop (fun m' E w'=>∃ (k:Nat),m'=l.length - k∧E 0=.slice p l.length cap∧E 3=.int .i64 (k:Nat)∧(Bel w w')∧(EdsAt A w' (.slice p l.length cap) l)∧(k≤l.length)∧((l.take k).all mayE=true)) (l.length) ?_ ?_)))
  ·exact ⟨0,by omega,vi_,vi_,ao_,ao_,ao_,(by rfl)⟩
  ·rintro _ E wL4 ⟨k,em,e0,e3,hB,h,hk,ha⟩;rw [upd_self e0,upd_self e3];refine W.seq (W.seq (W.region (L.val (x_mv (v:=.int _ _) rfl) rfl ?_)));refine L.val (x_mv (v:=.slice _ _ _) rfl) rfl ?_;refine L.val (x_len_slice Tryz.underlying31 rfl) rfl ?_;refine L.val (x_lss rfl rfl) rfl ?_;refine L.nil (thn_n (W.cond (b:=_) rfl (fun g7=>?_) (fun g7=>?_)))
   ·have h7:=of_decide_eq_true g7;have hlt:k<l.length:=by omega
    obtain ⟨-,b,o,rfl,-,hc⟩:=eds_elem h hlt;obtain ⟨e,he⟩:∃ e,e=l.getD k default:=⟨_,rfl⟩;rw [← he] at hc;have hem:e∈l:=by rw [he,List.getD_eq_getElem?_getD,List.getElem?_eq_getElem hlt];exact List.getElem_mem hlt
    have k1:(e.key == [])=decide ((e.key.length:Int)<1):=by cases e.key with
      | nil=>rfl
      | cons a t=>rw [decide_eq_false (by simp only [List.length_cons];omega)];rfl
    have k2:decide (100<e.key.length)=decide ((100:Int)<(e.key.length:Nat)):=by rw [decide_eq_decide];omega
    have k3:decide (8100<e.val.length)=decide ((8100:Int)<(e.val.length:Nat)):=by rw [decide_eq_decide];omega
    have hmay:mayE e=(!decide ((e.key.length:Int)<1) && !decide ((100:Int)<(e.key.length:Nat)) && !decide ((8100:Int)<(e.val.length:Nat)) && !(e.gone && !(e.val == []))):=by unfold mayE;rw [k1,k2,k3]
    refine W.skip (thn_n (W.seq (W.block (W.seq (W.region (L.val (x_mv (v:=.slice _ _ _) rfl) rfl ?_))))));refine L.val (x_mv (v:=.int _ _) rfl) rfl ?_;refine L.val (x_ia (j:=k) Tryz.underlying31 krf13_sz70 rfl rfl om_ om_) rfl ?_;refine L.val (x_fa krf13_fo70_0 rfl) rfl ?_;refine L.val (x_ld (v:=S _) krf13_oc9 rfl (hc 0 om_)) rfl ?_;refine L.val (x_len_str Tryz.underlying9 rfl) rfl ?_;refine L.val (x_lss rfl rfl) rfl ?_;refine L.val (x_mv (v:=.bool _) rfl) rfl ?_;refine' L.group0 7 18 24 24 17 false rfl ?_ ?_ ?_;rotate_left 1
    ·intro g17;have h17:=dlt_f g17;refine L.gyes' (dj:=17) (b:=_) rfl rfl g17 ?_;refine L.val (x_mv (v:=.slice _ _ _) rfl) rfl ?_;refine L.gyes' (dj:=17) (b:=_) rfl rfl g17 ?_;refine L.val (x_mv (v:=.int _ _) rfl) rfl ?_;refine L.gyes' (dj:=17) (b:=_) rfl rfl g17 ?_;refine L.val (x_ia (j:=k) Tryz.underlying31 krf13_sz70 rfl rfl om_ om_) rfl ?_;refine L.gyes' (dj:=17) (b:=_) rfl rfl g17 ?_;refine L.val (x_fa krf13_fo70_0 rfl) rfl ?_;refine L.gyes' (dj:=17) (b:=_) rfl rfl g17 ?_;refine L.val (x_ld (v:=S _) krf13_oc9 rfl (hc 0 om_)) rfl ?_;refine L.gyes' (dj:=17) (b:=_) rfl rfl g17 ?_;refine L.val (x_len_str Tryz.underlying9 rfl) rfl ?_;refine L.gyes' (dj:=17) (b:=_) rfl rfl g17 ?_;refine L.val (x_gtr rfl rfl) rfl ?_;refine L.nil (thn_n ⟨rfl,rfl,?_,rfl⟩);repeat (first | exact jeq.refl _ _ _ | refine jeq.upd rfl ?_ | refine jeq.jk rfl rfl ?_)
    ·intro g17;(iterate 7 refine L.gno (dj:=17) (b:=_) rfl rfl g17 rfl ?_);refine L.nil (thn_n ⟨rfl,rfl,?_⟩);repeat (first | exact jeq.refl _ _ _ | refine jeq.upd rfl ?_ | refine jeq.jk rfl rfl ?_)
    intro J17 j17;refine L.val (x_or rfl j17) rfl ?_;refine L.val (x_mv (v:=.bool _) rfl) rfl ?_;refine' L.group0 7 27 33 33 26 false rfl ?_ ?_ ?_;rotate_left 1
    ·intro g26;have h26:=g26;refine L.gyes' (dj:=26) (b:=_) rfl rfl g26 ?_;refine L.val (x_mv (v:=.slice _ _ _) rfl) rfl ?_;refine L.gyes' (dj:=26) (b:=_) rfl rfl g26 ?_;refine L.val (x_mv (v:=.int _ _) rfl) rfl ?_;refine L.gyes' (dj:=26) (b:=_) rfl rfl g26 ?_;refine L.val (x_ia (j:=k) Tryz.underlying31 krf13_sz70 rfl rfl om_ om_) rfl ?_;refine L.gyes' (dj:=26) (b:=_) rfl rfl g26 ?_;refine L.val (x_fa krf13_fo70_1 rfl) rfl ?_;refine L.gyes' (dj:=26) (b:=_) rfl rfl g26 ?_;refine L.val (x_ld (v:=S _) krf13_oc9 rfl (hc 1 om_)) rfl ?_;refine L.gyes' (dj:=26) (b:=_) rfl rfl g26 ?_;refine L.val (x_len_str Tryz.underlying9 rfl) rfl ?_;refine L.gyes' (dj:=26) (b:=_) rfl rfl g26 ?_;refine L.val (x_gtr rfl rfl) rfl ?_;refine L.nil (thn_n ⟨rfl,rfl,?_,rfl⟩);repeat (first | exact jeq.refl _ _ _ | refine jeq.upd rfl ?_ | refine jeq.jk rfl rfl ?_)
    ·intro g26;(iterate 7 refine L.gno (dj:=26) (b:=_) rfl rfl g26 rfl ?_);refine L.nil (thn_n ⟨rfl,rfl,?_⟩);repeat (first | exact jeq.refl _ _ _ | refine jeq.upd rfl ?_ | refine jeq.jk rfl rfl ?_)
    intro J26 j26;refine L.val (x_or rfl j26) rfl ?_;refine L.val (x_mv (v:=.bool _) rfl) rfl ?_;refine' L.group0 13 36 48 48 35 false rfl ?_ ?_ ?_;rotate_left 1
    ·intro g35;have h35:=g35;refine L.gyes' (dj:=35) (b:=_) rfl rfl g35 ?_;refine L.val (x_mv (v:=.slice _ _ _) rfl) rfl ?_;refine L.gyes' (dj:=35) (b:=_) rfl rfl g35 ?_;refine L.val (x_mv (v:=.int _ _) rfl) rfl ?_;refine L.gyes' (dj:=35) (b:=_) rfl rfl g35 ?_;refine L.val (x_ia (j:=k) Tryz.underlying31 krf13_sz70 rfl rfl om_ om_) rfl ?_;refine L.gyes' (dj:=35) (b:=_) rfl rfl g35 ?_;refine L.val (x_fa krf13_fo70_2 rfl) rfl ?_;refine L.gyes' (dj:=35) (b:=_) rfl rfl g35 ?_;refine L.val (x_ld (v:=.bool _) krf13_oc4 rfl (hc 2 om_)) rfl ?_;refine L.gyes' (dj:=35) (b:=_) rfl rfl g35 ?_;refine L.val (x_mv (v:=.bool _) rfl) rfl ?_;refine' L.group0 6 42 47 47 41 true rfl ?_ ?_ ?_;rotate_left 1
     ·intro g41;have h41:=g41;refine L.gyes' (dj:=41) (b:=_) rfl rfl g41 ?_;refine L.val (x_mv (v:=.slice _ _ _) rfl) rfl ?_;refine L.gyes' (dj:=41) (b:=_) rfl rfl g41 ?_;refine L.val (x_mv (v:=.int _ _) rfl) rfl ?_;refine L.gyes' (dj:=41) (b:=_) rfl rfl g41 ?_;refine L.val (x_ia (j:=k) Tryz.underlying31 krf13_sz70 rfl rfl om_ om_) rfl ?_;refine L.gyes' (dj:=41) (b:=_) rfl rfl g41 ?_;refine L.val (x_fa krf13_fo70_1 rfl) rfl ?_;refine L.gyes' (dj:=41) (b:=_) rfl rfl g41 ?_;refine L.val (x_ld (v:=S _) krf13_oc9 rfl (hc 1 om_)) rfl ?_;refine L.gyes' (dj:=41) (b:=_) rfl rfl g41 ?_;refine L.val (x_nes rfl rfl) rfl ?_;refine L.nil (thn_n ⟨rfl,rfl,?_,rfl⟩);repeat (first | exact jeq.refl _ _ _ | refine jeq.upd rfl ?_ | refine jeq.jk rfl rfl ?_)
     ·intro g41;(iterate 6 refine L.gno (dj:=41) (b:=_) rfl rfl g41 rfl ?_);refine L.nil (thn_n ⟨rfl,rfl,?_⟩);repeat (first | exact jeq.refl _ _ _ | refine jeq.upd rfl ?_ | refine jeq.jk rfl rfl ?_)
     intro J41 j41;refine L.gyes' (dj:=35) (b:=_) rfl rfl g35 ?_;refine L.val (x_and rfl j41) rfl ?_;refine L.nil (thn_n ⟨rfl,rfl,?_,rfl⟩);repeat (first | exact jeq.refl _ _ _ | refine jeq.upd rfl ?_ | refine jeq.jk rfl rfl ?_)
    ·intro g35;(iterate 6 refine L.gno (dj:=35) (b:=_) rfl rfl g35 rfl ?_);(iterate 6 refine L.gun (dj:=41) rfl rfl rfl ?_);refine L.gno (dj:=35) (b:=_) rfl rfl g35 rfl ?_;refine L.nil (thn_n ⟨rfl,rfl,?_⟩);repeat (first | exact jeq.refl _ _ _ | refine jeq.upd rfl ?_ | refine jeq.jk rfl rfl ?_)
    intro J35 j35;refine L.val (x_or rfl j35) rfl ?_;refine L.nil (thn_n (W.cond (b:=_) rfl (fun g49=>?_) (fun g49=>?_)))
    ·have h49:=g49;have hq:mayE e=false:=by
       rw [hmay]
       revert g49
       cases decide ((e.key.length:Int)<1) <;> cases decide ((100:Int)<(e.key.length:Nat)) <;> cases decide ((8100:Int)<(e.val.length:Nat)) <;> cases e.gone <;> cases (e.val == []) <;> decide
     refine W.seq (W.region (L.val (x_as (v:=.bool _) rfl) rfl ?_));refine L.nil (thn_n (W.ret (blk_r (thn_r (thn_r (blk_r (thn_r (fin_mk (.inr rfl) ?_))))))));exact ⟨vb (by
       unfold mayL;rw [Eq.comm,List.all_eq_false];exact ⟨e,hem,by rw [hq];simp⟩),hB⟩
    ·have h49:=g49;have hq:mayE e=true:=by
       rw [hmay]
       revert g49
       cases decide ((e.key.length:Int)<1) <;> cases decide ((100:Int)<(e.key.length:Nat)) <;> cases decide ((8100:Int)<(e.val.length:Nat)) <;> cases e.gone <;> cases (e.val == []) <;> decide
     rw [he] at hq;refine W.skip (blk_n (thn_n (W.region (L.val (x_mv (v:=.int _ _) rfl) rfl ?_))));refine L.val (x_add rfl rfl (wr64 om_)) rfl ?_;refine L.val (x_as (v:=.int _ _) rfl) rfl ?_;refine L.nil (thn_n ⟨rfl,?_⟩);refine ⟨_,?_,k+1,rfl,vi_,vi_,ao_,ao_,ao_,(by rw [take_snoc (d:=default) hlt,List.all_append,ha];show (true && (mayE (l.getD k default) && true))=true;rw [hq];rfl)⟩;omega
   ·have h7:=dlt_f g7;refine W.exit (thn_x (thn_x (blk_hit ?_)));refine thn_n (W.seq (W.region (L.val (x_as (v:=.bool _) rfl) rfl ?_)));refine L.nil (thn_n (W.ret (fin_mk (.inr rfl) ?_)));rw [List.take_of_length_le om_] at ha;exact ⟨vb (by unfold mayL;rw [ha]),hB⟩
theorem body23 (A:Nat→Prop) (v:Value) (l:List Ed) (w:World) (h0:EdsAt A w v l) (hl:l.length≤1000000) (hb:(bodyB l).length≤100000000):Ret Tryz.prog 48 #[v] w fun r w'=>r=S (bodyB l)∧Bel w w':=by
  have h:=(h0.up).mono (A':=fun k=>w.heap.size≤k) (fun _ _ hk=>.inr hk);obtain ⟨p,cap,row,rfl,h1,h2,h3,-⟩:=id h;have hoks:=eds_ok h;have hbl:=bodyL_len l;refine ret_of_W Tryz.func48 rfl (Nat.le_of_ble_eq_true rfl) (res1 rfl) ?_;have hB:=Gr.refl (fun _=>False) w;refine W.seq (W.region (L.val (x_as (v:=S _) rfl) rfl ?_));refine L.nil (thn_n (W.seq (W.region (L.val (x_as (v:=.slice _ _ _) rfl) rfl ?_))));refine L.nil (thn_n (W.seq (W.seq (W.region (L.val (x_as (v:=.int _ _) rfl) rfl ?_)))));refine L.nil (thn_n (W.block (W.loop (fun m' E w'=>∃ (k:Nat) (vo:Value),m'=l.length - k∧E 0=.slice p l.length cap∧E 3=vo∧E 4=.int .i64 (k:Nat)∧(k≤l.length)∧(Bel w w')∧(EdsAt (fun k=>w.heap.size≤k) w' (.slice p l.length cap) l)∧(Own w' w.heap.size 9 1 vo (3 * k) ((bodyL (l.take k)).map S))) (l.length) ?_ ?_)))
  ·exact ⟨0,.slice none 0 0,by omega,by first | rfl | exact vi om_ | exact vs (by first | assumption | (rw [hst];done) | (rw [hst];simp only [List.append_assoc])),by first | rfl | exact vi om_ | exact vs (by first | assumption | (rw [hst];done) | (rw [hst];simp only [List.append_assoc])),by first | rfl | exact vi om_ | exact vs (by first | assumption | (rw [hst];done) | (rw [hst];simp only [List.append_assoc])),ao_,ao_,ao_,(by exact own_nil)⟩
  ·rintro _ E wL6 ⟨k,vo,em,e0,e3,e4,hk,hB,h,hO⟩;rw [upd_self e0,upd_self e3,upd_self e4];refine W.seq (W.seq (W.region ?_));obtain ⟨av,cv,ev,-⟩:=own_shape hO;subst ev;have hql:=fun j hj=>Own.lt hO (j:=j) hj
   refine L.val (x_mv (v:=.int _ _) rfl) rfl ?_;refine L.val (x_mv (v:=.slice _ _ _) rfl) rfl ?_;refine L.val (x_len_slice Tryz.underlying31 rfl) rfl ?_;refine L.val (x_lss rfl rfl) rfl ?_;refine L.nil (thn_n (W.cond (b:=_) rfl (fun g9=>?_) (fun g9=>?_)))
   ·have h9:=of_decide_eq_true g9;have hlt:k<l.length:=by omega
    obtain ⟨heok,b,o,rfl,-,hc⟩:=eds_elem h hlt;have hst:=bodyL_take hlt;obtain ⟨e,he⟩:∃ e,e=l.getD k default:=⟨_,rfl⟩;rw [← he] at hc hst heok;refine W.skip (thn_n (W.seq (W.block (W.seq (W.region (L.val (x_as (v:=S _) rfl) rfl ?_))))));refine L.nil (thn_n (W.cut (fun D' E' w'=>D'=[]∧E' 0=.slice (some ⟨b,o,none⟩) l.length cap∧E' 3=.slice av (3 * k) cv∧E' 4=.int .i64 (k:Nat)∧E' 5=S (if e.gone then [71] else [86])∧w'=wL6) ?_ ?_))
    ·refine W.seq (W.region (L.val (x_mv (v:=.slice _ _ _) rfl) rfl ?_));refine L.val (x_mv (v:=.int _ _) rfl) rfl ?_;refine L.val (x_ia (j:=k) Tryz.underlying31 krf13_sz70 rfl rfl om_ om_) rfl ?_;refine L.val (x_fa krf13_fo70_2 rfl) rfl ?_;refine L.val (x_ld (v:=.bool _) krf13_oc4 rfl (hc 2 om_)) rfl ?_;refine L.nil (thn_n (W.cond (b:=_) rfl (fun g16=>?_) (fun g16=>?_)))
     ·have h16:=g16;refine W.region (L.val (x_as (v:=S _) rfl) rfl ?_);refine L.nil (thn_n ?_);first
        | exact ⟨rfl,rfl,rfl,rfl,by rw [g16];rfl,rfl⟩
     ·have h16:=g16;refine W.skip (thn_n ?_);first
        | exact ⟨rfl,rfl,rfl,rfl,by rw [g16];rfl,rfl⟩
    ·rintro D' E w17 ⟨rfl,e0,e3,e4,e5,rfl⟩;rw [upd_self e0,upd_self e3,upd_self e4,upd_self e5];refine W.drawD (fun j=>some j=(Value.slice av (3 * k) cv).ownBlock) (fun _=>False) 13 krf13_mixed (fun wD17 hw=>?_);have hB:=hB.carry hw;have h:=h.carry hw;have hO:=hO.carry hw;have hB0:=Gr.refl (fun _=>False) wD17;have hR0:=Gr.refl (fun j=>some j=(Value.slice av (3 * k) cv).ownBlock) wD17;obtain ⟨-,b',o',eu,hbn,hc⟩:=eds_elem h hlt;cases eu;rw [← he] at hc;have hsB:=hB.size;refine LAD.take0 (i:=0) rfl kr_ kr_ kr_ kr_ (fun w hw=>x_mv (v:=.slice _ _ _) rfl) rfl ?_;refine LAD.take0 (i:=1) rfl kr_ kr_ kr_ kr_ (fun w hw=>x_mv (v:=.slice _ _ _) rfl) rfl ?_;refine LAD.take0 (i:=2) rfl kr_ kr_ kr_ kr_ (fun w hw=>x_mv (v:=.int _ _) rfl) rfl ?_;refine LAD.take0 (i:=3) rfl kr_ kr_ kr_ kr_ (fun w hw=>x_ia (j:=k) Tryz.underlying31 krf13_sz70 rfl rfl om_ om_) rfl ?_;refine LAD.take0 (i:=4) rfl kr_ kr_ kr_ kr_ (fun w hw=>x_fa krf13_fo70_0 rfl) rfl ?_;refine LAD.take0 (i:=5) rfl kr_ kr_ kr_ kr_ (fun w hw=>x_ld (v:=S _) krf13_oc9 rfl (hw.keepR (fun e=>hbn (hql _ e).1) (hc 0 om_))) rfl ?_;refine LAD.take0 (i:=6) rfl kr_ kr_ kr_ kr_ (fun w hw=>x_mv (v:=S _) rfl) rfl ?_;refine LAD.take0 (i:=7) rfl kr_ kr_ kr_ kr_ (fun w hw=>x_mv (v:=.slice _ _ _) rfl) rfl ?_;refine LAD.take0 (i:=8) rfl kr_ kr_ kr_ kr_ (fun w hw=>x_mv (v:=.int _ _) rfl) rfl ?_;refine LAD.take0 (i:=9) rfl kr_ kr_ kr_ kr_ (fun w hw=>x_ia (j:=k) Tryz.underlying31 krf13_sz70 rfl rfl om_ om_) rfl ?_;refine LAD.take0 (i:=10) rfl kr_ kr_ kr_ kr_ (fun w hw=>x_fa krf13_fo70_1 rfl) rfl ?_;refine LAD.take0 (i:=11) rfl kr_ kr_ kr_ kr_ (fun w hw=>x_ld (v:=S _) krf13_oc9 rfl (hw.keepR (fun e=>hbn (hql _ e).1) (hc 1 om_))) rfl ?_;refine LAD.step (rs:=[12]) hR0 (fun _=>hB0) kr_ (by simp) ⟨⟨_,rfl,?_⟩,trivial⟩;refine L.bs (sz:=1) (cells:=[S e.key,S (if e.gone then [71] else [86]),S e.val]) Tryz.underlying22 krf13_el9 rfl rfl rfl rfl (fun w29 bx29 hw hz29=>?_);have hB0:=hB0.carry hw;have hR0:=hR0.carry hw;have hO:=hO.carry hw;refine L.nil (thn_n (LAD.step (rs:=[13]) hR0 (fun _=>hB0) kr_ (by simp) ⟨⟨_,rfl,?_⟩,trivial⟩));refine L.appendN (m:=3) Tryz.underlying22 krf13_el9 rfl rfl rfl hO rfl (holdsN_box bx29) (by simp [Value.oneCell',S]) om_ (by have:=(hB.trans hB0).size;omega) (fun v30 w30 hO30 hg hob30=>?_);have hR0:=hR0.trans hg;have hO2:Own w30 w.heap.size 9 1 v30 (3 * (k+1)) ((bodyL (l.take (k+1))).map S):=by
       rw [hst,List.map_append,show 3 * (k+1)=3 * k+3 by omega];exact hO30
     obtain ⟨a30,c30,e30,-⟩:=own_shape hO2;subst e30;refine L.nil (thn_n (LAD.take0 (i:=14) rfl kr_ kr_ kr_ kr_ (fun w hw=>x_as (v:=.slice _ _ _) rfl) rfl ?_));refine LAD.done kr_ kr_ hR0 ?_;have hB:=hB.step hR0 (fun i hi e=>by have:=(hql i e).1;omega);have h:=h.carryR hR0 (fun i e=>(hql i e).1);refine blk_n (thn_n (W.region (L.val (x_mv (v:=.int _ _) rfl) rfl ?_)));refine L.val (x_add rfl rfl (wr64 om_)) rfl ?_;refine L.val (x_as (v:=.int _ _) rfl) rfl ?_;refine L.nil (thn_n ⟨rfl,?_⟩);refine ⟨_,?_,k+1,_,rfl,by first | rfl | exact vi om_ | exact vs (by first | assumption | (rw [hst];done) | (rw [hst];simp only [List.append_assoc])),by first | rfl | exact vi om_ | exact vs (by first | assumption | (rw [hst];done) | (rw [hst];simp only [List.append_assoc])),by first | rfl | exact vi om_ | exact vs (by first | assumption | (rw [hst];done) | (rw [hst];simp only [List.append_assoc])),ao_,ao_,ao_,(by exact hO2)⟩;omega
   ·have h9:=dlt_f g9;have hkn:k=l.length:=by omega
    subst hkn;rw [List.take_length] at hO;refine W.exit (thn_x (thn_x (blk_hit ?_)));refine thn_n (W.seq (W.region (L.val (x_mv (v:=.slice _ _ _) rfl) rfl ?_)));refine L.ret (x_call krf13_en82 rfl) rfl (list01 (fun j=>j<w.heap.size) _ (bodyL l) _ (strs_done (by rw [hbl];exact hO) om_ (fun x hx=>by unfold bodyL at hx;obtain ⟨y,hy,hx⟩:=List.mem_flatten.1 hx;obtain ⟨e,he,rfl⟩:=List.mem_map.1 hy;obtain ⟨m1,m2⟩:=hoks e he;simp only [List.mem_cons,List.not_mem_nil,or_false] at hx;rcases hx with rfl | rfl | rfl;exact m1;(split <;> simp);exact m2) (fun j hj=>by omega)) hb) ?_;rintro _ w32 ⟨rfl,hw⟩;have hB:=hB.carry hw;have h:=h.carry hw;have hO:=hO.carry hw;refine L.val (x_as (v:=S _) rfl) rfl ?_;refine L.nil (thn_n (W.ret (fin_mk (.inr rfl) ?_)));exact ⟨rfl,hB⟩
end Go.Gx
namespace Go.Gx
open Go.Proofs Go.Sort
def stTy (T:TypeId):Bool:=lgTy T || T == 100
theorem st_of_lg (T:TypeId) (h:lgTy T=true):stTy T=true:=by unfold stTy;rw [h];rfl
theorem StoAt.dg {n0 n1 bs bl:Nat} {w w':World} {G:List Ed} (h:StoAt n0 w bs bl G) (g:Dg lgTy n1 w w'):StoAt n0 w' bs bl G:=by
  obtain ⟨m,h1,h2,h3⟩:=h;refine ⟨m,h1,h2.dg g rfl,h3.carryR g (fun k hk e=>?_)⟩;rcases h3 with ⟨e1,-⟩ | ⟨mb,l',e1,-,hH⟩
  · rw [e1] at hk;cases hk
  · rw [e1] at hk;cases hk;obtain ⟨-,cs,T,m',he,-⟩:=e;obtain ⟨es,ck',hes,-⟩:=hH.map;rw [hes] at he;cases he
theorem MapHas.dg {ty:TypeId→Bool} {n0 n1:Nat} {w w':World} {m:Option Nat} {G:List Ed} (h3:MapHas n0 w m G) (g:Dg ty n1 w w'):MapHas n0 w' m G:=by
  refine h3.carryR g (fun k hk e=>?_);rcases h3 with ⟨e1,-⟩ | ⟨mb,l',e1,-,hH⟩
  · rw [e1] at hk;cases hk
  · rw [e1] at hk;cases hk;obtain ⟨-,cs,T,m',he,-⟩:=e;obtain ⟨es,ck',hes,-⟩:=hH.map;rw [hes] at he;cases he
theorem HoldsM.dg {ty:TypeId→Bool} {n1:Nat} {w w':World} {mb:Nat} {l:List (Str × Value)} {G:List Ed} (hH:HoldsM w mb l G) (g:Dg ty n1 w w'):HoldsM w' mb l G:=hH.carryR g (fun e=>by
  obtain ⟨-,cs,T,m',he,-⟩:=e;obtain ⟨es,ck',hes,-⟩:=hH.map;rw [hes] at he;cases he)
theorem clone_has (n0:Nat) (m:Option Nat) (G:List Ed) (w:World) (h:MapHas n0 w m G):Ret Tryz.prog 42 #[.map m] w fun v w'=>(∃ m',v=.map m'∧MapHas w.heap.size w' m' G)∧Bel w w':=by
  rcases h with ⟨rfl,rfl⟩ | ⟨mb,l,rfl,-,hH⟩
  · exact (clone_none w).mono fun v w' ⟨h1,h2⟩=>⟨⟨none,h1,.inl ⟨rfl,rfl⟩⟩,by rw [h2];exact Gr.refl _ _⟩
  · exact (clone_map mb l w hH.map).mono fun v w' ⟨⟨h1,h2⟩,h3⟩=>⟨⟨_,h1,.inr ⟨_,l,rfl,Nat.le_refl _,⟨h2,hH.get⟩⟩⟩,h3⟩
theorem mayL_body {l:List Ed} (h:mayL l=true) (hn:l.length≤1000000):(bodyB l).length≤9+l.length * 8300:=by
  have h1:∀ l:List Ed,mayL l=true→((bodyL l).map textB).flatten.length≤l.length * 8300:=fun l=>by
    induction l with
    | nil=>intro _;exact Nat.le_refl _
    | cons e l ih=>
      intro hm;unfold mayL at hm;rw [List.all_cons,Bool.and_eq_true] at hm;have ih:=ih hm.2;obtain ⟨a1,a2⟩:=mayE_len hm.1;have e1:bodyL (e :: l)=e.key :: (if e.gone then [71] else [86]) :: e.val :: bodyL l:=rfl;have a3:=numB_le (n:=e.key.length) om_;have a4:=numB_le (n:=e.val.length) om_;have a5:=numB_le (n:=1) om_;have a6:(if e.gone then ([71]:Str) else [86]).length=1:=by split <;> rfl
      rw [e1];simp only [List.map_cons,List.flatten_cons,List.length_append,textB,a6,List.length_cons];omega
  have h2:=h1 l h;have h3:(numB (bodyL l).length).length≤9:=by
    unfold numB;split
    · simp
    · simp only [List.length_cons,beN_len];have:=bodyL_len l;unfold widN;have hb:Lib.bitLen (bodyL l).length≤64:=Lib.bitLen_le _ 64 om_ om_;omega
  unfold bodyB listB;rw [List.length_append];omega
theorem DiskF.sto {n0 b bs:Nat} {w w':World} {D:Dk} {K:Fl} {m:Option Nat} {p:Option Addr} (h:DiskF n0 w b D K) (hb:Box w bs 100 [.map m,.pointer p]) (g:Gr (fun k=>k=bs) w w'):DiskF n0 w' b D K:=by
  obtain ⟨h1,h2,bp,vc,vk,h3,h4,h5,h6,h7⟩:=h;refine ⟨h1,h2,bp,vc,vk,h3,h4.carryR g (box_ne h4 hb (by decide)),?_,h6.carryR g (box_ne h6 hb (by decide)),Own.carryR h7 g fun j hj e=>?_⟩
  · obtain ⟨pk,cap,e,a1,a2,a3,a4⟩:=h5;refine ⟨pk,cap,e,a1,a2,a3,fun hl=>?_⟩;obtain ⟨kb,ko,hp,hA,hcell⟩:=a4 hl;have hne:kb≠bs:=fun e=>by
      have hc0:=hcell 0 (List.length_pos_iff.2 hl);subst e;have hbx:=hb;unfold Box at hbx;unfold World.cell? at hc0;simp only [hbx,Nat.add_zero] at hc0;rcases ko with _ | _ | ko <;> simp at hc0
    have hblk:w'.heap[kb]? = w.heap[kb]? := g.block kb (World.block_lt_of_cell? w _ (hcell 0 (List.length_pos_iff.2 hl))) hne;exact ⟨kb,ko,hp,fun ⟨d1,cs,T,m',d2,d3⟩=>hA ⟨d1,cs,T,m',by rw [← hblk];exact d2,d3⟩,fun i hi=>g.cell (hcell i hi) hne⟩
  · have e:j=bs:=e;subst e;exact own_box_ne h7 hb (by decide) hj
end Go.Gx
namespace Go.Gx
open Go.Proofs Go.Sort
theorem krf14_el70:elT Tryz.prog 70 3=true:=by kernel_rfl
theorem krf14_en47:Go.Proofs.Enters Tryz.prog 47:=Go.Proofs.enters_of Tryz.func47 kr_ rfl
theorem krf14_en48:Go.Proofs.Enters Tryz.prog 48:=Go.Proofs.enters_of Tryz.func48 kr_ rfl
theorem krf14_en70:Go.Proofs.Enters Tryz.prog 70:=Go.Proofs.enters_of Tryz.func70 kr_ rfl
theorem krf14_mixed:Tryz.prog.follows .mixedOrders=true:=by kernel_rfl
theorem krf14_oc9:oneCellT Tryz.prog 9=true:=by kernel_rfl
theorem krf14_si70:structInfo Tryz.prog 70=some ([(0,1),(1,1),(2,1)],[S [],S [],Value.bool false]):=by kernel_rfl
theorem krf14_sz9:(Tryz.prog.info? 9).map (·.size)=some 1:=by kernel_rfl
theorem textB_mark (m:Str):(textB (if (m == [71])=true then [71] else [86])).length≤(textB m).length+2:=by
  have:(textB (if (m == [71])=true then ([71]:Str) else [86])).length=2:=by split <;> rfl
  omega
theorem outT_bytes:∀ l:List Str,(((bodyL (outT l)).map textB).flatten).length≤((l.map textB).flatten).length+2 * l.length
  | []=>by simp [outT,bodyL]
  | [_]=>by simp [outT,bodyL]
  | [_,_]=>by simp [outT,bodyL]
  | k :: m :: v :: r=>by
    have ih:=outT_bytes r;have hm:=textB_mark m;show (((k :: (if (m == [71])=true then ([71]:Str) else [86]) :: v :: bodyL (outT r)).map textB).flatten).length≤_;simp only [List.map_cons,List.flatten_cons,List.length_append,List.length_cons];omega
theorem outT_div:∀ l:List Str,(outT l).length=l.length / 3
  | []=>rfl
  | [_]=>by simp [outT]
  | [_,_]=>by simp [outT]
  | k :: m :: v :: r=>by
    have:=outT_div r;simp only [outT,List.length_cons];omega
theorem rfl2 {p:Option Addr} {n c:Nat} {a b:Bool} (h:b=a):Value.tuple #[.slice p n c,.bool a]=.tuple #[.slice p n c,.bool b]:=by rw [h]
theorem read23 (s:Str) (hs:s.length≤20000) (w:World):Ret Tryz.prog 33 #[S s] w fun r w'=>(∃ p c n,r=.tuple #[.slice p n c,.bool (editsB s).isSome]∧∀ l,editsB s=some l→EdsAt (fun k=>k<w.heap.size) w' (.slice p n c) l)∧Bel w w':=by
  have hE:=editsB_out hs;refine ret_of_W Tryz.func33 rfl (Nat.le_of_ble_eq_true rfl) (res2 rfl) ?_;have hB:=Gr.refl (fun _=>False) w;refine W.seq (W.region (L.val (x_as (v:=.slice _ _ _) rfl) rfl ?_));refine L.val (x_as (v:=.bool _) rfl) rfl ?_;refine L.nil (thn_n (W.seq (W.region (L.val (x_mv (v:=S _) rfl) rfl ?_))));refine L.ret (x_call krf14_en70 rfl) rfl (takeList01 s 0 om_ om_ _) ?_;rintro _ w11 ⟨⟨u11,rfl,hu11⟩,hw⟩;have hB:=hB.carry hw;obtain ⟨pu,cu,rfl,-⟩:=id hu11;obtain ⟨l,hl⟩:∃ l,l=(takeList s 0).1:=⟨_,rfl⟩;rw [← hl] at hu11 hE ⊢;have hu:StrsAt (fun k=>w11.heap.size≤k) w11 (.slice pu l.length cu) l:=hu11.up.mono fun k _ hk=>.inr hk
  have hln:l.length≤70368744177664:=by obtain ⟨_,_,_,_,_,h3,_⟩:=id hu;exact h3
  have hw11:=hB.size;refine L.val (x_mv (v:=_) rfl) rfl ?_;refine L.val (x_ext (v:=.slice _ _ _) rfl rfl) rfl ?_;refine L.val (x_ext (v:=.int _ _) rfl rfl) rfl ?_;refine L.val (x_ext (v:=.int _ _) rfl rfl) rfl ?_;refine L.val (x_as (v:=.slice _ _ _) rfl) rfl ?_;refine L.val (x_as (v:=.int _ _) rfl) rfl ?_;refine L.val (x_as (v:=.int _ _) rfl) rfl ?_;refine L.nil (thn_n (W.seq (W.seq (W.region (L.val (x_mv (v:=.int _ _) rfl) rfl ?_)))));refine L.val (x_neq rfl rfl) rfl ?_;refine L.val (x_mv (v:=.bool _) rfl) rfl ?_;refine L.splitat (dj:=17) (b:=_) rfl (fun g17=>?_) (fun g17=>?_)
  ·have h17:=dne_t g17;have hno:(takeList s 0).2.2≠0∨(takeList s 0).2.1≠s.length∨l.length % 3≠0:=.inl (by simpa using h17);(iterate 4 refine L.gno (dj:=17) (b:=_) rfl rfl g17 rfl ?_);refine L.val (x_pick_t (v:=.bool _) (congrArg Value.bool g17) rfl) rfl ?_;refine L.val (x_mv (v:=.bool _) rfl) rfl ?_;(iterate 4 refine L.gno (dj:=23) (b:=_) rfl rfl rfl rfl ?_);refine L.val (x_pick_t (v:=.bool _) rfl rfl) rfl ?_;refine L.nil (thn_n (W.cond (b:=true) rfl (fun _=>?_) (fun h=>nomatch h)));refine W.seq (W.region (L.val (x_as (v:=.slice _ _ _) rfl) rfl ?_));refine L.val (x_as (v:=.bool _) rfl) rfl ?_;refine L.nil (thn_n (W.ret (thn_r (fin_mk (.inr rfl) ?_))));rw [if_pos hno] at hE;rw [hE];exact ⟨⟨_,_,_,rfl,fun l h=>by cases h⟩,hB⟩
  ·have h17:=dne_f g17;have ha:(takeList s 0).2.2=0:=by simpa using h17
   refine L.gyes' (dj:=17) (b:=_) rfl rfl g17 ?_;refine L.val (x_mv (v:=.int _ _) rfl) rfl ?_;refine L.gyes' (dj:=17) (b:=_) rfl rfl g17 ?_;refine L.val (x_mv (v:=S _) rfl) rfl ?_;refine L.gyes' (dj:=17) (b:=_) rfl rfl g17 ?_;refine L.val (x_len_str Tryz.underlying9 rfl) rfl ?_;refine L.gyes' (dj:=17) (b:=_) rfl rfl g17 ?_;refine L.val (x_neq rfl rfl) rfl ?_;refine L.val (x_pick_f (v:=.bool _) (congrArg Value.bool g17) rfl) rfl ?_;refine L.val (x_mv (v:=.bool _) rfl) rfl ?_;refine L.splitat (dj:=23) (b:=_) rfl (fun g23=>?_) (fun g23=>?_)
   ·have h23:=dne_t g23;have hno:(takeList s 0).2.2≠0∨(takeList s 0).2.1≠s.length∨l.length % 3≠0:=.inr (.inl om_);(iterate 4 refine L.gno (dj:=23) (b:=_) rfl rfl g23 rfl ?_);refine L.val (x_pick_t (v:=.bool _) (congrArg Value.bool g23) rfl) rfl ?_;refine L.nil (thn_n (W.cond (b:=true) rfl (fun _=>?_) (fun h=>nomatch h)));refine W.seq (W.region (L.val (x_as (v:=.slice _ _ _) rfl) rfl ?_));refine L.val (x_as (v:=.bool _) rfl) rfl ?_;refine L.nil (thn_n (W.ret (thn_r (fin_mk (.inr rfl) ?_))));rw [if_pos hno] at hE;rw [hE];exact ⟨⟨_,_,_,rfl,fun l h=>by cases h⟩,hB⟩
   ·have h23:=dne_f g23;have hb:(takeList s 0).2.1=s.length:=by omega
    refine L.gyes' (dj:=23) (b:=_) rfl rfl g23 ?_;refine L.val (x_mv (v:=.slice _ _ _) rfl) rfl ?_;refine L.gyes' (dj:=23) (b:=_) rfl rfl g23 ?_;refine L.val (x_len_slice Tryz.underlying22 rfl) rfl ?_;refine L.gyes' (dj:=23) (b:=_) rfl rfl g23 ?_;refine L.val (x_rem (c:=((l.length % 3:Nat):Int)) rfl rfl om_ (by decide) om_) rfl ?_;refine L.gyes' (dj:=23) (b:=_) rfl rfl g23 ?_;refine L.val (x_neq rfl rfl) rfl ?_;refine L.val (x_pick_f (v:=.bool _) (congrArg Value.bool g23) rfl) rfl ?_;refine L.nil (thn_n (W.cond (b:=_) rfl (fun g27=>?_) (fun g27=>?_)))
    ·have h27:=dne_t g27;have hno:(takeList s 0).2.2≠0∨(takeList s 0).2.1≠s.length∨l.length % 3≠0:=.inr (.inr om_);refine W.seq (W.region (L.val (x_as (v:=.slice _ _ _) rfl) rfl ?_));refine L.val (x_as (v:=.bool _) rfl) rfl ?_;refine L.nil (thn_n (W.ret (thn_r (fin_mk (.inr rfl) ?_))));rw [if_pos hno] at hE;rw [hE];exact ⟨⟨_,_,_,rfl,fun l h=>by cases h⟩,hB⟩
    ·have h27:=dne_f g27;have h3:l.length % 3=0:=by omega
     have hsm0:=(takeList_small ha hb).1;rw [← hl] at hsm0;refine W.skip (thn_n (W.seq (W.region (L.val (x_as (v:=.slice _ _ _) rfl) rfl ?_))));refine L.nil (thn_n (W.seq (W.seq (W.region (L.val (x_as (v:=.int _ _) rfl) rfl ?_)))));refine L.nil (thn_n (W.block (W.loop (fun m' E w'=>∃ (j:Nat) (vo:Value),m'=l.length / 3 - j∧E 0=S s∧E 4=.slice pu l.length cu∧E 7=vo∧E 8=.int .i64 (3 * j:Nat)∧(3 * j≤l.length)∧(Bel w w')∧(StrsAt (fun k=>w11.heap.size≤k) w' (.slice pu l.length cu) l)∧(Own w' w11.heap.size 70 3 vo j ((outT (l.take (3 * j))).map edV).flatten)∧(Ge w11.heap.size w')) (l.length / 3) ?_ ?_)))
     ·exact ⟨0,.slice none 0 0,by omega,by first | rfl | exact vi om_ | exact vs (by first | assumption | (rw [hst];done) | (rw [hst];simp only [List.append_assoc])),by first | rfl | exact vi om_ | exact vs (by first | assumption | (rw [hst];done) | (rw [hst];simp only [List.append_assoc])),by first | rfl | exact vi om_ | exact vs (by first | assumption | (rw [hst];done) | (rw [hst];simp only [List.append_assoc])),by first | rfl | exact vi om_ | exact vs (by first | assumption | (rw [hst];done) | (rw [hst];simp only [List.append_assoc])),ao_,ao_,ao_,(by exact own_nil),(by exact Nat.le_refl _)⟩
     ·rintro _ E wL29 ⟨j,vo,em,e0,e4,e7,e8,hj,hB,hu,hO,hge⟩;rw [upd_self e0,upd_self e4,upd_self e7,upd_self e8];refine W.seq (W.seq (W.region ?_));obtain ⟨av,cv,ev,-⟩:=own_shape hO;subst ev;have hql:=fun j hj=>Own.lt hO (j:=j) hj
      refine L.val (x_mv (v:=.int _ _) rfl) rfl ?_;refine L.val (x_mv (v:=.slice _ _ _) rfl) rfl ?_;refine L.val (x_len_slice Tryz.underlying22 rfl) rfl ?_;refine L.val (x_lss rfl rfl) rfl ?_;refine L.nil (thn_n (W.cond (b:=_) rfl (fun g32=>?_) (fun g32=>?_)))
      ·have h32:=of_decide_eq_true g32;have hlt:3 * j+2<l.length:=by omega
       have hst:=outT_take l j hlt;obtain ⟨e,he⟩:∃ e:Ed,e=⟨l.getD (3 * j) [],l.getD (3 * j+2) [],l.getD (3 * j+1) [] == [71]⟩:=⟨_,rfl⟩;rw [← he] at hst;refine W.skip (thn_n (W.seq (W.block (W.drawD (fun j'=>some j'=(Value.slice av j cv).ownBlock) (fun _=>False) 18 krf14_mixed (fun wD35 hw=>?_)))));have hB:=hB.carry hw;have hu:=hu.carry hw;have hO:=hO.carry hw;have hge:=hge.carry hw;have hB0:=Gr.refl (fun _=>False) wD35;have hR0:=Gr.refl (fun j'=>some j'=(Value.slice av j cv).ownBlock) wD35;obtain ⟨p',cap',ep,-,-,-,-,hg'⟩:=id hu;obtain ⟨b,o,eb,hbn,hcs⟩:=hg' (by rintro rfl;simp at hlt);cases ep;subst eb;have hsB:=hB.size;refine LAD.take0 (i:=0) rfl kr_ kr_ kr_ kr_ (fun w hw=>x_mv (v:=.slice _ _ _) rfl) rfl ?_;refine LAD.take0 (i:=1) rfl kr_ kr_ kr_ kr_ (fun w hw=>x_mv (v:=.slice _ _ _) rfl) rfl ?_;refine LAD.take0 (i:=2) rfl kr_ kr_ kr_ kr_ (fun w hw=>x_mv (v:=.int _ _) rfl) rfl ?_;refine LAD.take0 (i:=3) rfl kr_ kr_ kr_ kr_ (fun w hw=>x_ia1 (j:=3 * j) Tryz.underlying22 krf14_sz9 rfl rfl om_ om_) rfl ?_;refine LAD.take0 (i:=4) rfl kr_ kr_ kr_ kr_ (fun w hw=>x_ld (v:=S _) krf14_oc9 rfl (hw.keepR (fun e=>hbn (hql _ e).1) (hcs (3 * j) om_))) rfl ?_;refine LAD.take0 (i:=5) rfl kr_ kr_ kr_ kr_ (fun w hw=>x_mv (v:=.slice _ _ _) rfl) rfl ?_;refine LAD.take0 (i:=6) rfl kr_ kr_ kr_ kr_ (fun w hw=>x_mv (v:=.int _ _) rfl) rfl ?_;refine LAD.take0 (i:=7) rfl kr_ kr_ kr_ kr_ (fun w hw=>x_add rfl rfl (wr64 om_)) rfl ?_;refine LAD.take0 (i:=8) rfl kr_ kr_ kr_ kr_ (fun w hw=>x_ia1 (j:=3 * j+2) Tryz.underlying22 krf14_sz9 rfl rfl om_ om_) rfl ?_;refine LAD.take0 (i:=9) rfl kr_ kr_ kr_ kr_ (fun w hw=>x_ld (v:=S _) krf14_oc9 rfl (hw.keepR (fun e=>hbn (hql _ e).1) (hcs (3 * j+2) om_))) rfl ?_;refine LAD.take0 (i:=10) rfl kr_ kr_ kr_ kr_ (fun w hw=>x_mv (v:=.slice _ _ _) rfl) rfl ?_;refine LAD.take0 (i:=11) rfl kr_ kr_ kr_ kr_ (fun w hw=>x_mv (v:=.int _ _) rfl) rfl ?_;refine LAD.take0 (i:=12) rfl kr_ kr_ kr_ kr_ (fun w hw=>x_add rfl rfl (wr64 om_)) rfl ?_;refine LAD.take0 (i:=13) rfl kr_ kr_ kr_ kr_ (fun w hw=>x_ia1 (j:=3 * j+1) Tryz.underlying22 krf14_sz9 rfl rfl om_ om_) rfl ?_;refine LAD.take0 (i:=14) rfl kr_ kr_ kr_ kr_ (fun w hw=>x_ld (v:=S _) krf14_oc9 rfl (hw.keepR (fun e=>hbn (hql _ e).1) (hcs (3 * j+1) om_))) rfl ?_;refine LAD.take0 (i:=15) rfl kr_ kr_ kr_ kr_ (fun w hw=>x_eqs rfl rfl) rfl ?_;refine LAD.take0 (i:=16) rfl kr_ kr_ kr_ kr_ (fun w hw=>x_build (cells:=[S _,S _,.bool _]) krf14_si70 rfl rfl) rfl ?_;refine LAD.step (rs:=[17]) hR0 (fun _=>hB0) kr_ (by simp) ⟨⟨_,rfl,?_⟩,trivial⟩;refine L.bs (sz:=3) (cells:=[S (l.getD (3 * j) []),S (l.getD (3 * j+2) []),.bool (l.getD (3 * j+1) [] == [71])]) Tryz.underlying31 krf14_el70 rfl rfl rfl rfl (fun w52 bx52 hw hz52=>?_);have hB0:=hB0.carry hw;have hR0:=hR0.carry hw;have hO:=hO.carry hw;rw [show [S (l.getD (3 * j) []),S (l.getD (3 * j+2) []),Value.bool (l.getD (3 * j+1) [] == [71])]=edV e by rw [he];rfl] at bx52;refine L.nil (thn_n (LAD.step (rs:=[18]) hR0 (fun _=>hB0) kr_ (by simp) ⟨⟨_,rfl,?_⟩,trivial⟩));refine L.appendN (m:=1) Tryz.underlying31 krf14_el70 rfl rfl rfl hO rfl (holdsN_box bx52) (edV_one e) om_ (by have:=(hge.carry hB0);exact this) (fun v53 w53 hO53 hg hob53=>?_);have hR0:=hR0.trans hg;have hO2:Own w53 w11.heap.size 70 3 v53 (j+1) ((outT (l.take (3 * (j+1)))).map edV).flatten:=by
         rw [hst,List.map_append,List.flatten_append];simpa using hO53
       have hge2:Ge w11.heap.size w53:=(hge.carry hB0).carryR hg;obtain ⟨a53,c53,e53,-⟩:=own_shape hO2;subst e53;refine L.nil (thn_n (LAD.take0 (i:=19) rfl kr_ kr_ kr_ kr_ (fun w hw=>x_as (v:=.slice _ _ _) rfl) rfl ?_));refine LAD.done kr_ kr_ hR0 ?_;have hB:=hB.step hR0 (fun i hi e=>by have:=(hql i e).1;omega);have hu:=hu.carryR hR0 (fun i e=>(hql i e).1);have hge:=hge2;refine blk_n (thn_n (W.region (L.val (x_mv (v:=.int _ _) rfl) rfl ?_)));refine L.val (x_add rfl rfl (wr64 om_)) rfl ?_;refine L.val (x_as (v:=.int _ _) rfl) rfl ?_;refine L.nil (thn_n ⟨rfl,?_⟩);refine ⟨_,?_,j+1,_,rfl,by first | rfl | exact vi om_ | exact vs (by first | assumption | (rw [hst];done) | (rw [hst];simp only [List.append_assoc])),by first | rfl | exact vi om_ | exact vs (by first | assumption | (rw [hst];done) | (rw [hst];simp only [List.append_assoc])),by first | rfl | exact vi om_ | exact vs (by first | assumption | (rw [hst];done) | (rw [hst];simp only [List.append_assoc])),by first | rfl | exact vi om_ | exact vs (by first | assumption | (rw [hst];done) | (rw [hst];simp only [List.append_assoc])),ao_,ao_,ao_,(by exact hO2),(by exact hge2)⟩;omega
      ·have h32:=dlt_f g32;have hj3:3 * j=l.length:=by omega
       have hjl:(outT l).length=j:=by rw [outT_div];omega
       rw [hj3,List.take_length] at hO;have hok:∀ e∈outT l,EdOk e:=fun e he=>by
         obtain ⟨_,_,_,_,_,_,hx,_⟩:=id hu;obtain ⟨m1,m2⟩:=out_mem l e he;exact ⟨hx _ m1,hx _ m2⟩
       rw [if_neg (by rintro (e | e | e);exact e ha;exact e hb;exact e h3)] at hE;have hsm:=takeList_small ha hb;have hinv:=takeList_inv ha hb;rw [← hl] at hsm hinv;have hby:=outT_bytes l;have hsl:(listB l).length=s.length:=by rw [← hinv]
       have hsl2:(listB l).length=(numB l.length).length+((l.map textB).flatten).length:=by unfold listB;rw [List.length_append]
       have hbl:(bodyB (outT l)).length≤100000000:=by
         unfold bodyB listB;rw [List.length_append];have:=numB_len (n:=(bodyL (outT l)).length) (by rw [bodyL_len];omega);omega
       rw [← hjl] at hO ⊢;have hEd:EdsAt (fun k=>k<w.heap.size) _ (.slice av (outT l).length cv) (outT l):=(own_eds hO hok om_).mono fun k _ hk=>by have:=hB.size;have hk:=hk;have:=hw11;omega
       refine W.exit (thn_x (thn_x (blk_hit ?_)));refine thn_n (W.seq (W.region (L.val (x_mv (v:=.slice _ _ _) rfl) rfl ?_)));refine L.val (x_mv (v:=.slice _ _ _) rfl) rfl ?_;refine L.ret (x_call krf14_en47 rfl) rfl (may23 _ _ (outT l) _ hEd) ?_;rintro _ w56 ⟨rfl,hw⟩;have hB:=hB.carry hw;have hEd:=hEd.carry hw;refine L.val (x_mv (v:=.bool _) rfl) rfl ?_;refine L.splitat (dj:=57) (b:=_) rfl (fun g57=>?_) (fun g57=>?_)
       ·have h57:=g57;refine L.gyes' (dj:=57) (b:=_) rfl rfl g57 ?_;refine L.val (x_mv (v:=.slice _ _ _) rfl) rfl ?_;refine L.gyes' (dj:=57) (b:=_) rfl rfl g57 ?_;refine L.ret (x_call krf14_en48 rfl) rfl (body23 _ _ (outT l) _ hEd om_ hbl) ?_;rintro _ w59 ⟨rfl,hw⟩;have hB:=hB.carry hw;have hEd:=hEd.carry hw;refine L.gyes' (dj:=57) (b:=_) rfl rfl g57 ?_;refine L.val (x_mv (v:=S _) rfl) rfl ?_;refine L.gyes' (dj:=57) (b:=_) rfl rfl g57 ?_;refine L.val (x_eqs rfl rfl) rfl ?_;refine L.val (x_pick_t (v:=.bool _) (congrArg Value.bool g57) rfl) rfl ?_;refine L.val (x_as (v:=.slice _ _ _) rfl) rfl ?_;refine L.val (x_as (v:=.bool _) rfl) rfl ?_;refine L.nil (thn_n (W.ret (fin_mk (.inr rfl) ?_)));have e1:(editsB s).isSome=(mayL (outT l) && (bodyB (outT l) == s)):=by
          rw [hE];by_cases h1:mayL (outT l)=true <;> by_cases h2:bodyB (outT l)=s
          · rw [if_pos ⟨h1,h2⟩,h1,beq_iff_eq.2 h2];rfl
          · rw [if_neg (fun e=>h2 e.2),h1,beq_eq_false_iff_ne.2 h2];rfl
          · rw [if_neg (fun e=>h1 e.1)];simp only [Bool.not_eq_true] at h1;rw [h1];rfl
          · rw [if_neg (fun e=>h1 e.1)];simp only [Bool.not_eq_true] at h1;rw [h1];rfl
        refine ⟨⟨_,_,_,rfl2 (by rw [e1];first | (rw [g57];rfl) | rfl),fun x hx=>?_⟩,hB⟩;rw [hE] at hx;split at hx
        · cases hx;exact hEd
        · cases hx
       ·have h57:=g57;(iterate 4 refine L.gno (dj:=57) (b:=_) rfl rfl g57 rfl ?_);refine L.val (x_pick_f (v:=.bool _) (congrArg Value.bool g57) rfl) rfl ?_;refine L.val (x_as (v:=.slice _ _ _) rfl) rfl ?_;refine L.val (x_as (v:=.bool _) rfl) rfl ?_;refine L.nil (thn_n (W.ret (fin_mk (.inr rfl) ?_)));have e1:(editsB s).isSome=(mayL (outT l) && (bodyB (outT l) == s)):=by
          rw [hE];by_cases h1:mayL (outT l)=true <;> by_cases h2:bodyB (outT l)=s
          · rw [if_pos ⟨h1,h2⟩,h1,beq_iff_eq.2 h2];rfl
          · rw [if_neg (fun e=>h2 e.2),h1,beq_eq_false_iff_ne.2 h2];rfl
          · rw [if_neg (fun e=>h1 e.1)];simp only [Bool.not_eq_true] at h1;rw [h1];rfl
          · rw [if_neg (fun e=>h1 e.1)];simp only [Bool.not_eq_true] at h1;rw [h1];rfl
        refine ⟨⟨_,_,_,rfl2 (by rw [e1];first | (rw [g57];rfl) | rfl),fun x hx=>?_⟩,hB⟩;rw [hE] at hx;split at hx
        · cases hx;exact hEd
        · cases hx
end Go.Gx
