/- The library's sort of strings, by the kit's contract. Conditions: none. -/
import Derived.Sort.LotD3
import Derived.Laws.OwnMore
import Derived.Test.YtigcdmnhmfeioaaGgDef
import Derived.Test.YtigcdmnhmfeioaaGgRec
namespace Go.Gx
open Go.Proofs Go.Sort
theorem putCells_row {α : Type} [Inhabited α] {enc:α → Value} {hd tl:List Value} {d d':Array α} (hs:d'.size=d.size):
    putCells enc hd.length d' (hd++d.toList.map enc++tl).toArray=(hd++d'.toList.map enc++tl).toArray:=by
  apply Array.ext
  · simp [putCells,hs]
  · intro i h1 h2;have h2:i<(hd++d'.toList.map enc++tl).length:=by simpa using h2
    simp only [putCells,Array.getElem_mapIdx,List.getElem_toArray];by_cases ha:i<hd.length
    · rw [if_neg om_];rw [List.getElem_append_left (by simp;omega),List.getElem_append_left ha,List.getElem_append_left (by simp;omega),List.getElem_append_left ha]
    · by_cases hb:i<hd.length+d'.size
      · rw [if_pos ⟨by omega,hb⟩,List.getElem_append_left (by simp;omega),List.getElem_append_right om_];simp [getElem!_pos d' (i - hd.length) om_]
      · rw [if_neg om_,List.getElem_append_right (by simp;omega),List.getElem_append_right (by simp;omega)];simp [hs]
theorem row_put {α : Type} [Inhabited α] {enc:α → Value} {w:World} {b o:Nat} {T:TypeId} {hd tl:List Value} {d d':Array α} (h:Row enc w b o T hd d tl) (hs:d'.size=d.size) (n:Nat):Row enc (putRow enc (Sort.ahead w n) b o d') b o T hd d' tl:=by
  obtain ⟨rfl,hb⟩:=h;refine ⟨rfl,?_⟩;have hb':w.heap[b]? = some (.cells (hd++d.toList.map enc++tl).toArray T (0,0)):=hb;show (w.heap.modify b (onCells (putCells enc hd.length d')))[b]? = _;rw [Array.getElem?_modify,if_pos rfl,hb'];simp only [Option.map_some,onCells];rw [putCells_row hs]
theorem gr_put {α : Type} [Inhabited α] {enc:α → Value} {w:World} {b o:Nat} {d':Array α} (n:Nat):Gr (· = b) w (putRow enc (Sort.ahead w n) b o d'):=by
  refine ⟨rfl,rfl,rfl,?_,fun k _ hk=>?_⟩
  · show _≤(w.heap.modify b _).size;simp
  · show (w.heap.modify b _)[k]? = _;rw [Array.getElem?_modify,if_neg (fun e=>hk e.symm)]
theorem bel_grow (w:World) (os:Array Obj):Bel w (grow w os):=
  ⟨rfl,rfl,rfl,by simp [grow],fun k hk _=>by show (w.heap++os)[k]? = _;rw [Array.getElem?_append_left hk]⟩
theorem sort_nil (cap:Nat) (w:World):Ret Try.prog 49 #[.slice none 0 cap] w fun v w'=>v=.tuple #[]∧Bel w w':=
  Calls.mono (Try.slices_Sort_string_none none cap w) fun _ _ ⟨he,hw⟩=>⟨_,he,rfl,hw ▸ Gr.refl _ _⟩
theorem sort_ok (b o cap n:Nat) (T:TypeId) (hd tl:List Value) (d:Array Str) (w:World) (hR:Row S w b o T hd d tl) (hn:d.size=n) (h1:1≤n) (hc:n≤2000000000000000000):
    Ret Try.prog 49 #[.slice (some ⟨b,o,none⟩) n cap] w fun v w'=>v=.tuple #[]∧Gr (· = b) w w'∧∃ d',Row S w' b o T hd d' tl∧PermIn 0 n d d'∧SortedIn ltStr 0 n d':=by
  subst hn;have hk:=Try.slices_Sort_string b o cap d.toList w (fun j hj=>by
    have hj:j<d.size:=by simpa using hj
    have e:d.toList.toArray[j]! = d[j]! := by simp
    rw [e];exact ⟨hR.at hj,hR.free _⟩) hR.lt (by simp;omega)
  have e0:d.toList.length=d.size:=by simp
  rw [e0] at hk;refine Calls.mono hk fun e w' ⟨he,m,os,hw⟩=>⟨_,he,rfl,?_⟩
  subst hw;obtain ⟨l,hl⟩:∃ l,l=d.toList.mergeSort fun x y=>decide (x≤y):=⟨_,rfl⟩
  have hp:l.Perm d.toList:=by rw [hl];exact List.mergeSort_perm _ _
  have hlen:l.length=d.size:=by rw [hp.length_eq];simp
  have hsr:l.Pairwise fun x y=>decide (x≤y)=true:=by
    rw [hl];refine List.pairwise_mergeSort (fun a b c h1 h2=>?_) (fun a b=>?_) _
    · simp only [decide_eq_true_eq] at *;exact List.le_trans h1 h2
    · simp only [Bool.or_eq_true,decide_eq_true_eq];exact List.le_total a b
  rw [← hl];refine ⟨(gr_put m).carry (bel_grow _ _),l.toArray,(row_put hR (by simpa using hlen) m).carry (bel_grow _ _),⟨by simpa using hlen,fun i hi=>?_,?_⟩,fun i j _ hij hj=>?_⟩
  · have hi:d.size≤i:=by omega
    rw [getElem!_neg d i om_,getElem!_neg l.toArray i (by simp;omega)]
  · have e1:l.toArray.extract 0 d.size=l.toArray:=by rw [← hlen];simp
    have e2:d.extract 0 d.size=d:=by simp
    rw [e1,e2];simpa using hp
  · have hj':j<l.length:=by omega
    have hi':i<l.length:=by omega
    have hle:=List.pairwise_iff_getElem.1 hsr i j hi' hj' hij;simp only [decide_eq_true_eq] at hle;rw [getElem!_pos l.toArray j (by simpa using hj'),getElem!_pos l.toArray i (by simpa using hi')];simp only [List.getElem_toArray,ltStr,decide_eq_false_iff_not];exact List.not_lt.2 hle
end Go.Gx
namespace Go.Gx
open Go.Proofs Go.Sort
theorem knamed_en45:Go.Proofs.Enters Try.prog 45:=Go.Proofs.enters_of Try.func45 kr_ rfl
theorem knamed_en49:Go.Proofs.Enters Try.prog 49:=Go.Proofs.enters_of Try.func49 kr_ rfl
theorem knamed_en55:Go.Proofs.Enters Try.prog 55:=Go.Proofs.enters_of Try.func55 kr_ rfl
theorem values_ok (p:Option Addr) (n cap:Nat) (w:World):Ret Try.prog 48 #[.slice p n cap] w fun r w'=>r=.func (.func 57) #[] #[.pointer (some ⟨w.heap.size,0,none⟩)]∧Box w' w.heap.size 23 [.slice p n cap]∧Bel w w':=by
  refine ret_of_W Try.func48 rfl (Nat.le_of_ble_eq_true rfl) (res1 rfl) ?_;have hB:=Gr.refl (fun _=>False) w;refine W.seq (W.region (L.box (cs:=[.slice p n cap]) rfl rfl (fun w1 bx1 hw hz1=>?_)));have hB:=hB.carry hw;refine L.val (x_as (v:=_) rfl) rfl ?_;refine L.nil (thn_n (W.seq (W.region (L.val (x_mkfn rfl rfl) rfl ?_))));refine L.val (x_as (v:=_) rfl) rfl ?_;refine L.nil (thn_n (W.ret (fin_mk (.inr rfl) ?_)));exact ⟨rfl,bx1,hB⟩
theorem collect_ok (gf:Nat) (lb:Array Value) (ss:List Str) (w:World) (eg:Go.Proofs.Enters Try.prog gf) (hl:ss.length≤100000000000) {Φ : List Str→Prop} (hΦ : ∀ xs,Φ xs→xs.Perm ss)
    (hseq:SeqStopsK Fence.wide 1 Try.prog gf lb (fun x:Str=>#[S x]) (KpB w.heap.size) Φ (fun _=>True) ss.length w):
    Ret Try.prog 45 #[.func (.func gf) #[] lb] w fun v w'=>(∃ xs:List Str,xs.Perm ss∧Own w' (w.heap.size+1) 9 1 v xs.length (xs.map S)∧(xs=[]→v=.slice none 0 0))∧Bel w w':=by
  refine ret_of_W Try.func45 rfl (Nat.le_of_ble_eq_true rfl) (res1 rfl) ?_;have hB:=Gr.refl (fun _=>False) w;refine W.seq (W.region (L.val (x_as (v:=_) rfl) rfl ?_));refine L.nil (thn_n (W.seq (W.region (L.val (x_mv (v:=.func _ _ _) rfl) rfl ?_))));refine L.ret (x_call knamed_en55 rfl) rfl (seq_ok gf lb ss _ eg hl hΦ hseq) ?_;rintro v w4 ⟨hO,hw⟩;have hB:=hB.carry hw;refine L.val (x_as (v:=_) rfl) rfl ?_;refine L.nil (thn_n (W.ret (fin_mk (.inr rfl) ?_)));exact ⟨hO,hB⟩
def SortedNew (base:Nat) (w:World) (v:Value) (ss:List Str):Prop:=
  (ss=[]∧v=.slice none 0 0)∨∃ b cap tl d,base≤b∧1≤ss.length∧ss.length≤cap∧v=.slice (some ⟨b,0,none⟩) ss.length cap∧Row S w b 0 9 [] d tl∧d.size=ss.length∧PermIn 0 ss.length ss.toArray d∧SortedIn ltStr 0 ss.length d∧cap≤9223372036854775807
theorem permIn_conv {xs ss:List Str} (h:xs.Perm ss) {d:Array Str} (p:PermIn 0 xs.length xs.toArray d):PermIn 0 ss.length ss.toArray d:=by
  obtain ⟨h1,h2,h3⟩:=p;have hl:=h.length_eq;refine ⟨by rw [h1];simpa using hl,fun i hi=>?_,?_⟩
  · have hi:ss.length≤i:=by omega
    rw [h2 i om_];rw [getElem!_neg _ _ (by simp;omega),getElem!_neg _ _ (by simp;omega)]
  · rw [hl] at h3;refine h3.trans ?_;have e1:(xs.toArray.extract 0 ss.length).toList=xs:=by simp [← hl]
    have e2:(ss.toArray.extract 0 ss.length).toList=ss:=by simp
    rw [e1,e2];exact h
theorem sorted_ok (gf:Nat) (lb:Array Value) (ss:List Str) (w:World) (eg:Go.Proofs.Enters Try.prog gf) (hl:ss.length≤100000000000) {Φ : List Str→Prop} (hΦ : ∀ xs,Φ xs→xs.Perm ss)
    (hseq:SeqStopsK Fence.wide 1 Try.prog gf lb (fun x:Str=>#[S x]) (KpB w.heap.size) Φ (fun _=>True) ss.length w):
    Ret Try.prog 26 #[.func (.func gf) #[] lb] w fun v w'=>SortedNew w.heap.size w' v ss∧Bel w w':=by
  refine ret_of_W Try.func26 rfl (Nat.le_of_ble_eq_true rfl) (res1 rfl) ?_;have hB:=Gr.refl (fun _=>False) w;refine W.seq (W.region (L.val (x_as (v:=_) rfl) rfl ?_));refine L.nil (thn_n (W.seq (W.region (L.val (x_mv (v:=.func _ _ _) rfl) rfl ?_))));refine L.ret (x_call knamed_en45 rfl) rfl (collect_ok gf lb ss _ eg hl hΦ hseq) ?_;rintro v w5 ⟨⟨xs,hpx,hO,hz0⟩,hw⟩;have hB:=hB.carry hw
  suffices hs:Ret Try.prog 49 #[v] w5 (fun r w'=>r=.tuple #[]∧SortedNew w.heap.size w' v ss∧Bel w w') from ?_
  rotate_left 1
  · rcases hO.open with ⟨rfl,hk,-⟩ | ⟨b,cap,tl,rfl,hb,hcap,hcm,hbx⟩
    · exact (sort_nil 0 w5).mono fun r w' ⟨h1,h2⟩=>⟨h1,.inl ⟨List.eq_nil_of_length_eq_zero (hpx.length_eq.symm.trans hk),rfl⟩,hB.carry h2⟩
    · by_cases hz:xs.length=0
      · have:=hz0 (List.eq_nil_of_length_eq_zero hz);cases this
      · have hR:Row S w5 b 0 9 [] xs.toArray tl:=⟨rfl,by simpa using hbx⟩;refine (sort_ok b 0 cap xs.length _ [] tl xs.toArray w5 hR (by simp) om_ (by have:=hpx.length_eq;omega)).mono ?_;rintro r w' ⟨h1,hg,d,hd,p1,p2⟩;have hle:=hpx.length_eq;exact ⟨h1,.inr ⟨b,cap,tl,d,by omega,by omega,by omega,by rw [hle],hd,by rw [p1.1];simpa using hle,permIn_conv hpx p1,by rw [← hle];exact p2,hcm⟩,hB.set hg om_⟩
  refine L.val (x_as (v:=_) rfl) rfl ?_;refine L.nil (thn_n (W.seq (W.region (L.val (x_mv (v:=_) rfl) rfl ?_))));refine L.ret (x_call knamed_en49 rfl) rfl (hs) ?_;rintro _ w7 ⟨rfl,hN,hw⟩;refine L.nil (thn_n (W.seq (W.region (L.val (x_mv (v:=_) rfl) rfl ?_))));refine L.val (x_as (v:=_) rfl) rfl ?_;refine L.nil (thn_n (W.ret (fin_mk (.inr rfl) ?_)));exact ⟨hN,hw⟩
end Go.Gx
namespace Go.Gx
open Go.Proofs Go.Sort
theorem nodup_iff {l:List Str}:nodup l=true↔l.Nodup:=by
  induction l with
  | nil=>simp [nodup]
  | cons x l ih=>simp [nodup,ih]
theorem SortedNew.carry {base:Nat} {w w':World} {v:Value} {ss:List Str} (h:SortedNew base w v ss) (g:Bel w w'):SortedNew base w' v ss:=by
  rcases h with h | ⟨b,cap,tl,d,h1,h2,h3,h4,h5,h6⟩
  · exact .inl h
  · exact .inr ⟨b,cap,tl,d,h1,h2,h3,h4,h5.carry g,h6⟩
end Go.Gx
namespace Go.Gx
variable {P:Program} {ops:Array Oper} {Q:Exit→Act→World→Prop} {C:World→Prop}
def YC (P:Program) (ops:Array Oper) (C:World→Prop) (o:Oper) (v:Value) (a:Act):Prop:=
  Region.wanted o (yielded ops a.tmps)=true∧∀ w,C w→(execOp a.eval o).run P w=.ok (.value v) w
theorem YC.same {o:Oper} {v:Value} {a a':Act} (hy:YC P ops C o v a) (he:execOp a'.eval o=execOp a.eval o) (hw:Region.wanted o (yielded ops a'.tmps)=Region.wanted o (yielded ops a.tmps)):YC P ops C o v a':=by
  unfold YC at *;rw [he,hw];exact hy
theorem YC.take {i:Nat} {o:Oper} {v:Value} {a:Act} (hi:ops[i]? = some o) (hy:YC P ops C o v a) {K:Act→World→Prop} {w:World} (hC:C w) (h:K (a.put o.dst v) w):wpOp P ops Q i K a w:=by
  unfold wpOp;simp only [hi,hy.1,if_true,Oper.wp,hy.2 w hC,Oper.upon];exact .inl h
theorem wpOp_late {j:Nat} {oi oj:Oper} {v:Value} (hj:ops[j]? = some oj) (hap:oi.apart ops oj=true)
    (hsi:∀ cs b,oi.op≠.select cs b) (hsj:∀ cs b,oj.op≠.select cs b)
    (hQ:∀ c a w,Q (.panic c) (a.put oi.dst v) w→Q (.panic c) a w) {K:Act→World→Prop} {a:Act} {w:World}
    (hy:YC P ops C oi v a) (h:wpOp P ops Q j K (a.put oi.dst v) w):
    wpOp P ops Q j (fun a' w'=>YC P ops C oi v a'∧K (a'.put oi.dst v) w') a w:=by
  obtain ⟨h1,h2,h3⟩:=Oper.apart_spec hap;have keep:∀ u,YC P ops C oi v (a.put oj.dst u):=fun u=>hy.same (execOp_put oi hsi a oj.dst u h3) (wanted_put oi a oj.dst u h3)
  have hw1:=wanted_put oj a oi.dst v h1;have he1:=execOp_put oj hsj a oi.dst v h1;unfold wpOp at h ⊢;simp only [hj] at h ⊢;rw [hw1] at h;by_cases hw:Region.wanted oj (yielded ops a.tmps)=true
  · rw [if_pos hw] at h ⊢;rcases h with h | ⟨ha,hl⟩
    · left;unfold Oper.wp at h ⊢;rw [he1] at h;generalize (execOp a.eval oj).run P w=r at h ⊢;cases r with
      | halt x w'=>
        cases x with
        | panic u=>exact hQ _ _ _ h
        | _=>exact h
      | ok x w'=>
        cases x with
        | value u=>exact ⟨keep u,by rw [← Act.put_comm a v u h2];exact h⟩
        | skip=>exact ⟨keep _,by rw [← Act.put_comm a v undef h2];exact h⟩
        | defer d=>
          refine ⟨(hy.same (a':={ a with defers:=d :: a.defers }) rfl rfl).same (execOp_put oi hsi _ oj.dst _ h3) (wanted_put oi _ oj.dst _ h3),?_⟩;rw [← Act.put_comm _ v undef h2,← Act.put_defers];exact h
        | enter f args=>
          refine Calls.mono h fun e w'' he=>?_
          cases e with
          | returned u=>exact ⟨keep u,by rw [← Act.put_comm a v u h2];exact he⟩
          | panicked c=>exact hQ _ _ _ he
          | outgrown=>exact he
        | row row args=>exact Rows.mono h fun u w'' he=>⟨keep u,by rw [← Act.put_comm a v u h2];exact he⟩
        | _=>exact h
    · exact .inr ⟨by unfold Oper.asks at *;rw [he1] at ha;exact ha,hl⟩
  · rw [if_neg hw] at h ⊢;exact ⟨keep _,by rw [← Act.put_comm a v undef h2];exact h⟩
def wpAnyC (P:Program) (ops:Array Oper) (C:World→Prop) (st:Nat) (Q:Exit→Act→World→Prop):Nat→Array Bool→Act→World→Prop
  | 0,listed,a,w=>(listed.getD st false=false→C w)∧Region.ready .any ops listed=[]∧Q .normal a w
  | f+1,listed,a,w=>(listed.getD st false=false→C w)∧(Region.ready .any ops listed=[]→Q .normal a w)∧∀ i∈Region.ready .any ops listed,wpOp P ops Q i (wpAnyC P ops C st Q f (listed.setIfInBounds i true)) a w
theorem wpAnyC.any {st:Nat}:∀ (f:Nat) (listed:Array Bool) (a:Act) (w:World),wpAnyC P ops C st Q f listed a w→wpAny P .any ops Q f listed a w
  | 0,_,_,_,h=>h.2
  | f+1,_,_,_,h=>⟨h.2.1,fun i hi=>wpOp_mono (fun _ _ h'=>wpAnyC.any f _ _ _ h') (h.2.2 i hi)⟩
theorem wpAnyC.here {st f:Nat} {listed:Array Bool} {a:Act} {w:World} (h:wpAnyC P ops C st Q f listed a w):listed.getD st false=false→C w:=by
  cases f <;> exact h.1
theorem unlisted {listed:Array Bool} {i:Nat} (h:listed.getD i true=false):listed.getD i false=false:=by
  rcases Nat.lt_or_ge i listed.size with h' | h'
  · simp [h'] at h ⊢;exact h
  · simp [Array.getElem?_eq_none h'] at h
theorem wpAnyC.take {i st:Nat} {oi ost:Oper} {v:Value} (hi:ops[i]? = some oi) (hsel:∀ (j:Nat) (o:Oper) cs b,ops[j]? = some o→o.op≠.select cs b)
    (hQ:∀ c a w,Q (.panic c) (a.put oi.dst v) w→Q (.panic c) a w) (hst:ops[st]? = some ost) (hdep:∃ e∈ost.after,Region.binds .any e=true∧e.on=i) (hne:st≠i):
    ∀ (fuel:Nat) (listed:Array Bool) (a:Act) (w:World),
      (listed.getD st false=true→listed.getD i false=true)→
      (∀ j oj,ops[j]? = some oj→j≠i→listed.getD j true=false→(∀ e∈oj.after,Region.binds .any e=true→e.on≠i)→oi.apart ops oj=true)→
      i∈Region.ready .any ops listed→YC P ops C oi v a→
      wpAnyC P ops C st Q fuel (listed.setIfInBounds i true) (a.put oi.dst v) w→wpAnyC P ops C st Q (fuel+1) listed a w:=by
  intro fuel;induction fuel with
  | zero=>
    intro listed a w hcl _ hr hy H;have hun:=(mem_ready.1 hr).1;have hst0:listed.getD st false=false:=by
      cases hh:listed.getD st false
      · rfl
      · have:=hcl hh;rw [unlisted hun] at this;cases this
    have hC:C w:=H.1 (by rw [getD_set_ne false hne.symm];exact hst0);refine ⟨fun _=>hC,fun h=>(by rw [h] at hr;cases hr),fun j hj=>?_⟩;by_cases hji:j=i
    · subst hji;exact hy.take hi hC H
    · have:=ready_mono hj hji;rw [H.2.1] at this;cases this
  | succ fuel ih=>
    intro listed a w hcl hfree hr hy H;have hun:=(mem_ready.1 hr).1;have hst0:listed.getD st false=false:=by
      cases hh:listed.getD st false
      · rfl
      · have:=hcl hh;rw [unlisted hun] at this;cases this
    have hC:C w:=H.here (by rw [getD_set_ne false hne.symm];exact hst0);refine ⟨fun _=>hC,fun h=>(by rw [h] at hr;cases hr),fun j hj=>?_⟩;by_cases hji:j=i
    · subst hji;exact hy.take hi hC H
    · have h1:=H.2.2 j (ready_mono hj hji);obtain ⟨hjun,oj,hoj,hall⟩:=mem_ready.1 hj;have hnot:∀ e∈oj.after,Region.binds .any e=true→e.on≠i:=fun e he hb heq=>by
        have h1:=hall e he hb;rw [heq,unlisted hun] at h1;cases h1
      have hjst:j≠st:=fun e=>by
        subst e;rw [hst] at hoj;cases hoj;obtain ⟨e,he,hb,hon⟩:=hdep;exact hnot e he hb hon
      have h2:=wpOp_late hoj (hfree j oj hoj hji hjun hnot) (fun cs b=>hsel i oi cs b hi) (fun cs b=>hsel j oj cs b hoj) hQ hy h1;refine wpOp_mono (fun a' w' h3=>ih (listed.setIfInBounds j true) a' w' (fun h=>?_) (fun k ok hk hki hu hno=>?_) (ready_mono hr (Ne.symm hji)) h3.1 ?_) h2
      · rw [getD_set_ne false hjst,hst0] at h;cases h
      · refine hfree k ok hk hki ?_ hno;by_cases hjk:j=k
        · subst hjk;exact hjun
        · rw [getD_set_ne true hjk] at hu;exact hu
      · rw [Array.setIfInBounds_comm _ _ hji];exact h3.2
section
variable {n st:Nat} {K:List Deferred→Env→World→Prop} {D:List Deferred} {E:Env} {w:World}
def LAC (P:Program) (n:Nat) (ops:Array Oper) (C:World→Prop) (st:Nat) (K:List Deferred→Env→World→Prop) (fuel:Nat) (listed:Array Bool) (D:List Deferred) (E:Env) (w:World):Prop:=
  ∀ a,Fr D n a E→wpAnyC P ops C st (lift n (nrm K)) fuel listed a w
theorem W.drawT {id:Nat} {l:List Oper} {Q:Post} (C:World→Prop) (st:Nat) (hm:P.follows .mixedOrders=true) (h:LAC P n l.toArray C st (Q .normal) l.length (Array.replicate l.length false) D E w.drew):W P n (.region id l.toArray true) Q D E w:=by
  intro a ha;refine wp_mono (wp_region_any (Q:=lift n (nrm (Q .normal))) hm ?_) ?_
  · have:=(h a ha).any;simpa using this
  · rintro e a' w' ⟨he,E',hE,rfl,hq⟩;exact ⟨he,E',hE,hq⟩
theorem LAC.take {fuel:Nat} {listed:Array Bool} {i d:Nat} {op:Op} {t:TypeId} {p:String} {af:Array Edge} {v:Value}
    (ho:ops[i]? = some ⟨some d,op,t,p,af,none⟩) (hs:Region.noSelect ops=true) (hf:Region.free .any ops listed i=true) (hr:(Region.ready .any ops listed).contains i=true)
    (hst:(ops[st]?).map (fun o=>o.after.any fun e=>Region.binds .any e && Nat.beq e.on i)=some true) (hne:Nat.beq st i=false) (hl:listed.getD st true=false)
    (hx:∀ w,C w→X P op t E w v w) (hd:Nat.blt d n=true) (k:LAC P n ops C st K fuel (listed.setIfInBounds i true) D (upd E d v) w):LAC P n ops C st K (fuel+1) listed D E w:=by
  intro a ha;cases hos:ops[st]? with
  | none=>rw [hos] at hst;cases hst
  | some ost=>
    rw [hos] at hst;simp only [Option.map_some,Option.some.injEq] at hst;obtain ⟨e,he,hb⟩:=Array.any_eq_true'.1 hst;simp only [Bool.and_eq_true] at hb;refine wpAnyC.take ho (Region.noSelect_spec hs) ?_ hos ⟨e,he,hb.1,Nat.eq_of_beq_eq_true hb.2⟩ (fun h=>by subst h;simp at hne) fuel listed a w (fun h=>by rw [unlisted hl] at h;cases h) (Region.free_spec ho hf) (by simpa using hr)
      ⟨by simp [Region.wanted],fun w hw=>?_⟩ (k _ (ha.put v hd))
    · rintro c a w ⟨_,E,_,h,_⟩;cases h
    · have:=hx w hw;unfold X at this;rw [execOp_bare,ha.eval];exact this
theorem LAC.done {listed:Array Bool} (hr:Region.ready .any ops listed=[]) (hl:listed.getD st false=true) (h:K D E w):LAC P n ops C st K 0 listed D E w:=
  fun _ ha=>⟨fun h0=>(by rw [hl] at h0;cases h0),hr,lift_mk (by simp) ha ⟨rfl,h⟩⟩
def LACs (P:Program) (n:Nat) (ops:Array Oper) (C:World→Prop) (st:Nat) (K:List Deferred→Env→World→Prop) (fuel:Nat) (listed:Array Bool) (D:List Deferred) (E:Env) (w:World):List Nat→Prop
  | []=>True
  | i :: r=>(∃ o,ops[i]? = some o∧L P n ops (thn (LAC P n ops C st K fuel (listed.setIfInBounds i true)) (nrm K)) [o] D E w)∧LACs P n ops C st K fuel listed D E w r
theorem LAC.step {fuel:Nat} {listed:Array Bool} {rs:List Nat} (hC:listed.getD st false=false→C w) (hr:Region.ready .any ops listed=rs) (hne:rs≠[])
    (h:LACs P n ops C st K fuel listed D E w rs):LAC P n ops C st K (fuel+1) listed D E w:=by
  intro a ha;refine ⟨hC,fun h0=>absurd (hr.symm.trans h0) hne,fun j hj=>?_⟩;rw [hr] at hj;have key:∀ rs:List Nat,LACs P n ops C st K fuel listed D E w rs→j∈rs→∃ o,ops[j]? = some o∧L P n ops (thn (LAC P n ops C st K fuel (listed.setIfInBounds j true)) (nrm K)) [o] D E w:=by
    intro rs;induction rs with
    | nil=>intro _ hi;cases hi
    | cons k r ih=>
      intro hL hi;rcases List.mem_cons.1 hi with rfl | hi
      · exact hL.1
      · exact ih hL.2 hi
  obtain ⟨o,ho,hLo⟩:=key rs h hj;have h1:=hLo a ha;have hl:∀ e a w,lift n (thn (LAC P n ops C st K fuel (listed.setIfInBounds j true)) (nrm K)) e a w→Exit.then (wpAnyC P ops C st (lift n (nrm K)) fuel (listed.setIfInBounds j true)) (lift n (nrm K)) e a w:=by
    intro e a w ⟨h1,E',h2,h3⟩;cases e <;> simp only [thn,Exit.then] at h3 ⊢;case normal=>exact h3 a h2
    case outgrown=>exact absurd rfl h1
    all_goals exact ⟨by simp,E',h2,h3⟩
  unfold wpOp;rw [ho];simp only;unfold wpList at h1;split
  · rename_i hw
    rw [if_pos hw] at h1;rcases h1 with h1 | ⟨_,a',w',h1⟩
    · refine .inl ?_;unfold Oper.wp at h1 ⊢;generalize (execOp a.eval o).run P w=res at h1 ⊢;cases res with
      | ok x w'=>
        cases x <;> simp only [Oper.upon,wpList] at h1 ⊢ <;> try exact hl _ _ _ h1
        · refine h1.mono fun e w'' h=>?_
          cases e with
          | returned v=>exact hl _ _ _ h
          | panicked c=>exact hl _ _ _ h
          | outgrown=>obtain ⟨a',w',h⟩:=h;exact absurd rfl h.1
        · exact h1.mono fun v w'' h=>hl _ _ _ h
      | halt x w'=>cases x <;> simp only [Oper.upon] at h1 ⊢ <;> try exact hl _ _ _ h1
    · exact absurd rfl h1.1
  · rename_i hw;rw [if_neg hw] at h1;exact hl _ _ _ h1
end
theorem L.bs0 {n:Nat} {Q:Post} {D:List Deferred} {E:Env} {w:World} {ops:Array Oper} {r:List Oper} {d:Nat} {T e:TypeId} {sz:Nat} {t:TypeId} {p:String} {af:Array Edge} (hu:P.underlying T=some (.slice e)) (he:elT P e sz=true) (hd:Nat.blt d n=true)
    (k:∀ w1,Own w1 w.heap.size e sz (.slice (some ⟨w.heap.size,0,none⟩) 0 0) 0 []→Bel w w1→w1.heap.size=w.heap.size+1→L P n ops Q r D (upd E d (.slice (some ⟨w.heap.size,0,none⟩) 0 0)) w1):
    L P n ops Q (⟨some d,.buildSlice T 0 #[],t,p,af,none⟩ :: r) D E w:=by
  obtain ⟨i,z,hi,hz,hs,hzs,hpos,-⟩:=elT_spec he;have e0:Array.range 0=#[]:=by simp
  have hrun:(Instr.buildSlice T 0 ((#[]:Array (Nat × Operand)).map fun x=>(x.1,ev E x.2))).run P w=.ok (.slice (some ⟨w.heap.size,0,none⟩) 0 0) (w.alloc (.cells #[] e)):=by
    simp [Instr.buildSlice,run_underlying hu,sizeOf,typeInfo,hi,Instr.fill,newRow,e0]
  refine L.val (v:=.slice (some ⟨w.heap.size,0,none⟩) 0 0) (w':=w.alloc (.cells #[] e)) ?_ hd (k _ ⟨by simp,.inr ⟨w.heap.size,0,#[],rfl,Nat.le_refl _,World.alloc_heap_new w _,Nat.le_refl _,by simp [maxLen],by simp,by simp⟩⟩ (bel_alloc _ _) (by simp));unfold X;simp only [execOp,Sem.run_bind,hrun];rfl
def Holds (w:World) (u:Value) (m:Nat) (news:List Value):Prop:=
  (∃ a c,u=.slice (some a) m c∧∀ j x,news[j]? = some x→w.cell? (a.add j)=some x)∨(u=.slice none 0 0∧m=0∧news=[])
theorem x_slog {E:Env} {w:World} {x y:Operand} {t s e:TypeId} {a:Option Addr} {c m:Nat} {k:IntKind} {i:Int} {j sz:Nat} (hu:P.underlying s=some (.slice e)) (hs:(P.info? e).map (·.size)=some sz)
    (hx:ev E x=.slice a m c) (hy:ev E y=.int k i) (hi:i=(j:Nat)) (hj:j≤m):
    X P (.slice s x (some y) none none) t E w (.slice (if c=j then a else a.map (·.add (j * sz))) (m - j) (c - j)) w:=by
  unfold X;subst hi;cases hi:P.info? e with
  | none=>simp [hi] at hs
  | some inf=>
    simp only [hi,Option.map_some,Option.some.injEq] at hs;simp [execOp,hx,hy,Instr.sliceAt,Instr.slice,Instr.sliceBounds,Instr.sliceBound,asIntOf,run_underlying hu,sizeOf,typeInfo,hi,hs,hj]
theorem add_add (b o i j:Nat):((⟨b,o,none⟩:Addr).add i).add j=⟨b,o+(i+j),none⟩:=by
  cases i <;> cases j <;> simp [Addr.add];omega
end Go.Gx
namespace Go.Gx
theorem own_box {w:World} {base b:Nat} {e:TypeId} {sz k:Nat} {cs:List Value} (h:Box w b e cs) (hl:cs.length=k * sz) (hb:base≤b) (hk:k≤1000000):Own w base e sz (.slice (some ⟨b,0,none⟩) k k) k cs:=by
  have hm:maxLen=9223372036854775807:=rfl;exact ⟨hl,.inr ⟨b,k,cs.toArray,rfl,hb,h,Nat.le_refl _,by omega,by simpa using hl,by rw [← hl];simp⟩⟩
end Go.Gx
