/- What a store holds behind a call, through falls. Conditions: none. -/
import Derived.Test.YtdklfpoofgagmaaGreatQbRf12
import Derived.Test.YtdklfpoofgagmaaGreatQbRf11
namespace Go.Gx
open Go.Proofs Go.Sort
def SRep (D:Dk) (q:Pt) (G:List Ed) (c:Nat):Prop:=∃ ls:List (List Ed),RepC D q (allB ls)∧(∀ l∈ls,mayL l=true)∧comes [] ls.flatten=G∧ls.length≤c
theorem SRep.mono {D:Dk} {q:Pt} {G:List Ed} {c c':Nat} (h:SRep D q G c) (hc:c≤c'):SRep D q G c':=by
  obtain ⟨ls,h1,h2,h3,h4⟩:=h;exact ⟨ls,h1,h2,h3,Nat.le_trans h4 hc⟩
theorem SRep.rises {D:Dk} {q:Pt} {G:List Ed} {c:Nat} (h:SRep D q G c):Rises G:=by
  obtain ⟨ls,-,-,rfl,-⟩:=h;exact comes_rises rises_nil
theorem SRep.may {D:Dk} {q:Pt} {G:List Ed} {c:Nat} (h:SRep D q G c):mayL G=true:=by
  obtain ⟨ls,-,h2,rfl,-⟩:=h;refine may_comes rfl ?_;unfold mayL;rw [List.all_eq_true];intro e he;obtain ⟨l,hl,hel⟩:=List.mem_flatten.1 he;have:=h2 l hl;unfold mayL at this;exact List.all_eq_true.1 this e hel
theorem SRep.ok {D:Dk} {q:Pt} {G:List Ed} {c:Nat} (h:SRep D q G c):QOk D q:=by
  obtain ⟨ls,h1,-⟩:=h;exact h1.ok
theorem SRep.cnt {D:Dk} {q:Pt} {G:List Ed} {c:Nat} (h:SRep D q G c):q.cnt≤c:=by
  obtain ⟨ls,h1,-,-,h4⟩:=h;rw [h1.cnt];unfold allB;rw [List.length_map];exact h4
theorem SRep.new {m:Nat} (h:6≤m):SRep (newD m) pt0 [] 0:=⟨[],repC_new h,by simp,rfl,Nat.le_refl _⟩
theorem SRep.open {D:Dk} {q:Pt} {G:List Ed} {c:Nat} (h:SRep (una D) q G c) (hok:DkOk D):∃ ls:List (List Ed),openA D=(0,q,allB ls)∧(∀ l∈ls,mayL l=true)∧tooBig (allB ls)=false∧comes [] ls.flatten=G:=by
  obtain ⟨ls,h1,h2,h3,h4⟩:=h;exact ⟨ls,(una_open _).symm.trans (open_repC h1 hok.una),h2,h1.big,h3⟩
structure FinS (D:Dk) (q:Pt) (G G':List Ed) (c:Nat) (r:Int × Dk × Pt):Prop where
  len:r.2.1.pl.length=D.pl.length
  ops:r.2.1.ops≤D.ops+2300
  arm:r.2.1.armed≤D.armed
  code:r.1=190↔r.2.1.dead=true
  live:r.2.1.dead=false→r.2.2.ep≤q.ep+1∧SRep (una r.2.1) r.2.2 (if r.1=0 then G' else G) c
  dead:r.2.1.dead=true→r.2.1.armed=0∧∃ p,p.ep≤q.ep+1∧(SRep (bt r.2.1) p G c∨SRep (bt r.2.1) p G' c)
theorem Fin2.sto {D:Dk} {q:Pt} {ls ls':List (List Ed)} {G G':List Ed} {c:Nat} {r:Int × Dk × Pt} (h:Fin2 D q (allB ls) (allB ls') r) (h1:∀ l∈ls,mayL l=true) (h2:comes [] ls.flatten=G) (h3:ls.length≤c) (h1':∀ l∈ls',mayL l=true) (h2':comes [] ls'.flatten=G') (h3':ls'.length≤c):FinS D q G G' c r:=by
  refine ⟨h.len,h.ops,h.arm,h.code,fun e=>⟨(h.live e).1,?_⟩,fun e=>⟨(h.dead e).1,?_⟩⟩
  · have:=(h.live e).2;split
    · rename_i h0;rw [if_pos h0] at this;exact ⟨ls',this,h1',h2',h3'⟩
    · rename_i h0;rw [if_neg h0] at this;exact ⟨ls,this,h1,h2,h3⟩
  · obtain ⟨p,hp,h4⟩:=(h.dead e).2;exact ⟨p,hp,h4.imp (fun h5=>⟨ls,h5,h1,h2,h3⟩) (fun h5=>⟨ls',h5,h1',h2',h3'⟩)⟩
theorem FinS.same {D:Dk} {q:Pt} {G G':List Ed} {c:Nat} {e:Int} (hd:D.dead=false) (h:SRep (una D) q G c) (h1:e≠190) (h2:e=0→G'=G):FinS D q G G' c (e,D,q):=by
  refine ⟨rfl,Nat.le_add_right _ _,Nat.le_refl _,⟨fun e=>absurd e h1,fun e=>?_⟩,fun _=>⟨Nat.le_succ _,?_⟩,fun e=>?_⟩
  · have e:D.dead=true:=e;rw [hd] at e;cases e
  · dsimp only;split
    · rename_i e;rw [h2 e];exact h
    · exact h
  · have e:D.dead=true:=e;rw [hd] at e;cases e
def sizG (G:List Ed):Nat:=(G.map fun e=>e.key.length+e.val.length+30).sum
theorem sizG_come1:∀ (G:List Ed) (e:Ed),sizG (come1 G e)≤sizG G+(e.key.length+e.val.length+30)
  | [],e=>by
    rw [come1];split
    · exact Nat.zero_le _
    · unfold sizG;simp
  | x :: l,e=>by
    have ih:=sizG_come1 l e;rw [come1];unfold sizG at *;split
    · simp only [List.map_cons,List.sum_cons];omega
    · rw [List.map_append,List.sum_append];split <;> split <;> simp only [List.map_cons,List.map_nil,List.sum_cons,List.sum_nil] <;> omega
theorem sizG_comes:∀ (l G:List Ed),sizG (comes G l)≤sizG G+sizG l
  | [],G=>Nat.le_add_right _ _
  | e :: l,G=>by
    have h1:=sizG_come1 G e;have h2:=sizG_comes l (come1 G e);have e1:comes G (e :: l)=comes (come1 G e) l:=rfl;have e2:sizG (e :: l)=(e.key.length+e.val.length+30)+sizG l:=by unfold sizG;simp
    rw [e1,e2];omega
theorem len_sizG (G:List Ed):30 * G.length≤sizG G:=by
  unfold sizG;induction G with
  | nil=>exact Nat.le_refl _
  | cons e l ih=>simp only [List.length_cons,List.map_cons,List.sum_cons];omega
theorem body1_siz {e:Ed} (h:mayE e=true):(bodyB [e]).length≤e.key.length+e.val.length+9:=by
  obtain ⟨h1,h2⟩:=mayE_len h;have e1:bodyB [e]=numB 3++(textB e.key++(textB (if e.gone then [71] else [86])++(textB e.val++[]))):=rfl;rw [e1];unfold textB;simp only [List.length_append,List.length_nil];have a1:(numB 3).length=1:=by decide
  have a2:=numB_le (n:=e.key.length) om_;have a2':(numB e.key.length).length=1:=by unfold numB;rw [if_pos om_];rfl
  have a3:=numB_le (n:=e.val.length) om_;have a4:(if e.gone then ([71]:Str) else [86]).length=1:=by split <;> rfl
  rw [a4];have a5:(numB 1).length=1:=by decide
  omega
theorem need_snap {G:List Ed} (h:mayL G=true):need (allB (snapL G))≤sizG G:=by
  unfold need allB snapL sizG;unfold mayL at h;induction G with
  | nil=>exact Nat.le_refl _
  | cons e l ih=>
    rw [List.all_cons,Bool.and_eq_true] at h;have:=body1_siz h.1;have ih:=ih h.2;simp only [List.map_cons,List.sum_cons,List.map_map] at ih ⊢;omega
end Go.Gx
namespace Go.Gx
open Go.Proofs
theorem numB_pos (n:Nat):1≤(numB n).length:=by
  unfold numB;split
  · exact Nat.le_refl _
  · simp only [List.length_cons];omega
theorem takeF_grow {s:Str} {k:Nat} (h:(takeF s k).2.2=0):k+(takeF s k).1.length≤(takeF s k).2.1∧(takeF s k).1.length≤20000:=by
  unfold takeF at h ⊢;split at h
  · rename_i h1;exact absurd h h1
  · rename_i h1
    rw [if_neg h1];have h1':(takeText s k).2.2=0:=by simpa using h1
    obtain ⟨l1,l2,l3⟩:=takeText_le h1';have hi:=congrArg List.length (takeText_inv h1');unfold textB at hi;rw [List.length_take,List.length_drop,List.length_append] at hi;split at h
    · cases h
    · rename_i h2
      rw [if_neg h2];split at h
      · cases h
      · rename_i h3
        rw [if_neg h3];split at h
        · cases h
        · rename_i h4
          rw [if_neg h4];exact ⟨by dsimp only;omega,by dsimp only;omega⟩
theorem scanF_sum {s:Str}:∀ {f k:Nat},k≤s.length→((scanF f s k).map (·.1.length)).sum+k≤s.length∧∀ x∈scanF f s k,x.1.length≤20000
  | 0,k,h=>by simpa [scanF] using h
  | f+1,k,h=>by
    rw [scanF];split
    · simpa using h
    · rename_i h1
      have h1:(takeF s k).2.2=0:=by simpa using h1
      obtain ⟨a1,a2⟩:=takeF_grow h1;obtain ⟨-,b2,-⟩:=takeF_le h1;obtain ⟨c1,c2⟩:=scanF_sum (f:=f) (k:=(takeF s k).2.1) b2;refine ⟨by rw [List.map_cons,List.sum_cons];dsimp only;omega,fun x hx=>?_⟩;rcases List.mem_cons.1 hx with rfl | hx
      · exact a2
      · exact c2 x hx
theorem scanS_sum (s:Str):((scanS s).1.map List.length).sum≤s.length∧∀ x∈(scanS s).1,x.length≤20000:=by
  obtain ⟨a,b⟩:=scanF_sum (s:=s) (f:=s.length+1) (k:=0) (Nat.zero_le _);unfold scanS frames;refine ⟨by rw [List.map_map];exact a,fun x hx=>?_⟩;obtain ⟨y,hy,rfl⟩:=List.mem_map.1 hx;exact b y hy
theorem sizG_body {l:List Ed} (h:mayL l=true):sizG l≤10 * (bodyB l).length:=by
  have h1:∀ l:List Ed,mayL l=true→sizG l≤10 * ((bodyL l).map textB).flatten.length:=fun l=>by
    induction l with
    | nil=>intro _;exact Nat.le_refl _
    | cons e l ih=>
      intro hm;unfold mayL at hm;rw [List.all_cons,Bool.and_eq_true] at hm;have ih:=ih hm.2;have hk:e.key≠[]:=fun e0=>by have:=hm.1;unfold mayE at this;rw [e0] at this;simp at this
      have hk:0<e.key.length:=List.length_pos_iff.2 hk;have e1:bodyL (e :: l)=e.key :: (if e.gone then [71] else [86]) :: e.val :: bodyL l:=rfl;have a3:=numB_pos e.key.length;have a4:=numB_pos e.val.length;have a5:=numB_pos 1;have a6:(if e.gone then ([71]:Str) else [86]).length=1:=by split <;> rfl
      unfold sizG at ih ⊢;rw [e1];simp only [List.map_cons,List.flatten_cons,List.length_append,textB,a6,List.sum_cons];omega
  have:=h1 l h;unfold bodyB listB;rw [List.length_append];omega
def eallF (o:Option (List Ed)) (s:Str):Option (List Ed):=o.bind fun G=>(editsB s).map (comes G)
def eallS (l:List Str):Option (List Ed):=l.foldl eallF (some [])
theorem eall_none:∀ l:List Str,l.foldl eallF none=none
  | []=>rfl
  | _ :: l=>eall_none l
theorem eall_take {l:List Str} {i:Nat} (h:i<l.length):eallS (l.take (i+1))=eallF (eallS (l.take i)) (l.getD i []):=by
  unfold eallS;rw [take_snoc (d:=[]) h,List.foldl_append];rfl
theorem eall_stop {l:List Str} {i:Nat} (h:eallS (l.take i)=none):eallS l=none:=by
  have e:l.take i++l.drop i=l:=List.take_append_drop i l;rw [← e];unfold eallS at h ⊢;rw [List.foldl_append,h,eall_none]
theorem eall_ok:∀ (l:List Str) (G0 G:List Ed),Rises G0→mayL G0=true→l.foldl eallF (some G0)=some G→Rises G∧mayL G=true∧sizG G≤sizG G0+10 * (l.map List.length).sum
  | [],G0,G,h1,h2,h=>by
    cases h;exact ⟨h1,h2,Nat.le_add_right _ _⟩
  | s :: l,G0,G,h1,h2,h=>by
    rw [List.foldl_cons] at h;cases hs:editsB s with
    | none=>
      have e:eallF (some G0) s=none:=by unfold eallF;rw [hs];rfl
      rw [e,eall_none] at h;cases h
    | some x=>
      obtain ⟨m1,m2⟩:=editsB_ok hs;have e:eallF (some G0) s=some (comes G0 x):=by unfold eallF;rw [hs];rfl
      rw [e] at h;obtain ⟨r1,r2,r3⟩:=eall_ok l _ G (comes_rises h1) (may_comes h2 m1) h;have:=sizG_comes x G0;have:=sizG_body m1;rw [m2] at this;exact ⟨r1,r2,by rw [List.map_cons,List.sum_cons];omega⟩
def openG (D:Dk):Int × Pt × List Ed:=if (openA D).1≠0 then ((openA D).1,pt0,[]) else match eallS (openA D).2.2 with
  | none=>(230,pt0,[])
  | some G=>(0,(openA D).2.1,G)
structure OpOk (D:Dk):Prop where
  half:(openA D).2.1.half≤1
  tail:(openA D).2.1.tail≤roomN D.pl.length
  ep:(openA D).2.1.ep<18446744073709551616
  cnt:(openA D).2.1.cnt<2000000000
  sum:(((openA D).2.2).map List.length).sum≤roomN D.pl.length
  all:∀ x∈(openA D).2.2,x.length≤20000
theorem openA_ok {D:Dk} (h:DkOk D) (h6:6≤D.pl.length) (ho:(openA D).1=0):OpOk D:=by
  cases hn:(!(hdP D 2).2 && !frS D 2) with
  | true=>rw [openA_none hn] at ho;cases ho
  | false=>
    have e:=openA_some hn;split at e
    · rename_i hs
      obtain ⟨⟨a,b,c,d⟩,hh,ht⟩:=hdP_ok D 2;have hsm:=h.small;have hst:=stN_le h6 hh;have hrN:roomN D.pl.length=hlf D.pl.length * 64:=rfl;have hl:(allA D (hdP D 2).1).length≤(hdP D 2).1.tail:=by
        have harea:(areaS D (hdP D 2).1 (hlf D.pl.length)).take (hdP D 2).1.tail=allA D (hdP D 2).1:=areaS_take h om_ om_ (fun i hi=>by omega);rw [← harea,List.length_take];omega
      obtain ⟨s1,s2⟩:=scanS_sum (allA D (hdP D 2).1);refine ⟨?_,?_,?_,?_,?_,?_⟩ <;> rw [e]
      · exact hh
      · exact ht
      · exact a
      · have:(hdP D 2).1.cnt<4294967296:=by first | exact d | omega
        have hc:=hs.2;have:(scanS (allA D (hdP D 2).1)).1.length≤(allA D (hdP D 2).1).length:=by
          unfold scanS frames;rw [List.length_map];have:=scanF_len (s:=allA D (hdP D 2).1) (f:=(allA D (hdP D 2).1).length+1) (k:=0) (Nat.zero_le _);omega
        show (hdP D 2).1.cnt<_;have:roomN D.pl.length≤1000000:=by rw [hrN];unfold hlf;omega
        omega
      · show ((scanS _).1.map List.length).sum≤_;omega
      · exact s2
    · rw [e] at ho;cases ho
theorem openG_ok {D:Dk} (h:DkOk D) (h6:6≤D.pl.length) (ho:(openG D).1=0):(openA D).1=0∧eallS (openA D).2.2=some (openG D).2.2∧(openG D).2.1=(openA D).2.1∧OpOk D∧Rises (openG D).2.2∧mayL (openG D).2.2=true∧sizG (openG D).2.2≤10 * roomN D.pl.length:=by
  unfold openG at ho ⊢;by_cases h0:(openA D).1≠0
  · rw [if_pos h0] at ho;exact absurd ho h0
  · rw [if_neg h0] at ho ⊢;have h0:(openA D).1=0:=by simpa using h0
    have hk:=openA_ok h h6 h0;cases he:eallS (openA D).2.2 with
    | none=>rw [he] at ho;cases ho
    | some G=>
      obtain ⟨a,b,c⟩:=eall_ok _ [] G rises_nil rfl he;have:sizG []=0:=rfl;have:=hk.sum;exact ⟨h0,rfl,rfl,hk,a,b,by dsimp only;omega⟩
end Go.Gx
namespace Go.Gx
open Go.Proofs
theorem krf16_en32:Go.Proofs.Enters Tryz.prog 32:=Go.Proofs.enters_of Tryz.func32 kr_ rfl
theorem krf16_en33:Go.Proofs.Enters Tryz.prog 33:=Go.Proofs.enters_of Tryz.func33 kr_ rfl
theorem krf16_en34:Go.Proofs.Enters Tryz.prog 34:=Go.Proofs.enters_of Tryz.func34 kr_ rfl
theorem krf16_fo33_1:fieldOff Tryz.prog 33 1=some 1:=by kernel_rfl
theorem krf16_oc31:oneCellT Tryz.prog 31=true:=by kernel_rfl
theorem krf16_oc9:oneCellT Tryz.prog 9=true:=by kernel_rfl
theorem krf16_si33:structInfo Tryz.prog 33=some ([(0,1),(1,1)],[Value.pointer none,Value.slice none 0 0]):=by kernel_rfl
theorem krf16_sz31:(Tryz.prog.info? 31).map (·.size)=some 1:=by kernel_rfl
theorem krf16_sz9:(Tryz.prog.info? 9).map (·.size)=some 1:=by kernel_rfl
theorem own_base {w:World} {base base' sz k:Nat} {e:TypeId} {v:Value} {xs:List Value} (h:Own w base e sz v k xs) (hb:base'≤base):Own w base' e sz v k xs:=by
  obtain ⟨h1,h2⟩:=h;refine ⟨h1,h2.imp id ?_⟩;rintro ⟨b,cap,cs,e,hb',rest⟩;exact ⟨b,cap,cs,e,Nat.le_trans hb hb',rest⟩
theorem eallS_len {l:List Str} {G:List Ed} (h:eallS l=some G) (hs:(l.map List.length).sum≤300000):G.length≤100000:=by
  obtain ⟨-,-,a⟩:=eall_ok l [] G rises_nil rfl h;have:=len_sizG G;have:sizG []=0:=rfl;omega
theorem RLog.carryR {R:Nat→Prop} {n0 bl b:Nat} {w w':World} {q:Pt} {br:Bool} (h:RLog n0 w bl b q br) (g:Gr R w w') (hR:¬ R bl):RLog n0 w' bl b q br:=⟨h.1,h.2.carryR g hR⟩
theorem sum_take:∀ (l:List Str) (i:Nat),((l.take i).map List.length).sum≤(l.map List.length).sum
  | [],i=>by simp
  | s :: l,0=>by simp
  | s :: l,i+1=>by
    have:=sum_take l i;simp only [List.take_succ_cons,List.map_cons,List.sum_cons];omega
theorem open23_e (n0 b bp:Nat) (D:Dk) (K:Fl) (w:World) (h:RDisk n0 w b bp D K) (hd:D.dead=false) (h6:6≤D.pl.length) (ho:(openA D).1≠0):
    Ret Tryz.prog 7 #[.pointer (some ⟨b,0,none⟩)] w fun v w'=>Bel w w'∧v=.tuple #[.pointer none,.int .i64 (openA D).1]:=by
  have hop:=open21 n0 b bp D K w h hd h6;refine ret_of_W Tryz.func7 rfl (Nat.le_of_ble_eq_true rfl) (res2 rfl) ?_;have hB:=Gr.refl (fun _=>False) w;refine W.seq (W.region (L.val (x_as (v:=.pointer _) rfl) rfl ?_));refine L.val (x_as (v:=.int _ _) rfl) rfl ?_;refine L.nil (thn_n (W.seq (W.region (L.val (x_mv (v:=.pointer _) rfl) rfl ?_))));refine L.ret (x_call krf16_en32 rfl) rfl (hop) ?_;rintro v13 w13 ⟨hw,hr⟩;have hB:=hB.carry hw;obtain ⟨-,rfl⟩:=hr.resolve_right (fun e=>ho e.1);refine L.val (x_mv (v:=_) rfl) rfl ?_;refine L.val (x_ext (v:=.pointer _) rfl rfl) rfl ?_;refine L.val (x_ext (v:=.slice _ _ _) rfl rfl) rfl ?_;refine L.val (x_ext (v:=.int _ _) rfl rfl) rfl ?_;refine L.val (x_as (v:=.pointer _) rfl) rfl ?_;refine L.val (x_as (v:=.slice _ _ _) rfl) rfl ?_;refine L.val (x_as (v:=.int _ _) rfl) rfl ?_;refine L.nil (thn_n (W.seq (W.seq (W.region (L.val (x_mv (v:=.int _ _) rfl) rfl ?_)))));refine L.val (x_neq rfl rfl) rfl ?_;refine L.nil (thn_n (W.cond (b:=_) rfl (fun g18=>?_) (fun g18=>?_)))
  ·have h18:=dne_t g18;refine W.seq (W.region (L.val (x_mv (v:=.int _ _) rfl) rfl ?_));refine L.val (x_as (v:=.pointer _) rfl) rfl ?_;refine L.val (x_as (v:=.int _ _) rfl) rfl ?_;refine L.nil (thn_n (W.ret (thn_r (fin_mk (.inr rfl) ?_))));exact ⟨hB,rfl⟩
  ·have h18:=dne_f g18;exact absurd (by simpa using h18) ho
theorem open23_0 (n0 b bp:Nat) (D:Dk) (K:Fl) (w:World) (h:RDisk n0 w b bp D K) (hd:D.dead=false) (h6:6≤D.pl.length) (ho:(openA D).1=0):
    Ret Tryz.prog 7 #[.pointer (some ⟨b,0,none⟩)] w fun v w'=>Bel w w'∧(eallS (openA D).2.2=none∧v=.tuple #[.pointer none,.int .i64 230]∨
      ∃ G,eallS (openA D).2.2=some G∧∃ bs bl,v=.tuple #[.pointer (some ⟨bs,0,none⟩),.int .i64 0]∧RLog w.heap.size w' bl b (openA D).2.1 false∧RSto w.heap.size w' bs bl G):=by
  have hok:DkOk D:=h.2.2.1;have hsm:=hok.small;have hrN:roomN D.pl.length=hlf D.pl.length * 64:=rfl;have hr3:roomN D.pl.length≤300000:=by rw [hrN];unfold hlf;omega
  have hop:=open21 n0 b bp D K w h hd h6;obtain ⟨-,-,-,-,hsum,hall⟩:=openA_ok hok h6 ho;generalize (openA D).2.2=ls at *;generalize (openA D).2.1=q at *;refine ret_of_W Tryz.func7 rfl (Nat.le_of_ble_eq_true rfl) (res2 rfl) ?_;have hB:=Gr.refl (fun _=>False) w;refine W.seq (W.region (L.val (x_as (v:=.pointer _) rfl) rfl ?_));refine L.val (x_as (v:=.int _ _) rfl) rfl ?_;refine L.nil (thn_n (W.seq (W.region (L.val (x_mv (v:=.pointer _) rfl) rfl ?_))));refine L.ret (x_call krf16_en32 rfl) rfl (hop) ?_;rintro v13 w13 ⟨hw,hr⟩;have hB:=hB.carry hw;obtain ⟨-,bl,u,rfl,hl,hu⟩:=hr.resolve_left (fun e=>e.1 ho);have hu:=hu.new;obtain ⟨pu,cu,rfl,-,-,hln,-⟩:=id hu;have hz13:=hw.size;refine L.val (x_mv (v:=_) rfl) rfl ?_;refine L.val (x_ext (v:=.pointer _) rfl rfl) rfl ?_;refine L.val (x_ext (v:=.slice _ _ _) rfl rfl) rfl ?_;refine L.val (x_ext (v:=.int _ _) rfl rfl) rfl ?_;refine L.val (x_as (v:=.pointer _) rfl) rfl ?_;refine L.val (x_as (v:=.slice _ _ _) rfl) rfl ?_;refine L.val (x_as (v:=.int _ _) rfl) rfl ?_;refine L.nil (thn_n (W.seq (W.seq (W.region (L.val (x_mv (v:=.int _ _) rfl) rfl ?_)))));refine L.val (x_neq rfl rfl) rfl ?_;refine L.nil (thn_n (W.cond (b:=_) rfl (fun g18=>?_) (fun g18=>?_)))
  ·have h18:=dne_t g18;cases g18
  ·have h18:=dne_f g18;refine W.skip (thn_n (W.seq (W.region (L.val (x_mv (v:=.pointer _) rfl) rfl ?_))));refine L.val (x_build (cells:=[.pointer _,.slice _ _ _]) krf16_si33 rfl rfl) rfl ?_;refine L.box (cs:=[.pointer (some ⟨bl,0,none⟩),.slice none 0 0]) rfl rfl (fun w22 bx22 hw hz22=>?_);have hB:=hB.carry hw;have hl:=hl.carry hw;have hu:=hu.carry hw;have hbs:=bx22.lt;refine L.val (x_as (v:=.pointer _) rfl) rfl ?_;refine L.nil (thn_n (W.seq (W.seq (W.region (L.val (x_as (v:=.int _ _) rfl) rfl ?_)))));refine L.nil (thn_n (W.block (W.loop (fun m' E w'=>∃ (i:Nat) (G:List Ed) (vo:Value),m'=ls.length - i∧E 5=.slice pu ls.length cu∧E 7=.pointer (some ⟨w13.heap.size,0,none⟩)∧E 8=.int .i64 (i:Nat)∧(i≤ls.length)∧(Bel w w')∧(RLog w.heap.size w' bl b q false)∧(StrsAt (fun k=>w13.heap.size≤k) w' (.slice pu ls.length cu) ls)∧(Box w' w13.heap.size 33 [.pointer (some ⟨bl,0,none⟩),vo])∧(Own w' w.heap.size 70 3 vo G.length (G.map edV).flatten)∧(eallS (ls.take i)=some G)∧(∀ e∈G,EdOk e)) (ls.length) ?_ ?_)))
   ·exact ⟨0,[],.slice none 0 0,by omega,by first | rfl | exact vi om_ | exact vs (by first | assumption | (rw [hst];done) | (rw [hst];simp only [List.append_assoc])),by first | rfl | exact vi om_ | exact vs (by first | assumption | (rw [hst];done) | (rw [hst];simp only [List.append_assoc])),by first | rfl | exact vi om_ | exact vs (by first | assumption | (rw [hst];done) | (rw [hst];simp only [List.append_assoc])),ao_,ao_,ao_,ao_,ao_,(by exact own_nil),(by rfl),(by exact fun e he=>absurd he (by simp))⟩
   ·rintro _ E wL23 ⟨i,G,vo,em,e5,e7,e8,hi,hB,hl,hu,bx22,hO,hG,hE⟩;rw [upd_self e5,upd_self e7,upd_self e8];refine W.seq (W.seq (W.region ?_));obtain ⟨av,cv,ev,-⟩:=own_shape hO;subst ev;refine L.val (x_mv (v:=.int _ _) rfl) rfl ?_;refine L.val (x_mv (v:=.slice _ _ _) rfl) rfl ?_;refine L.val (x_len_slice Tryz.underlying22 rfl) rfl ?_;refine L.val (x_lss rfl rfl) rfl ?_;refine L.nil (thn_n (W.cond (b:=_) rfl (fun g26=>?_) (fun g26=>?_)))
    ·have h26:=of_decide_eq_true g26;have hlt:i<ls.length:=by omega
     obtain ⟨bu,ou,rfl,hc⟩:=hu.elem (i:=i) hlt;have hbi:=hall (ls.getD i []) (by rw [List.getD_eq_getElem?_getD,List.getElem?_eq_getElem hlt];exact List.getElem_mem hlt);have hst:=eall_take hlt;rw [hG] at hst;have hGl:=eallS_len hG (Nat.le_trans (sum_take ls i) om_);refine W.skip (thn_n (W.seq (W.block (W.seq (W.region (L.val (x_mv (v:=.slice _ _ _) rfl) rfl ?_))))));refine L.val (x_mv (v:=.int _ _) rfl) rfl ?_;refine L.val (x_ia1 (j:=i) Tryz.underlying22 krf16_sz9 rfl rfl om_ om_) rfl ?_;refine L.val (x_ld (v:=S _) krf16_oc9 rfl hc) rfl ?_;refine L.ret (x_call krf16_en33 rfl) rfl (read23 (ls.getD i []) hbi _) ?_;rintro _ w34 ⟨⟨pe,ce,ne,rfl,hE34⟩,hw⟩;have hB:=hB.carry hw;have hl:=hl.carry hw;have hu:=hu.carry hw;have bx22:=bx22.carry hw;have hO:=hO.carry hw;refine L.val (x_mv (v:=_) rfl) rfl ?_;refine L.val (x_ext (v:=.slice _ _ _) rfl rfl) rfl ?_;refine L.val (x_ext (v:=.bool _) rfl rfl) rfl ?_;refine L.val (x_as (v:=.slice _ _ _) rfl) rfl ?_;refine L.val (x_as (v:=.bool _) rfl) rfl ?_;refine L.nil (thn_n (W.seq (W.seq (W.region (L.val (x_mv (v:=.bool _) rfl) rfl ?_)))));refine L.val (x_not rfl) rfl ?_;refine L.nil (thn_n (W.cond (b:=_) rfl (fun g38=>?_) (fun g38=>?_)))
     ·have h38:=(not_t g38);have hno:editsB (ls.getD i [])=none:=by
        cases he:editsB (ls.getD i []) with
        | none=>rfl
        | some x=>rw [he] at g38;cases g38
      have hno2:eallS ls=none:=eall_stop (i:=i+1) (by rw [hst];unfold eallF;rw [hno];rfl);refine W.seq (W.region (L.val (x_as (v:=.pointer _) rfl) rfl ?_));refine L.val (x_as (v:=.int _ _) rfl) rfl ?_;refine L.nil (thn_n (W.ret (thn_r (blk_r (thn_r (thn_r (blk_r (thn_r (fin_mk (.inr rfl) ?_)))))))));exact ⟨hB,.inl ⟨hno2,rfl⟩⟩
     ·have h38:=(not_f g38);obtain ⟨x,hx⟩:∃ x,editsB (ls.getD i [])=some x:=by
        cases he:editsB (ls.getD i []) with
        | none=>rw [he] at g38;cases g38
        | some x=>exact ⟨x,rfl⟩
      have hEx:=hE34 x hx;have hG2:eallS (ls.take (i+1))=some (comes G x):=by rw [hst];unfold eallF;rw [hx];rfl
      have hGl2:=eallS_len hG2 (Nat.le_trans (sum_take ls (i+1)) om_);have hxl:x.length≤20000:=by
        obtain ⟨m1,m2⟩:=editsB_ok hx;have:=sizG_body m1;have:=len_sizG x;rw [m2] at *;omega
      obtain ⟨p',cap',row',e',-⟩:=id hEx;cases e';refine W.skip (thn_n (W.region (L.val (x_mv (v:=.pointer _) rfl) rfl ?_)));refine L.val (x_mv (v:=.pointer _) rfl) rfl ?_;refine L.val (x_nil rfl) rfl ?_;refine L.val (x_fa krf16_fo33_1 rfl) rfl ?_;refine L.val (x_ld (v:=.slice _ _ _) krf16_oc31 rfl (bx22.cell0 rfl)) rfl ?_;refine L.val (x_mv (v:=.slice _ _ _) rfl) rfl ?_;have hs45:=hB.size;refine L.ret (x_call krf16_en34 rfl) rfl (do23 _ _ _ _ G x _ (own_eds hO hE om_) hEx om_) ?_;rintro _ w45 ⟨⟨po,co,rfl,hO45,hE2⟩,hw⟩;have hB:=hB.carry hw;have hl:=hl.carry hw;have hu:=hu.carry hw;have bx22:=bx22.carry hw;have hO:=hO.carry hw;have hO2:=own_base hO45 (base':=w.heap.size) hs45;refine L.val (x_nil rfl) rfl ?_;refine L.val (x_fa krf16_fo33_1 rfl) rfl ?_;have hne:=box_ne bx22 hl.2 (by decide);have bx22o:=bx22;refine L.set (v:=.slice _ _ _) krf16_sz31 rfl rfl rfl bx22 rfl (fun wl49 bx22 hw hzl49=>?_);have hsz:=hB.size;have hB:=hB.set hw om_;have hl:=RLog.carryR hl hw (fun e=>by have e:bl=w13.heap.size:=e;omega);have hu:=hu.carryR hw (fun k e=>by have e:k=w13.heap.size:=e;show w13.heap.size≤k;omega);have hO:=Own.carryR hO hw (fun j hj e=>by have e:j=w13.heap.size:=e;subst e;exact own_box_ne hO bx22o (by decide) hj);have hO2:=Own.carryR hO2 hw (fun j hj e=>by have e:j=w13.heap.size:=e;subst e;exact own_box_ne hO2 bx22o (by decide) hj);refine L.nil (blk_n (thn_n (W.region (L.val (x_mv (v:=.int _ _) rfl) rfl ?_))));refine L.val (x_add rfl rfl (wr64 om_)) rfl ?_;refine L.val (x_as (v:=.int _ _) rfl) rfl ?_;refine L.nil (thn_n ⟨rfl,?_⟩);refine ⟨_,?_,i+1,_,_,rfl,by first | rfl | exact vi om_ | exact vs (by first | assumption | (rw [hst];done) | (rw [hst];simp only [List.append_assoc])),by first | rfl | exact vi om_ | exact vs (by first | assumption | (rw [hst];done) | (rw [hst];simp only [List.append_assoc])),by first | rfl | exact vi om_ | exact vs (by first | assumption | (rw [hst];done) | (rw [hst];simp only [List.append_assoc])),ao_,ao_,ao_,ao_,ao_,(by exact hO2),(by exact hG2),(by exact hE2)⟩;omega
    ·have h26:=dlt_f g26;have hie:i=ls.length:=by omega
     subst hie;rw [List.take_length] at hG;refine W.exit (thn_x (thn_x (blk_hit ?_)));refine thn_n (W.seq (W.region (L.val (x_mv (v:=.pointer _) rfl) rfl ?_)));refine L.val (x_as (v:=.pointer _) rfl) rfl ?_;refine L.val (x_as (v:=.int _ _) rfl) rfl ?_;refine L.nil (thn_n (W.ret (fin_mk (.inr rfl) ?_)));exact ⟨hB,.inr ⟨G,hG,_,bl,rfl,hl,hz13,av,cv,bx22,hO,hE⟩⟩
theorem open23 (n0 b bp:Nat) (D:Dk) (K:Fl) (w:World) (h:RDisk n0 w b bp D K) (hd:D.dead=false) (h6:6≤D.pl.length):
    Ret Tryz.prog 7 #[.pointer (some ⟨b,0,none⟩)] w fun v w'=>Bel w w'∧((openG D).1≠0∧v=.tuple #[.pointer none,.int .i64 (openG D).1]∨
      (openG D).1=0∧∃ bs bl,v=.tuple #[.pointer (some ⟨bs,0,none⟩),.int .i64 0]∧RLog w.heap.size w' bl b (openG D).2.1 false∧RSto w.heap.size w' bs bl (openG D).2.2):=by
  by_cases ho:(openA D).1=0
  · refine (open23_0 n0 b bp D K w h hd h6 ho).mono fun v w' ⟨h1,h2⟩=>⟨h1,?_⟩
    unfold openG;rw [if_neg (by rw [ho];exact fun e=>e rfl)];rcases h2 with ⟨e,rfl⟩ | ⟨G,e,bs,bl,rfl,h3,h4⟩
    · rw [e];exact .inl ⟨show ¬ ((230:Int)=0) by decide,rfl⟩
    · rw [e];exact .inr ⟨rfl,bs,bl,rfl,h3,h4⟩
  · refine (open23_e n0 b bp D K w h hd h6 ho).mono fun v w' ⟨h1,h2⟩=>⟨h1,.inl ?_⟩
    unfold openG;rw [if_pos ho];exact ⟨ho,h2⟩
end Go.Gx
namespace Go.Gx
open Go.Proofs
theorem krf17_el9:elT Tryz.prog 9 1=true:=by kernel_rfl
theorem krf17_en34:Go.Proofs.Enters Tryz.prog 34:=Go.Proofs.enters_of Tryz.func34 kr_ rfl
theorem krf17_en47:Go.Proofs.Enters Tryz.prog 47:=Go.Proofs.enters_of Tryz.func47 kr_ rfl
theorem krf17_en48:Go.Proofs.Enters Tryz.prog 48:=Go.Proofs.enters_of Tryz.func48 kr_ rfl
theorem krf17_en49:Go.Proofs.Enters Tryz.prog 49:=Go.Proofs.enters_of Tryz.func49 kr_ rfl
theorem krf17_en50:Go.Proofs.Enters Tryz.prog 50:=Go.Proofs.enters_of Tryz.func50 kr_ rfl
theorem krf17_en8:Go.Proofs.Enters Tryz.prog 8:=Go.Proofs.enters_of Tryz.func8 kr_ rfl
theorem krf17_fo33_0:fieldOff Tryz.prog 33 0=some 0:=by kernel_rfl
theorem krf17_fo33_1:fieldOff Tryz.prog 33 1=some 1:=by kernel_rfl
theorem krf17_mixed:Tryz.prog.follows .mixedOrders=true:=by kernel_rfl
theorem krf17_oc30:oneCellT Tryz.prog 30=true:=by kernel_rfl
theorem krf17_oc31:oneCellT Tryz.prog 31=true:=by kernel_rfl
theorem krf17_sz31:(Tryz.prog.info? 31).map (·.size)=some 1:=by kernel_rfl
def rsTy (T:TypeId):Bool:=rlTy T || T == 33
theorem rs_of_rl (T:TypeId) (h:rlTy T=true):rsTy T=true:=by unfold rsTy;rw [h];rfl
def comM (D:Dk) (K:Fl) (q:Pt) (G l:List Ed):Int × Dk × Pt:=
  if mayL l=true then (if l=[] then (0,D,q) else if (appM D K q [bodyB l]).1=210 then turnM D K q (allB (snapL (comes G l))) else appM D K q [bodyB l]) else (230,D,q)
theorem appM_210 {D:Dk} {K:Fl} {q:Pt} {l:List Str} (h:(appM D K q l).1=210):(appM D K q l).2.1=D∧(appM D K q l).2.2=q:=by
  unfold appM at h ⊢;split
  · rename_i h1
    rw [if_pos h1] at h;split
    · exact ⟨rfl,rfl⟩
    · rename_i h2
      rw [if_neg h2] at h;unfold outF at h;dsimp only at h;split at h <;> exact absurd h (by decide)
  · exact ⟨rfl,rfl⟩
theorem appM_nil (D:Dk) (K:Fl) (q:Pt):appM D K q []=(0,D,q):=by
  unfold appM;rw [if_neg (fun e=>e.2 rfl)];rfl
theorem own_rg {n0 b bp base:Nat} {w w':World} {D:Dk} {K:Fl} {v:Value} {k:Nat} {xs:List Value} (h:Own w base 70 3 v k xs) (hd:RDisk n0 w b bp D K) (g:Rt rlTy n0 bp w w'):Own w' base 70 3 v k xs:=by
  obtain ⟨-,-,-,cp,tl,vc,vk,-,-,hp,-⟩:=hd;refine Own.carryR h g fun j hj hr=>?_
  rcases hr with e | e
  · subst e;exact own_box_ne h hp (by decide) hj
  · exact DkB.no_own h kr_ j hj e
theorem RSto.rg {n0 b bp bs bl:Nat} {w w':World} {D:Dk} {K:Fl} {G:List Ed} (h:RSto n0 w bs bl G) (hd:RDisk n0 w b bp D K) (g:Rt rlTy n0 bp w w'):RSto n0 w' bs bl G:=by
  obtain ⟨h1,p,c,h2,h3,h4⟩:=h;exact ⟨h1,p,c,h2.rg g kr_ (hd.ne h2 (by decide)),own_rg h3 hd g,h4⟩
theorem compact23 (n0 bs bl b bp:Nat) (D:Dk) (K:Fl) (q:Pt) (G:List Ed) (w:World) (h:RDisk n0 w b bp D K) (hl:RLog n0 w bl b q false) (hq:QM D q) (har:D.armed≤9223372036854775807) (hst:RSto n0 w bs bl G) (hmay:mayL G=true) (hn:n0≤w.heap.size) (hGl:G.length≤1000000) (hne:need (allB (snapL G))≤10000000):
    Ret Tryz.prog 18 #[.pointer (some ⟨bs,0,none⟩)] w fun v w'=>v=.int .i64 (turnM D K q (allB (snapL G))).1∧RDisk n0 w' b bp (turnM D K q (allB (snapL G))).2.1 K∧RLog n0 w' bl b (turnM D K q (allB (snapL G))).2.2 (turnM D K q (allB (snapL G))).2.1.dead∧RSto n0 w' bs bl G∧Rt rsTy n0 bp w w':=by
  obtain ⟨hbs,p,c,hb,hE,hok⟩:=id hst;refine ret_of_W Tryz.func18 rfl (Nat.le_of_ble_eq_true rfl) (res1 rfl) ?_;refine W.seq (W.region (L.val (x_as (v:=.int _ _) rfl) rfl ?_));refine L.nil (thn_n (W.seq (W.drawD (fun _=>True) (fun _=>False) 9 krf17_mixed (fun wD3 hw=>?_))));have hB0:=Gr.refl (fun _=>False) wD3;have hR0:=Gr.refl (fun _=>True) wD3;have hb:=hb.carry hw;have h:=h.bel hw;have hl:=hl.carry hw;have hst:=hst.carry hw;have hE:=Own.carry hE hw;have hG0:Rt rlTy n0 bp w wD3:=Rt.of_bel hw;have hn:=Nat.le_trans hn hw.size;refine LAD.take0 (i:=0) rfl kr_ kr_ kr_ kr_ (fun w hw=>x_mv (v:=.pointer _) rfl) rfl ?_;refine LAD.take0 (i:=1) rfl kr_ kr_ kr_ kr_ (fun w hw=>x_nil rfl) rfl ?_;refine LAD.take0 (i:=2) rfl kr_ kr_ kr_ kr_ (fun w hw=>x_fa krf17_fo33_0 rfl) rfl ?_;refine LAD.take1 (i:=3) rfl kr_ kr_ kr_ kr_ kr_ kr_ (fun w hw=>x_ld (v:=.pointer _) krf17_oc30 rfl (hw.keepR (fun e=>e) (hb.cell0 rfl))) rfl ?_;refine LAD.take0 (i:=4) rfl kr_ kr_ kr_ kr_ (fun w hw=>x_mv (v:=.pointer _) rfl) rfl ?_;refine LAD.take0 (i:=5) rfl kr_ kr_ kr_ kr_ (fun w hw=>x_nil rfl) rfl ?_;refine LAD.take0 (i:=6) rfl kr_ kr_ kr_ kr_ (fun w hw=>x_fa krf17_fo33_1 rfl) rfl ?_;refine LAD.takeP [8,7] (i:=7) rfl kr_ kr_ kr_ kr_ kr_ kr_ (fun w hw=>x_ld (v:=.slice _ _ _) krf17_oc31 rfl (hw.keepR (fun e=>e) (hb.cell0 rfl))) rfl ?_;refine LAD.step (rs:=[8]) hR0 (fun _=>hB0) kr_ (by simp) ⟨⟨_,rfl,?_⟩,trivial⟩;refine L.ret (x_call krf17_en50 rfl) rfl (snap23 _ _ G _ (own_eds (Own.carry hE hB0) hok hGl) hmay hGl) ?_;rintro v11 w11 ⟨hv11,hw⟩;have hB0:=hB0.carry hw;have hR0:=hR0.carry hw;have hb:=hb.carry hw;obtain ⟨p11,c11,rfl,-⟩:=id hv11;have hv11:=hv11.new;refine L.nil (thn_n (LAD.step (rs:=[9]) hR0 (fun _=>hB0) kr_ (by simp) ⟨⟨_,rfl,?_⟩,trivial⟩));refine L.ret (x_call krf17_en49 rfl) rfl (turn21 n0 bl b bp _ _ (allB (snapL G)) D K q _ (h.bel hB0) (hl.carry hB0) hq har hv11 (Nat.le_trans hn hB0.size) hne) ?_;rintro _ w12 ⟨rfl,h12,hl12,hg12⟩;have hG12d:Rt rlTy n0 bp wD3 w12:=(Rt.of_bel hB0).trans hg12;have hst12:=hst.rg h hG12d;have hG12:=hG0.trans hG12d;have hR0:=hR0.trans (Gr.mono hg12 (fun _ _ _=>trivial));have hb:True:=trivial;refine L.nil (thn_n (LAD.take0 (i:=10) rfl kr_ kr_ kr_ kr_ (fun w hw=>x_as (v:=.int _ _) rfl) rfl ?_));refine LAD.done kr_ kr_ hR0 ?_;refine thn_n (W.ret (fin_mk (.inr rfl) ?_));exact ⟨rfl,h12,hl12,hst12,Rt.mono hG12 rs_of_rl⟩
theorem RDisk.sto {n0 b bp bs:Nat} {w w':World} {D:Dk} {K:Fl} {cs:List Value} (h:RDisk n0 w b bp D K) (hb:Box w bs 33 cs) (hn:n0≤bs) (g:Gr (fun k=>k=bs) w w'):RDisk n0 w' b bp D K:=by
  refine h.keep g (fun k e=>by have e:k=bs:=e;rw [e];exact hn) (fun k T cs' e hbx=>?_) (fun e=>h.ne hb (by decide) (Eq.symm e));have e:k=bs:=e;subst e;unfold Box at hb hbx;rw [hb] at hbx;cases hbx;decide
theorem commit23 (n0 bs bl b bp:Nat) (A:Nat→Prop) (v:Value) (l:List Ed) (D:Dk) (K:Fl) (q:Pt) (G:List Ed) (w:World) (h:RDisk n0 w b bp D K) (hl:RLog n0 w bl b q false) (hq:QM D q) (har:D.armed≤9223372036854775807) (hst:RSto n0 w bs bl G) (hmay:mayL G=true) (hs:EdsAt A w v l) (hn:n0≤w.heap.size)
    (hln:l.length≤10000) (hGl:G.length+l.length≤1000000) (hne:mayL l=true→need (allB (snapL (comes G l)))≤10000000):
    Ret Tryz.prog 16 #[.pointer (some ⟨bs,0,none⟩),v] w fun v w'=>v=.int .i64 (comM D K q G l).1∧RDisk n0 w' b bp (comM D K q G l).2.1 K∧RLog n0 w' bl b (comM D K q G l).2.2 (comM D K q G l).2.1.dead∧RSto n0 w' bs bl (if (comM D K q G l).1=0 then comes G l else G)∧Rt rsTy n0 bp w w':=by
  obtain ⟨hbs,p,c,hb,hE,hok⟩:=id hst;have hs:=(hs.up).mono (A':=fun k=>w.heap.size≤k) (fun _ _ hk=>.inr hk);obtain ⟨pv,cv,row,rfl,-⟩:=id hs;have hdd:D.dead=false:=hq.live;have hGn:=comes_len0 (g:=G) (h:=l);have hap:=append21 n0 bl b bp (fun _=>False) (.slice none 0 0) [] D K q;rw [appM_nil] at hap;refine ret_of_W Tryz.func16 rfl (Nat.le_of_ble_eq_true rfl) (res1 rfl) ?_;have hB:=Gr.refl (fun _=>False) w;refine W.seq (W.region (L.val (x_as (v:=.int _ _) rfl) rfl ?_));refine L.nil (thn_n (W.seq (W.seq (W.region (L.val (x_mv (v:=.slice _ _ _) rfl) rfl ?_)))));refine L.ret (x_call krf17_en47 rfl) rfl (may23 _ _ l _ hs) ?_;rintro _ w8 ⟨rfl,hw⟩;have hB:=hB.carry hw;have h:=h.carry hw;have hl:=hl.carry hw;have hst:=hst.carry hw;have hb:=hb.carry hw;have hE:=hE.carry hw;have hs:=hs.carry hw;refine L.val (x_not rfl) rfl ?_;refine L.nil (thn_n (W.cond (b:=_) rfl (fun g9=>?_) (fun g9=>?_)))
  ·have h9:=(not_t g9);have hml:¬ mayL l=true:=by simpa using g9
   have hr:comM D K q G l=(230,D,q):=by unfold comM;rw [if_neg hml]
   refine W.seq (W.region (L.val (x_as (v:=.int _ _) rfl) rfl ?_));refine L.nil (thn_n (W.ret (thn_r (fin_mk (.inr rfl) ?_))));rw [hr];dsimp only;rw [if_neg (by decide)];exact ⟨rfl,h,(show (D.dead=false) from hdd) ▸ hl,hst,Rt.of_bel hB⟩
  ·have h9:=(not_f g9);have hml:mayL l=true:=by simpa using g9
   refine W.skip (thn_n (W.seq (W.seq (W.region (L.val (x_mv (v:=.slice _ _ _) rfl) rfl ?_)))));refine L.val (x_len_slice Tryz.underlying31 rfl) rfl ?_;refine L.val (x_eql rfl rfl) rfl ?_;refine L.nil (thn_n (W.cond (b:=_) rfl (fun g12=>?_) (fun g12=>?_)))
   ·have h12:=of_decide_eq_true g12;have hl0:l=[]:=List.eq_nil_of_length_eq_zero om_;have hr:comM D K q G l=(0,D,q):=by unfold comM;rw [if_pos hml,if_pos hl0]
    have hcG:comes G l=G:=by rw [hl0];rfl
    refine W.seq (W.region (L.val (x_mv (v:=.pointer _) rfl) rfl ?_));refine L.val (x_nil rfl) rfl ?_;refine L.val (x_fa krf17_fo33_0 rfl) rfl ?_;refine L.val (x_ld (v:=.pointer _) krf17_oc30 rfl (hb.cell0 rfl)) rfl ?_;refine L.ret (x_call krf17_en8 rfl) rfl (hap _ h hl hq har (StrsAt.nil _ _ _ _ om_) (Nat.le_trans hn hB.size) (by decide)) ?_;rintro _ w17 ⟨rfl,h17,hl17,hg17⟩;refine L.val (x_as (v:=.int _ _) rfl) rfl ?_;refine L.nil (thn_n (W.ret (thn_r (fin_mk (.inr rfl) ?_))));rw [hr];dsimp only;rw [if_pos rfl,hcG];have hG17:Rt rlTy n0 bp w w17:=(Rt.of_bel hB).trans hg17;exact ⟨rfl,h17,(show (D.dead=false) from hdd) ▸ hl17,hst.rg h hg17,Rt.mono hG17 rs_of_rl⟩
   ·have h12:=of_decide_eq_false g12;have hl0:¬ l=[]:=fun e=>h12 (by rw [e];rfl)
    refine W.skip (thn_n (W.seq (W.region (L.val (x_mv (v:=.pointer _) rfl) rfl ?_))));refine L.val (x_nil rfl) rfl ?_;refine L.val (x_fa krf17_fo33_1 rfl) rfl ?_;refine L.val (x_ld (v:=.slice _ _ _) krf17_oc31 rfl (hb.cell0 rfl)) rfl ?_;refine L.val (x_mv (v:=.slice _ _ _) rfl) rfl ?_;have hs23:=hB.size;refine L.ret (x_call krf17_en34 rfl) rfl (do23 _ _ _ _ G l _ (own_eds hE hok om_) hs om_) ?_;rintro _ w23 ⟨⟨po,co,rfl,hO,hok2⟩,hw⟩;have hB:=hB.carry hw;have h:=h.carry hw;have hl:=hl.carry hw;have hst:=hst.carry hw;have hb:=hb.carry hw;have hE:=hE.carry hw;have hs:=hs.carry hw;have hO:=own_base hO (base':=n0) om_;refine L.val (x_as (v:=.slice _ _ _) rfl) rfl ?_;refine L.nil (thn_n (W.seq (W.drawD (fun _=>True) (fun _=>False) 7 krf17_mixed (fun wD24 hw=>?_))));have hB:=hB.carry hw;have h:=h.carry hw;have hl:=hl.carry hw;have hst:=hst.carry hw;have hb:=hb.carry hw;have hE:=hE.carry hw;have hs:=hs.carry hw;have hO:=hO.carry hw;have hB0:=Gr.refl (fun _=>False) wD24;have hR0:=Gr.refl (fun _=>True) wD24;have hn:=Nat.le_trans hn hB.size;refine LAD.take0 (i:=0) rfl kr_ kr_ kr_ kr_ (fun w hw=>x_mv (v:=.pointer _) rfl) rfl ?_;refine LAD.take0 (i:=1) rfl kr_ kr_ kr_ kr_ (fun w hw=>x_nil rfl) rfl ?_;refine LAD.take0 (i:=2) rfl kr_ kr_ kr_ kr_ (fun w hw=>x_fa krf17_fo33_0 rfl) rfl ?_;refine LAD.take1 (i:=3) rfl kr_ kr_ kr_ kr_ kr_ kr_ (fun w hw=>x_ld (v:=.pointer _) krf17_oc30 rfl (hw.keepR (fun e=>e) (hb.cell0 rfl))) rfl ?_;refine LAD.take0 (i:=4) rfl kr_ kr_ kr_ kr_ (fun w hw=>x_mv (v:=.slice _ _ _) rfl) rfl ?_;refine LAD.step (rs:=[5]) hR0 (fun _=>hB0) kr_ (by simp) ⟨⟨_,rfl,?_⟩,trivial⟩;refine L.ret (x_call krf17_en48 rfl) rfl (body23 _ _ l _ (hs.carry hB0) om_ (by have:=mayL_body hml om_;omega)) ?_;rintro _ w29 ⟨rfl,hw⟩;have hB0:=hB0.carry hw;have hR0:=hR0.carry hw;have hb:=hb.carry hw;refine L.nil (thn_n (LAD.step (rs:=[6]) hR0 (fun _=>hB0) kr_ (by simp) ⟨⟨_,rfl,?_⟩,trivial⟩));refine L.bs (sz:=1) (cells:=[S (bodyB l)]) Tryz.underlying22 krf17_el9 rfl rfl rfl rfl (fun w30 bx30 hw hz30=>?_);have hB0:=hB0.carry hw;have hR0:=hR0.carry hw;have hb:=hb.carry hw;have hbS:StrsAt (fun _=>False) w30 (.slice (some ⟨w29.heap.size,0,none⟩) 1 1) [bodyB l]:=strs_new [bodyB l] bx30 (by simp) (fun x hx=>by rw [List.mem_singleton.1 hx];have:=mayL_body hml om_;omega);refine L.nil (thn_n (LAD.step (rs:=[7]) hR0 (fun _=>hB0) kr_ (by simp) ⟨⟨_,rfl,?_⟩,trivial⟩));refine L.ret (x_call krf17_en8 rfl) rfl (append21 n0 bl b bp _ _ [bodyB l] D K q _ (h.bel hB0) (hl.carry hB0) hq har hbS (Nat.le_trans hn hB0.size) (by have:=mayL_body hml om_;simp [need];omega)) ?_;rintro _ w31 ⟨rfl,h31,hl31,hg31⟩;have hG31:Rt rlTy n0 bp wD24 w31:=(Rt.of_bel hB0).trans hg31;have hG31w:Rt rlTy n0 bp w w31:=(Rt.of_bel hB).trans hG31;have hR0:=hR0.trans (Gr.mono hg31 (fun _ _ _=>trivial));have hb:=hb.rg hg31 kr_ ((h.bel hB0).ne hb (by decide));have hst31:=hst.rg h hG31;have hO31:=own_rg hO h hG31;have hn31:n0≤w31.heap.size:=by have:=hG31.size;omega
    refine L.nil (thn_n (LAD.take0 (i:=8) rfl kr_ kr_ kr_ kr_ (fun w hw=>x_as (v:=.int _ _) rfl) rfl ?_));refine LAD.done kr_ kr_ hR0 ?_;have hB:=Gr.refl (fun _=>False) w31;have h:=h31;have hl:=hl31;have hst:=hst31;have hE:=trivial;have hs:=trivial;have hO:=hO31;refine thn_n (W.cut (fun D' E' w'=>D'=[]∧E' 0=.pointer (some ⟨bs,0,none⟩)∧E' 5=.slice po (comes G l).length co∧E' 6=.int .i64 (comM D K q G l).1∧RDisk n0 w' b bp (comM D K q G l).2.1 K∧RLog n0 w' bl b (comM D K q G l).2.2 (comM D K q G l).2.1.dead∧RSto n0 w' bs bl G∧Box w' bs 33 [.pointer (some ⟨bl,0,none⟩),.slice p G.length c]∧Own w' n0 70 3 (.slice po (comes G l).length co) (comes G l).length ((comes G l).map edV).flatten∧Rt rlTy n0 bp w w') ?_ ?_)
    ·refine W.seq (W.region (L.val (x_mv (v:=.int _ _) rfl) rfl ?_));refine L.val (x_eql rfl rfl) rfl ?_;refine L.nil (thn_n (W.cond (b:=_) rfl (fun g33=>?_) (fun g33=>?_)))
     ·have h33:=of_decide_eq_true g33;have h210:(appM D K q [bodyB l]).1=210:=by simpa using g33
      obtain ⟨h210a,h210b⟩:=appM_210 h210;rw [h210a] at h hl;rw [h210b] at hl;have hl:RLog n0 w31 bl b q false:=(show (D.dead=false) from hdd) ▸ hl;have hr:comM D K q G l=turnM D K q (allB (snapL (comes G l))):=by unfold comM;rw [if_pos hml,if_neg hl0,if_pos h210]
      have hcm:=may_comes hmay hml;refine W.drawD (fun _=>True) (fun _=>False) 6 krf17_mixed (fun wD34 hw=>?_);have hB:=hB.carry hw;have h:=h.carry hw;have hl:=hl.carry hw;have hst:=hst.carry hw;have hb:=hb.carry hw;have hO:=hO.carry hw;have hB0:=Gr.refl (fun _=>False) wD34;have hR0:=Gr.refl (fun _=>True) wD34;have hG31w:Rt rlTy n0 bp w wD34:=hG31w.trans (Rt.of_bel hw);have hn34:n0≤wD34.heap.size:=by have:=hG31w.size;omega
      refine LAD.take0 (i:=0) rfl kr_ kr_ kr_ kr_ (fun w hw=>x_mv (v:=.pointer _) rfl) rfl ?_;refine LAD.take0 (i:=1) rfl kr_ kr_ kr_ kr_ (fun w hw=>x_nil rfl) rfl ?_;refine LAD.take0 (i:=2) rfl kr_ kr_ kr_ kr_ (fun w hw=>x_fa krf17_fo33_0 rfl) rfl ?_;refine LAD.take1 (i:=3) rfl kr_ kr_ kr_ kr_ kr_ kr_ (fun w hw=>x_ld (v:=.pointer _) krf17_oc30 rfl (hw.keepR (fun e=>e) (hb.cell0 rfl))) rfl ?_;refine LAD.take0 (i:=4) rfl kr_ kr_ kr_ kr_ (fun w hw=>x_mv (v:=.slice _ _ _) rfl) rfl ?_;refine LAD.step (rs:=[5]) hR0 (fun _=>hB0) kr_ (by simp) ⟨⟨_,rfl,?_⟩,trivial⟩;refine L.ret (x_call krf17_en50 rfl) rfl (snap23 _ _ (comes G l) _ (own_eds (Own.carry hO hB0) hok2 om_) hcm om_) ?_;rintro v39 w39 ⟨hv39,hw⟩;have hB0:=hB0.carry hw;have hR0:=hR0.carry hw;have hb:=hb.carry hw;obtain ⟨p39,c39,rfl,-⟩:=id hv39;have hv39:=hv39.new;refine L.nil (thn_n (LAD.step (rs:=[6]) hR0 (fun _=>hB0) kr_ (by simp) ⟨⟨_,rfl,?_⟩,trivial⟩));refine L.ret (x_call krf17_en49 rfl) rfl (turn21 n0 bl b bp _ _ (allB (snapL (comes G l))) D K q _ (h.bel hB0) (hl.carry hB0) hq har hv39 (Nat.le_trans hn34 hB0.size) (hne hml)) ?_;rintro _ w40 ⟨rfl,h40,hl40,hg40⟩;have hG40:Rt rlTy n0 bp wD34 w40:=(Rt.of_bel hB0).trans hg40;have hG40w:Rt rlTy n0 bp w w40:=hG31w.trans hG40;have hR0:=hR0.trans (Gr.mono hg40 (fun _ _ _=>trivial));have hb:=hb.rg hg40 kr_ ((h.bel hB0).ne hb (by decide));have hst40:=hst.rg h hG40;have hO40:=own_rg hO h hG40;refine L.nil (thn_n (LAD.take0 (i:=7) rfl kr_ kr_ kr_ kr_ (fun w hw=>x_as (v:=.int _ _) rfl) rfl ?_));refine LAD.done kr_ kr_ hR0 ?_;have hB:=Gr.refl (fun _=>False) w40;have h:=trivial;have hl:=trivial;have hst:=trivial;have hO:=trivial;refine thn_n ?_;exact ⟨rfl,rfl,rfl,congrArg (fun r:Int × Dk × Pt=>Value.int .i64 r.1) hr.symm,(by rw [hr];exact h40),(by rw [hr];exact hl40),hst40,hb,hO40,hG40w⟩
     ·have h33:=of_decide_eq_false g33;have h210:¬ (appM D K q [bodyB l]).1=210:=by simpa using g33
      have hr:comM D K q G l=appM D K q [bodyB l]:=by unfold comM;rw [if_pos hml,if_neg hl0,if_neg h210]
      refine W.skip (thn_n ?_);exact ⟨rfl,rfl,rfl,congrArg (fun r:Int × Dk × Pt=>Value.int .i64 r.1) hr.symm,(by rw [hr];exact h),(by rw [hr];exact hl),hst,hb,hO,hG31w⟩
    ·rintro D' E w41 ⟨rfl,e0,e5,e6,h41,hl41,hst41,hb,hO41,hG41⟩;rw [upd_self e0,upd_self e5,upd_self e6];generalize hrr:comM D K q G l=r at *;refine W.seq (W.seq (W.region (L.val (x_mv (v:=.int _ _) rfl) rfl ?_)));refine L.val (x_eql rfl rfl) rfl ?_;refine L.nil (thn_n (W.cond (b:=_) rfl (fun g42=>?_) (fun g42=>?_)))
     ·have h42:=of_decide_eq_true g42;have h42:r.1=0:=by simpa using g42
      refine W.region (L.val (x_mv (v:=.pointer _) rfl) rfl ?_);refine L.val (x_mv (v:=.slice _ _ _) rfl) rfl ?_;refine L.val (x_nil rfl) rfl ?_;refine L.val (x_fa krf17_fo33_1 rfl) rfl ?_;have hbo:=hb;refine L.set (v:=.slice _ _ _) krf17_sz31 rfl rfl rfl hb rfl (fun wl47 hb hw hzl47=>?_);refine L.nil (thn_n (W.seq (W.region (L.val (x_mv (v:=.int _ _) rfl) rfl ?_))));refine L.val (x_as (v:=.int _ _) rfl) rfl ?_;refine L.nil (thn_n (W.ret (fin_mk (.inr rfl) ?_)));first
      | (rw [if_pos h42];exact ⟨rfl,h41.sto hbo hbs hw,hl41.carryR hw (box_ne hl41.2 hbo (by decide)),⟨hbs,po,co,hb,Own.carryR hO41 hw (fun j hj e=>by have e:j=bs:=e;subst e;exact own_box_ne hO41 hbo (by decide) hj),hok2⟩,(Rt.mono hG41 rs_of_rl).trans (Rt.box hbo kr_ hbs hw)⟩)
      | (rw [if_neg h42];exact ⟨rfl,h41,hl41,hst41,Rt.mono hG41 rs_of_rl⟩)
     ·have h42:=of_decide_eq_false g42;have h42:¬ r.1=0:=by simpa using g42
      refine W.skip (thn_n (W.seq (W.region (L.val (x_mv (v:=.int _ _) rfl) rfl ?_))));refine L.val (x_as (v:=.int _ _) rfl) rfl ?_;refine L.nil (thn_n (W.ret (fin_mk (.inr rfl) ?_)));first
      | (rw [if_pos h42];exact ⟨rfl,h41.sto hbo hbs hw,hl41.carryR hw (box_ne hl41.2 hbo (by decide)),⟨hbs,po,co,hb,Own.carryR hO41 hw (fun j hj e=>by have e:j=bs:=e;subst e;exact own_box_ne hO41 hbo (by decide) hj),hok2⟩,(Rt.mono hG41 rs_of_rl).trans (Rt.box hbo kr_ hbs hw)⟩)
      | (rw [if_neg h42];exact ⟨rfl,h41,hl41,hst41,Rt.mono hG41 rs_of_rl⟩)
end Go.Gx
