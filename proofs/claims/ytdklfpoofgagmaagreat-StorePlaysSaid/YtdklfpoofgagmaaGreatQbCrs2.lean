/- A commit through a fall of the power. Conditions: none. -/
import Derived.Test.YtdklfpoofgagmaaGreatQbStoD
import Derived.Test.YtdklfpoofgagmaaGreatQbWal8
namespace Go.Gx
open Go.Proofs
structure Fl where
  keep:List Bool
  torn:Int
  cut:Int
def ndrop (K:Fl) (k:Nat):Nat:=if ((k:Nat):Int)+1=K.torn then (min (max K.cut 0) 64).toNat else if K.keep.getD k false then 64 else 0
theorem ndrop_le (K:Fl) (k:Nat):ndrop K k≤64:=by unfold ndrop;split;omega;split <;> omega
def dropL (K:Fl):Nat→List (Nat × Str)→List Str→List Str
  | _,[],pl=>pl
  | k,x :: l,pl=>dropL K (k+1) l (pl.set x.1 (x.2.take (ndrop K k)++(pl.getD x.1 []).drop (ndrop K k)))
def dropD (D:Dk) (K:Fl):Dk:={ pl:=dropL K 0 D.ca D.pl,ca:=[],armed:=0,ops:=D.ops,dead:=true }
theorem dropL_len (K:Fl):∀ (l:List (Nat × Str)) (k:Nat) (pl:List Str),(dropL K k l pl).length=pl.length
  | [],_,_=>rfl
  | x :: l,k,pl=>by rw [dropL,dropL_len K l,List.length_set]
def wrF (D:Dk) (K:Fl) (i:Nat) (s:Str):Dk:=if D.armed=1 then dropD (wrD D i s) K else { wrD D i s with armed:=D.armed - 1 }
def flF (D:Dk) (K:Fl):Dk:=if D.armed=1 then dropD { D with ops:=D.ops+1 } K else { flD D with armed:=D.armed - 1 }
def runW (K:Fl):Dk→List (Nat × Str)→Dk
  | D,[]=>D
  | D,x :: r=>if (wrF D K x.1 x.2).dead then wrF D K x.1 x.2 else runW K (wrF D K x.1 x.2) r
theorem wrF_dead {D:Dk} (hd:D.dead=false) (K:Fl) (i:Nat) (s:Str):(wrF D K i s).dead=decide (D.armed=1):=by
  unfold wrF;split
  · rename_i h;rw [decide_eq_true h];rfl
  · rename_i h;rw [decide_eq_false h];exact hd
theorem flF_dead {D:Dk} (hd:D.dead=false) (K:Fl):(flF D K).dead=decide (D.armed=1):=by
  unfold flF;split
  · rename_i h;rw [decide_eq_true h];rfl
  · rename_i h;rw [decide_eq_false h];exact hd
theorem runW_app (K:Fl):∀ (a:List (Nat × Str)) (D:Dk) (b:List (Nat × Str)),D.dead=false→runW K D (a++b)=if (runW K D a).dead then runW K D a else runW K (runW K D a) b
  | [],D,b,hd=>by
    have e:runW K D []=D:=rfl;rw [List.nil_append,e,hd,if_neg (by decide)]
  | x :: a,D,b,hd=>by
    rw [List.cons_append,runW,runW];by_cases h:(wrF D K x.1 x.2).dead=true
    · rw [if_pos h,if_pos h,if_pos h]
    · rw [if_neg h,if_neg h];exact runW_app K a _ b (by simpa using h)
theorem runW_case (K:Fl):∀ (l:List (Nat × Str)) (D:Dk),D.dead=false→
    (runW K D l={ D with ca:=D.ca++l,ops:=D.ops+l.length,armed:=D.armed - l.length }∧(D.armed=0∨l.length<D.armed))∨
    (runW K D l).dead=true∧(∃ m,m≤l.length∧(runW K D l).pl=dropL K 0 (D.ca++l.take m) D.pl)∧(runW K D l).ca=[]∧(runW K D l).armed=0∧D.ops≤(runW K D l).ops∧(runW K D l).ops≤D.ops+l.length
  | [],D,hd=>.inl ⟨by simp [runW],by simp;omega⟩
  | x :: l,D,hd=>by
    have hdx:=wrF_dead hd K x.1 x.2;by_cases ha:D.armed=1
    · right;have e:wrF D K x.1 x.2=dropD (wrD D x.1 x.2) K:=by unfold wrF;rw [if_pos ha]
      have er:runW K D (x :: l)=dropD (wrD D x.1 x.2) K:=by
        rw [runW,if_pos (by rw [hdx];simpa using ha),e]
      rw [er];refine ⟨rfl,⟨1,by simp,?_⟩,rfl,rfl,?_,?_⟩
      · simp [dropD,wrD]
      · show D.ops≤D.ops+1;omega
      · show D.ops+1≤_;simp
    · have e:wrF D K x.1 x.2={ wrD D x.1 x.2 with armed:=D.armed - 1 }:=by unfold wrF;rw [if_neg ha]
      have hdf:(wrF D K x.1 x.2).dead=false:=by rw [hdx];simpa using ha
      have er:runW K D (x :: l)=runW K (wrF D K x.1 x.2) l:=by rw [runW,if_neg (by rw [hdf];decide)]
      have ih:=runW_case K l (wrF D K x.1 x.2) hdf;rw [er];rcases ih with ⟨h1,h2⟩ | ⟨h1,⟨m,hm,h2⟩,h3,h4,h5,h6⟩
      · left;rw [e] at h2;dsimp only at h2;refine ⟨?_,by simp only [List.length_cons];omega⟩;rw [h1,e];simp only [wrD,List.append_assoc,List.cons_append,List.nil_append,List.length_cons];congr 1
        · omega
        · omega
      · right;have eo:(wrF D K x.1 x.2).ops=D.ops+1:=by rw [e];rfl
        rw [eo] at h5 h6;rw [e] at h2;dsimp only [wrD] at h2;refine ⟨h1,⟨m+1,by simp only [List.length_cons];omega,?_⟩,h3,h4,by omega,by simp only [List.length_cons];omega⟩;rw [e];dsimp only [wrD] at h2 ⊢;rw [h2,List.take_succ_cons,List.append_assoc,List.cons_append,List.nil_append]
def comF (D:Dk) (K:Fl) (ws:List (Nat × Str)) (sl:Nat) (hd:Str):Dk:=
  let A:=runW K D ws
  if A.dead then A else
    let B:=wrF A K sl (zeros 64)
    if B.dead then B else
      let C:=flF B K
      if C.dead then C else
        let E:=wrF C K sl hd
        if E.dead then E else flF E K
theorem comF_case {D:Dk} (K:Fl) (ws:List (Nat × Str)) (sl:Nat) (hdr:Str) (hd:D.dead=false) (hca:D.ca=[]):
    (comF D K ws sl hdr).ca=[]∧D.ops≤(comF D K ws sl hdr).ops∧(comF D K ws sl hdr).ops≤D.ops+ws.length+4∧
    ((comF D K ws sl hdr).dead=true∧(comF D K ws sl hdr).armed=0∧((∃ m,(comF D K ws sl hdr).pl=dropL K 0 ((ws++[(sl,zeros 64)]).take m) D.pl)∨(comF D K ws sl hdr).pl=dropL K 0 [(sl,hdr)] (apD D.pl (ws++[(sl,zeros 64)])))∨
     (comF D K ws sl hdr).dead=false∧(comF D K ws sl hdr).pl=apD (apD D.pl (ws++[(sl,zeros 64)])) [(sl,hdr)]):=by
  unfold comF;rcases runW_case K ws D hd with ⟨h1,h2⟩ | ⟨h1,⟨m,hm,h2⟩,h3,h4,h5,h6⟩
  · have eA:(runW K D ws).dead=false:=by rw [h1];exact hd
    dsimp only;rw [eA,if_neg (by decide),h1,hca,List.nil_append];clear h1 eA;unfold wrF flF;by_cases g1:D.armed - ws.length=1
    · simp only [g1,if_pos,dropD,wrD];refine ⟨trivial,by omega,by omega,.inl ⟨trivial,trivial,.inl ⟨ws.length+1,?_⟩⟩⟩;rw [List.take_of_length_le (by simp)]
    · simp only [if_neg g1,wrD,hd,Bool.false_eq_true,if_false];by_cases g2:D.armed - ws.length - 1=1
      · simp only [g2,if_pos,dropD];refine ⟨trivial,by omega,by omega,.inl ⟨trivial,trivial,.inl ⟨ws.length+1,?_⟩⟩⟩;rw [List.take_of_length_le (by simp)]
      · simp only [if_neg g2,flD,hd,Bool.false_eq_true,if_false];by_cases g3:D.armed - ws.length - 1 - 1=1
        · simp only [g3,if_pos,dropD,List.nil_append];exact ⟨trivial,by omega,by omega,.inl ⟨trivial,trivial,.inr trivial⟩⟩
        · simp only [if_neg g3,hd,Bool.false_eq_true,if_false,List.nil_append];by_cases g4:D.armed - ws.length - 1 - 1 - 1=1
          · simp only [g4,if_pos,dropD];exact ⟨trivial,by omega,by omega,.inl ⟨trivial,trivial,.inr trivial⟩⟩
          · simp only [if_neg g4,hd];exact ⟨trivial,by omega,by omega,.inr ⟨trivial,trivial⟩⟩
  · dsimp only;rw [h1,if_pos rfl];refine ⟨h3,h5,by omega,.inl ⟨h1,h4,.inl ⟨m,?_⟩⟩⟩;rw [h2,hca,List.nil_append,List.take_append_of_le_length hm]
end Go.Gx
namespace Go.Gx
open Go.Proofs
theorem kdsf1_el92:elT Tryz.prog 92 64=true:=by kernel_rfl
theorem kdsf1_fo90_3:fieldOff Tryz.prog 90 3=some 5:=by kernel_rfl
theorem kdsf1_fo90_4:fieldOff Tryz.prog 90 4=some 6:=by kernel_rfl
theorem kdsf1_oc3:oneCellT Tryz.prog 3=true:=by kernel_rfl
theorem kdsf1_si90:structInfo Tryz.prog 90=some ([(0,1),(1,1),(2,3),(5,1),(6,1),(7,1)],[Value.slice none 0 0,Value.slice none 0 0,Value.slice none 0 0,Value.int .i64 0,Value.int .i64 0,Value.int .i64 0,Value.int .i64 0,Value.bool false]):=by kernel_rfl
theorem kdsf1_sz3:(Tryz.prog.info? 3).map (·.size)=some 1:=by kernel_rfl
theorem BlsAt.dg {ty:TypeId→Bool} {n0:Nat} {w w':World} {v:Value} {l:List Bool} (h:BlsAt (DkB ty n0 w) w v l) (g:Dg ty n0 w w'):BlsAt (DkB ty n0 w') w' v l:=
  h.move fun a v hA hv=>⟨g.cell hv hA,(g.same (World.block_lt_of_cell? w _ hv) hA).2⟩
theorem BlsAt.elem {A:Nat→Prop} {w:World} {p:Option Addr} {n cap:Nat} {l:List Bool} (h:BlsAt A w (.slice p n cap) l) {i:Nat} (hi:i<l.length):∃ b o,p=some ⟨b,o,none⟩∧¬ A b∧w.cell? ⟨b,o+i,none⟩=some (.bool (l.getD i false)):=by
  obtain ⟨p',cap',e,-,-,-,h4⟩:=h;cases e;obtain ⟨b,o,hp,hA,hc⟩:=h4 (by rintro rfl;simp at hi);exact ⟨b,o,hp,hA,hc i hi⟩
def nbTy (T:TypeId):Bool:=!(T == 4)
theorem nb_of_lg (T:TypeId) (h:lgTy T=true):nbTy T=true:=by
  unfold lgTy dkTy at h;simp only [Bool.or_eq_true,beq_iff_eq] at h;rcases h with ((h | h) | h) | h <;> subst h <;> kernel_rfl
def DiskF (n0:Nat) (w:World) (b:Nat) (D:Dk) (K:Fl):Prop:=
  n0≤b∧DkOk D∧∃ bp vc vk,n0≤bp∧Box w b 90 (dkV (.slice (some ⟨bp,0,none⟩) D.pl.length D.pl.length) vc vk K.torn K.cut D)∧BlsAt (DkB nbTy n0 w) w vk K.keep∧Box w bp 92 (plV D.pl)∧
    Own w n0 111 65 vc D.ca.length (D.ca.map waV).flatten
section
variable {n0 b:Nat} {w w':World} {D:Dk} {K:Fl}
theorem DiskF.at (h:DiskF n0 w b D K):DiskAt n0 w b D:=by
  obtain ⟨h1,h2,bp,vc,vk,h3,h4,h5,h6,h7⟩:=h;exact ⟨h1,h2,bp,vc,vk,_,_,h3,h4,h5.one,h6,h7⟩
theorem DiskF.bel (h:DiskF n0 w b D K) (g:Bel w w'):DiskF n0 w' b D K:=by
  obtain ⟨h1,h2,bp,vc,vk,h3,h4,h5,h6,h7⟩:=h;exact ⟨h1,h2,bp,vc,vk,h3,h4.carry g,h5.dg (Dg.of_bel g),h6.carry g,Own.carry h7 g⟩
theorem DiskF.carry (h:DiskF n0 w b D K) (g:Bel w w'):DiskF n0 w' b D K:=h.bel g
theorem DiskF.log {bl:Nat} {cs:List Value} (h:DiskF n0 w b D K) (hb:Box w bl 134 cs) (hn:n0≤bl) (g:Gr (fun k=>k=bl) w w'):DiskF n0 w' b D K:=by
  obtain ⟨h1,h2,bp,vc,vk,h3,h4,h5,h6,h7⟩:=h;refine ⟨h1,h2,bp,vc,vk,h3,h4.carryR g (box_ne h4 hb (by decide)),h5.dg (Gr.mono g (fun k _ e=>by have e:k=bl:=e;rw [e];exact DkB.box hb kr_ hn)),h6.carryR g (box_ne h6 hb (by decide)),Own.carryR h7 g fun j hj e=>?_⟩;have e:j=bl:=e;subst e;exact own_box_ne h7 hb (by decide) hj
end
def AllBl (n0:Nat) (w:World) (v:Value) (l:List Bool):Prop:=BlsAt (DkB nbTy n0 w) w v l
theorem AllBl.dg {n0:Nat} {w w':World} {v:Value} {l:List Bool} (h:AllBl n0 w v l) (g:Dg lgTy n0 w w'):AllBl n0 w' v l:=BlsAt.dg h (Dg.mono g nb_of_lg)
theorem AllBl.nb {n0:Nat} {w w':World} {v:Value} {l:List Bool} (h:AllBl n0 w v l) (g:Dg nbTy n0 w w'):AllBl n0 w' v l:=BlsAt.dg h g
theorem AllBl.carry {n0:Nat} {w w':World} {v:Value} {l:List Bool} (h:AllBl n0 w v l) (g:Bel w w'):AllBl n0 w' v l:=h.dg (Dg.of_bel g)
theorem AllBl.box {n0 b:Nat} {w w':World} {v:Value} {l:List Bool} {T:TypeId} {cs:List Value} (h:AllBl n0 w v l) (hb:Box w b T cs) (hT:lgTy T=true) (hn:n0≤b) (g:Gr (fun k=>k=b) w w'):AllBl n0 w' v l:=
  h.dg (Gr.mono g (fun k _ e=>by have e:k=b:=e;rw [e];exact DkB.box hb hT hn))
def K0:Fl:=⟨[],0,0⟩
theorem newdisk_f (n:Nat) (h:1≤n∧n≤4096) (w:World):Ret Tryz.prog 13 #[.int .i64 (n:Nat)] w fun v w'=>∃ b,v=.tuple #[.pointer (some ⟨b,0,none⟩),.int .i64 0]∧DiskF w.heap.size w' b (newD n) K0∧Bel w w':=by
  refine ret_of_W Tryz.func13 rfl (Nat.le_of_ble_eq_true rfl) (res2 rfl) ?_;have hB:=Gr.refl (fun _=>False) w;refine W.seq (W.region (L.val (x_as (v:=.pointer _) rfl) rfl ?_));refine L.val (x_as (v:=.int _ _) rfl) rfl ?_;refine L.nil (thn_n (W.seq (W.seq (W.region (L.val (x_mv (v:=.int _ _) rfl) rfl ?_)))));refine L.val (x_lss rfl rfl) rfl ?_;refine L.val (x_mv (v:=.bool _) rfl) rfl ?_;refine' L.group0 2 7 8 8 6 false rfl ?_ ?_ ?_;rotate_left 1
  ·intro g6;have h6:=dlt_f g6;refine L.gyes' (dj:=6) (b:=_) rfl rfl g6 ?_;refine L.val (x_mv (v:=.int _ _) rfl) rfl ?_;refine L.gyes' (dj:=6) (b:=_) rfl rfl g6 ?_;refine L.val (x_gtr rfl rfl) rfl ?_;refine L.nil (thn_n ⟨rfl,rfl,?_,rfl⟩);repeat (first | exact jeq.refl _ _ _ | refine jeq.upd rfl ?_ | refine jeq.jk rfl rfl ?_)
  ·intro g6;refine L.gno (dj:=6) (b:=_) rfl rfl g6 rfl ?_;refine L.gno (dj:=6) (b:=_) rfl rfl g6 rfl ?_;refine L.nil (thn_n ⟨rfl,rfl,?_⟩);repeat (first | exact jeq.refl _ _ _ | refine jeq.upd rfl ?_ | refine jeq.jk rfl rfl ?_)
  intro J6 j6;refine L.val (x_or rfl j6) rfl ?_;refine L.nil (thn_n (W.cond (b:=_) rfl (fun g9=>?_) (fun g9=>?_)))
  ·have h9:=g9;simp only [Bool.or_eq_true,decide_eq_true_eq] at g9;omega
  ·have h9:=g9;refine W.skip (thn_n (W.seq (W.region (L.val (x_mv (v:=.int _ _) rfl) rfl ?_))));refine L.mkZ (v:=.int .u8 0) (sz:=64) n Tryz.underlying87 kdsf1_el92 kr_ rfl om_ rfl (fun w11 bx11 hw hz11=>?_);have hB:=hB.carry hw;refine L.val (x_build (cells:=[.slice _ _ _,.slice _ _ _,.slice _ _ _,.int _ _,.int _ _,.int _ _,.int _ _,.bool _]) kdsf1_si90 rfl rfl) rfl ?_;refine L.box (cs:=dkV (.slice (some ⟨w.heap.size,0,none⟩) n n) (.slice none 0 0) (.slice none 0 0) 0 0 (newD n)) rfl rfl (fun w13 bx13 hw hz13=>?_);have hB:=hB.carry hw;have bx11:=bx11.carry hw;have hsz:=hB.size;refine L.val (x_as (v:=.pointer _) rfl) rfl ?_;refine L.val (x_as (v:=.int _ _) rfl) rfl ?_;refine L.nil (thn_n (W.ret (fin_mk (.inr rfl) ?_)));have e1:(newD n).pl.length=n:=by simp [newD]
   refine ⟨_,rfl,⟨by omega,newD_ok h,w.heap.size,.slice none 0 0,.slice none 0 0,Nat.le_refl _,by rw [e1];exact bx13,⟨none,0,rfl,Nat.le_refl _,by omega,by simp [K0],fun e=>absurd rfl e⟩,?_,own_nil⟩,hB⟩;show Box w13 w.heap.size _ (plV (List.replicate n (zeros 64)));rw [plV_new];exact bx11
theorem falls_f (b:Nat) (vp vc vk:Value) (tn ct:Int) (D:Dk) (w:World) (hb:Box w b 90 (dkV vp vc vk tn ct D)) (ho:D.ops≤1000000000) (ha:D.armed≤9223372036854775807):Ret Tryz.prog 53 #[.pointer (some ⟨b,0,none⟩)] w fun v w'=>v=.bool (decide (D.armed=1))∧Box w' b 90 (dkV vp vc vk tn ct { D with ops:=D.ops+1,armed:=D.armed - 1 })∧Gr (fun k=>k=b) w w':=by
  have e1:(((D.ops+1:Nat):Int))=(D.ops:Nat)+1:=by omega
  refine ret_of_W Tryz.func53 rfl (Nat.le_of_ble_eq_true rfl) (res1 rfl) ?_;refine W.seq (W.region (L.val (x_as (v:=.bool _) rfl) rfl ?_));refine L.nil (thn_n (W.seq (W.region (L.val (x_mv (v:=.pointer _) rfl) rfl ?_))));refine L.val (x_nil rfl) rfl ?_;refine L.val (x_fa kdsf1_fo90_4 rfl) rfl ?_;refine L.val (x_ld (v:=.int _ _) kdsf1_oc3 rfl (hb.cell0 rfl)) rfl ?_;refine L.val (x_add rfl rfl (wr64 om_)) rfl ?_;refine L.val (x_nil rfl) rfl ?_;refine L.val (x_fa kdsf1_fo90_4 rfl) rfl ?_;refine L.set (v:=.int _ _) kdsf1_sz3 rfl rfl rfl hb rfl (fun wl9 hb hw hzl9=>?_);have hG:=hw;refine L.nil (thn_n (W.seq (W.seq (W.region (L.val (x_mv (v:=.pointer _) rfl) rfl ?_)))));refine L.val (x_nil rfl) rfl ?_;refine L.val (x_fa kdsf1_fo90_3 rfl) rfl ?_;refine L.val (x_ld (v:=.int _ _) kdsf1_oc3 rfl (hb.cell0 rfl)) rfl ?_;refine L.val (x_eql rfl rfl) rfl ?_;refine L.nil (thn_n (W.cond (b:=_) rfl (fun g14=>?_) (fun g14=>?_)))
  ·have h14:=of_decide_eq_true g14;have ha0:D.armed=0:=by omega
   refine W.seq (W.region (L.val (x_as (v:=.bool _) rfl) rfl ?_));refine L.nil (thn_n (W.ret (thn_r (fin_mk (.inr rfl) ?_))));have e2:((D.armed - 1:Nat):Int)=(D.armed:Nat):=by omega
   refine ⟨?_,?_,hG⟩
   · show Value.bool false=_;rw [decide_eq_false om_]
   · unfold dkV;dsimp only;rw [e1,e2];exact hb
  ·have h14:=of_decide_eq_false g14;have e2:((D.armed - 1:Nat):Int)=(D.armed:Nat) - 1:=by omega
   refine W.skip (thn_n (W.seq (W.region (L.val (x_mv (v:=.pointer _) rfl) rfl ?_))));refine L.val (x_nil rfl) rfl ?_;refine L.val (x_fa kdsf1_fo90_3 rfl) rfl ?_;refine L.val (x_ld (v:=.int _ _) kdsf1_oc3 rfl (hb.cell0 rfl)) rfl ?_;refine L.val (x_sub rfl rfl (wr64 om_)) rfl ?_;refine L.val (x_nil rfl) rfl ?_;refine L.val (x_fa kdsf1_fo90_3 rfl) rfl ?_;refine L.set (v:=.int _ _) kdsf1_sz3 rfl rfl rfl hb rfl (fun wl23 hb hw hzl23=>?_);have hG:=hG.trans (hw.mono fun _ _ e=>e);refine L.nil (thn_n (W.seq (W.region (L.val (x_mv (v:=.pointer _) rfl) rfl ?_))));refine L.val (x_nil rfl) rfl ?_;refine L.val (x_fa kdsf1_fo90_3 rfl) rfl ?_;refine L.val (x_ld (v:=.int _ _) kdsf1_oc3 rfl (hb.cell0 rfl)) rfl ?_;refine L.val (x_eql rfl rfl) rfl ?_;refine L.val (x_as (v:=.bool _) rfl) rfl ?_;refine L.nil (thn_n (W.ret (fin_mk (.inr rfl) ?_)));refine ⟨?_,?_,hG⟩
   · show Value.bool (decide _)=_;congr 1;rw [decide_eq_decide];omega
   · unfold dkV;dsimp only;rw [e1,e2];exact hb
end Go.Gx
namespace Go.Gx
open Go.Proofs
theorem L.cpV {P:Program} {n:Nat} {Q:Post} {D:List Deferred} {E:Env} {w:World} {ops:Array Oper} {r:List Oper} {d:Nat} {x y:Operand} {dT sT e t T:TypeId} {p:String} {af:Array Edge} {b o dl dc b2 o2 sl sc:Nat} {vs cs:List Value} (hu:P.underlying dT=some (.slice e)) (hs:(P.info? e).map (·.size)=some 1)
    (hx:ev E x=.slice (some ⟨b,o,none⟩) dl dc) (hy:ev E y=.slice (some ⟨b2,o2,none⟩) sl sc) (hd:Nat.blt d n=true) (hb:Box w b T cs) (hl:vs.length=Nat.min sl dl) (hsrc:∀ j,j<vs.length→w.cell? ⟨b2,o2+j,none⟩=vs[j]?) (hfit:o+vs.length≤cs.length) (h1:∀ v∈vs,v.oneCell'=true)
    (kk:∀ w1,Box w1 b T (cs.take o++vs++cs.drop (o+vs.length))→Gr (· = b) w w1→w1.heap.size=w.heap.size→L P n ops Q r D (upd E d (.int .i64 (vs.length:Nat))) w1):
    L P n ops Q (⟨some d,.call ⟨.builtin .copy,#[x,y],#[dT,sT]⟩,t,p,af,none⟩ :: r) D E w:=by
  have hrun:=run_copy_row (P:=P) w dT sT t e b o dl dc ⟨b2,o2,none⟩ sl sc cs.toArray T vs hu hs hb hl (fun j v hv=>by
    have hj:=(List.getElem?_eq_some_iff.1 hv).1;rw [show (⟨b2,o2,none⟩:Addr).add j=⟨b2,o2+j,none⟩ by simp [Addr.add],hsrc j hj,hv]) (by simpa using hfit) h1
  rw [List.toList_toArray] at hrun;refine L.val (v:=.int .i64 (vs.length:Nat)) (w':=w.setRow b (cs.take o++vs++cs.drop (o+vs.length)).toArray) ?_ hd (kk _ (setRow_heap w b cs.toArray _ T (0,0) hb) ⟨rfl,rfl,rfl,by simp [World.setRow],fun k _ hk=>setRow_other w b k _ hk⟩ (by simp [World.setRow]));unfold X;have hg:goInt vs.length=Value.int .i64 (vs.length:Nat):=rfl;simp [execOp,resolve,invoke,builtin,hx,hy,hrun,Result.andThen,hg]
def ptk (K:Fl) (pl:List Str) (x:Nat × Str) (k:Nat):Str:=x.2.take (ndrop K k)++(pl.getD x.1 []).drop (ndrop K k)
theorem dropL_take (K:Fl):∀ (l:List (Nat × Str)) (k0 j:Nat) (pl:List Str),j<l.length→dropL K k0 (l.take (j+1)) pl=(dropL K k0 (l.take j) pl).set (l.getD j default).1 (ptk K (dropL K k0 (l.take j) pl) (l.getD j default) (k0+j))
  | [],_,_,_,h=>by simp at h
  | x :: l,k0,0,pl,_=>rfl
  | x :: l,k0,j+1,pl,h=>by
    have ih:=dropL_take K l (k0+1) j (pl.set x.1 (x.2.take (ndrop K k0)++(pl.getD x.1 []).drop (ndrop K k0))) (by simpa using h);rw [List.take_succ_cons,List.take_succ_cons,dropL,dropL,ih];rw [show k0+1+j=k0+(j+1) by omega];rfl
theorem dropL_sec {K:Fl}:∀ {l:List (Nat × Str)} {k:Nat} {pl:List Str},(∀ s∈pl,s.length=64)→(∀ x∈l,x.2.length=64∧x.1<pl.length)→∀ s∈dropL K k l pl,s.length=64
  | [],_,_,h,_=>h
  | x :: l,k,pl,h,hl=>by
    obtain ⟨h1,h2⟩:=hl x (by simp);refine dropL_sec (l:=l) (fun s hs=>?_) (fun y hy=>by rw [List.length_set];exact hl y (List.mem_cons_of_mem _ hy));rcases List.mem_or_eq_of_mem_set hs with hs | rfl
    · exact h s hs
    · have h3:(pl.getD x.1 []).length=64:=h _ (by rw [List.getD_eq_getElem?_getD,List.getElem?_eq_getElem h2];exact List.getElem_mem h2);have:=ndrop_le K k;rw [List.length_append,List.length_take,List.length_drop];omega
theorem plV_part {pl:List Str} {i n:Nat} {s:Str} (h:∀ s∈pl,s.length=64) (hi:i<pl.length) (hn:n≤64) (hs:s.length=64):
    (plV pl).take (0+i * 64)++(s.take n).map B8++(plV pl).drop (0+i * 64+(s.take n).length)=plV (pl.set i (s.take n++(pl.getD i []).drop n)):=by
  rw [← plV_set h hi,List.map_append,← List.append_assoc,List.append_assoc _ _ (List.drop (0+i * 64+64) (plV pl)),List.append_assoc,List.append_assoc];congr 2;have hm:(s.take n).length=n:=by rw [List.length_take];omega
  rw [hm];have h3:(pl.getD i []).length=64:=h _ (by rw [List.getD_eq_getElem?_getD,List.getElem?_eq_getElem hi];exact List.getElem_mem hi);have e:=plV_set (s:=pl.getD i []) h hi;have e2:pl.set i (pl.getD i [])=pl:=by
    rw [List.getD_eq_getElem?_getD,List.getElem?_eq_getElem hi];simp
  rw [e2] at e;have hL:=plV_len h;have e3:(plV pl).drop (0+i * 64)=(pl.getD i []).map B8++(plV pl).drop (0+i * 64+64):=by
    conv=>lhs;rw [← e]
    rw [List.append_assoc,List.drop_left' (by rw [List.length_take];have:=Nat.mul_le_mul_right 64 (Nat.le_of_lt hi);omega)]
  rw [← List.drop_drop,e3,List.drop_append_of_le_length (by rw [List.length_map];omega),List.map_drop]
end Go.Gx
namespace Go.Gx
open Go.Proofs
theorem kdsf3_ag111:aggT Tryz.prog 111 65=true:=by kernel_rfl
theorem kdsf3_ag50:aggT Tryz.prog 50 3=true:=by kernel_rfl
theorem kdsf3_fo111_0:fieldOff Tryz.prog 111 0=some 0:=by kernel_rfl
theorem kdsf3_fo111_1:fieldOff Tryz.prog 111 1=some 1:=by kernel_rfl
theorem kdsf3_fo50_0:fieldOff Tryz.prog 50 0=some 0:=by kernel_rfl
theorem kdsf3_fo50_1:fieldOff Tryz.prog 50 1=some 1:=by kernel_rfl
theorem kdsf3_fo50_2:fieldOff Tryz.prog 50 2=some 2:=by kernel_rfl
theorem kdsf3_fo90_0:fieldOff Tryz.prog 90 0=some 0:=by kernel_rfl
theorem kdsf3_fo90_1:fieldOff Tryz.prog 90 1=some 1:=by kernel_rfl
theorem kdsf3_fo90_2:fieldOff Tryz.prog 90 2=some 2:=by kernel_rfl
theorem kdsf3_fo90_3:fieldOff Tryz.prog 90 3=some 5:=by kernel_rfl
theorem kdsf3_fo90_5:fieldOff Tryz.prog 90 5=some 7:=by kernel_rfl
theorem kdsf3_mixed:Tryz.prog.follows .mixedOrders=true:=by kernel_rfl
theorem kdsf3_oc3:oneCellT Tryz.prog 3=true:=by kernel_rfl
theorem kdsf3_oc4:oneCellT Tryz.prog 4=true:=by kernel_rfl
theorem kdsf3_oc48:oneCellT Tryz.prog 48=true:=by kernel_rfl
theorem kdsf3_oc87:oneCellT Tryz.prog 87=true:=by kernel_rfl
theorem kdsf3_oc88:oneCellT Tryz.prog 88=true:=by kernel_rfl
theorem kdsf3_si50:structInfo Tryz.prog 50=some ([(0,1),(1,1),(2,1)],[Value.slice none 0 0,Value.int .i64 0,Value.int .i64 0]):=by kernel_rfl
theorem kdsf3_sz111:(Tryz.prog.info? 111).map (·.size)=some 65:=by kernel_rfl
theorem kdsf3_sz3:(Tryz.prog.info? 3).map (·.size)=some 1:=by kernel_rfl
theorem kdsf3_sz4:(Tryz.prog.info? 4).map (·.size)=some 1:=by kernel_rfl
theorem kdsf3_sz5:(Tryz.prog.info? 5).map (·.size)=some 1:=by kernel_rfl
theorem kdsf3_sz88:(Tryz.prog.info? 88).map (·.size)=some 1:=by kernel_rfl
theorem kdsf3_sz92:(Tryz.prog.info? 92).map (·.size)=some 64:=by kernel_rfl
theorem kdsf3_zr111:(Tryz.prog.info? 111).bind (·.zero)=some (Value.agg [Value.int .i64 0,Value.int .u8 0,Value.int .u8 0,Value.int .u8 0,Value.int .u8 0,Value.int .u8 0,Value.int .u8 0,Value.int .u8 0,Value.int .u8 0,Value.int .u8 0,Value.int .u8 0,Value.int .u8 0,Value.int .u8 0,Value.int .u8 0,Value.int .u8 0,Value.int .u8 0,Value.int .u8 0,Value.int .u8 0,Value.int .u8 0,Value.int .u8 0,Value.int .u8 0,Value.int .u8 0,Value.int .u8 0,Value.int .u8 0,Value.int .u8 0,Value.int .u8 0,Value.int .u8 0,Value.int .u8 0,Value.int .u8 0,Value.int .u8 0,Value.int .u8 0,Value.int .u8 0,Value.int .u8 0,Value.int .u8 0,Value.int .u8 0,Value.int .u8 0,Value.int .u8 0,Value.int .u8 0,Value.int .u8 0,Value.int .u8 0,Value.int .u8 0,Value.int .u8 0,Value.int .u8 0,Value.int .u8 0,Value.int .u8 0,Value.int .u8 0,Value.int .u8 0,Value.int .u8 0,Value.int .u8 0,Value.int .u8 0,Value.int .u8 0,Value.int .u8 0,Value.int .u8 0,Value.int .u8 0,Value.int .u8 0,Value.int .u8 0,Value.int .u8 0,Value.int .u8 0,Value.int .u8 0,Value.int .u8 0,Value.int .u8 0,Value.int .u8 0,Value.int .u8 0,Value.int .u8 0,Value.int .u8 0].toArray):=by kernel_rfl
theorem drop_f (n0 b bp:Nat) (vc vk vk0:Value) (tn ct:Int) (D:Dk) (K:Fl) (w:World) (h1:n0≤b) (h3:n0≤bp) (h2:DkOk D) (hb:Box w b 90 (dkV (.slice (some ⟨bp,0,none⟩) D.pl.length D.pl.length) vc vk0 tn ct D)) (hk:BlsAt (DkB nbTy n0 w) w vk K.keep)
    (hp:Box w bp 92 (plV D.pl)) (hc:Own w n0 111 65 vc D.ca.length (D.ca.map waV).flatten):
    Ret Tryz.prog 54 #[.pointer (some ⟨b,0,none⟩),.agg #[vk,.int .i64 K.torn,.int .i64 K.cut]] w fun _ w'=>Box w' b 90 (dkV (.slice (some ⟨bp,0,none⟩) D.pl.length D.pl.length) (.slice none 0 0) (.slice none 0 0) 0 0 (dropD D K))∧Box w' bp 92 (plV (dropL K 0 D.ca D.pl))∧Dg dkTy n0 w w':=by
  obtain ⟨ac,cc,rfl,hcc⟩:=own_shape hc;obtain ⟨pk,ck,rfl,-,-,hkl,-⟩:=id hk;have hbpne:bp≠b:=box_ne hp hb (by decide);have hqc:∀ j,some j=(Value.slice ac D.ca.length cc).ownBlock→j≠b∧j≠bp:=fun j hj=>⟨fun e=>own_box_ne hc hb (by decide) (e ▸ hj),fun e=>own_box_ne hc hp (by decide) (e ▸ hj)⟩
  have hca:∀ x∈D.ca,x.2.length=64:=fun x hx=>(h2.cac x hx).2
  have hfew:=h2.few;refine ret_of_W Tryz.func54 rfl (Nat.le_of_ble_eq_true rfl) (res0 rfl) ?_;have hG:=Dg.refl dkTy n0 w;have hk:AllBl n0 w _ K.keep:=hk;refine W.seq (W.region (L.box (cs:=[.slice pk K.keep.length ck,.int .i64 K.torn,.int .i64 K.cut]) rfl rfl (fun w3 bx3 hw hz3=>?_)));have hG:=hG.carry hw;have hb:=hb.carry hw;have hp:=hp.carry hw;have hc:=hc.carry hw;have hk:=hk.carry hw;refine L.nil (thn_n (W.seq (W.seq (W.region (L.val (x_mv (v:=.pointer _) rfl) rfl ?_)))));refine L.val (x_nil rfl) rfl ?_;refine L.val (x_fa kdsf3_fo90_1 rfl) rfl ?_;refine L.val (x_ld (v:=.slice _ _ _) kdsf3_oc88 rfl (hb.cell0 rfl)) rfl ?_;refine L.val (x_len_slice Tryz.underlying88 rfl) rfl ?_;refine L.val (x_mv (v:=.int _ _) rfl) rfl ?_;refine L.nil (thn_n (W.block (W.loop (fun m' E w'=>∃ (j:Nat),m'=D.ca.length - j∧E 0=.pointer (some ⟨b,0,none⟩)∧E 3=.pointer (some ⟨w.heap.size,0,none⟩)∧E 10=.slice ac D.ca.length cc∧E 11=.int .i64 (D.ca.length:Nat)∧E 12=.int .i64 (j:Nat)∧(j≤D.ca.length)∧(Dg dkTy n0 w w')∧(Box w' b 90 (dkV (.slice (some ⟨bp,0,none⟩) D.pl.length D.pl.length) (.slice ac D.ca.length cc) vk0 tn ct D))∧(Box w' bp 92 (plV (dropL K 0 (D.ca.take j) D.pl)))∧(Own w' n0 111 65 (.slice ac D.ca.length cc) D.ca.length (D.ca.map waV).flatten)∧(AllBl n0 w' (.slice pk K.keep.length ck) K.keep)∧(Box w' w.heap.size 50 [.slice pk K.keep.length ck,.int .i64 K.torn,.int .i64 K.cut])) (D.ca.length) ?_ ?_)))
  ·exact ⟨0,by omega,by first | rfl | exact vi om_ | exact vs (by first | assumption | (rw [hst];done) | (rw [hst];simp only [List.append_assoc])),by first | rfl | exact vi om_ | exact vs (by first | assumption | (rw [hst];done) | (rw [hst];simp only [List.append_assoc])),by first | rfl | exact vi om_ | exact vs (by first | assumption | (rw [hst];done) | (rw [hst];simp only [List.append_assoc])),by first | rfl | exact vi om_ | exact vs (by first | assumption | (rw [hst];done) | (rw [hst];simp only [List.append_assoc])),by first | rfl | exact vi om_ | exact vs (by first | assumption | (rw [hst];done) | (rw [hst];simp only [List.append_assoc])),ao_,ao_,ao_,ao_,ao_,ao_,ao_⟩
  ·rintro _ E wL13 ⟨j,em,e0,e3,e10,e11,e12,hj,hG,hb,hp,hc,hk,bx3⟩;rw [upd_self e0,upd_self e3,upd_self e10,upd_self e11,upd_self e12];refine W.seq (W.region (L.val (x_lss rfl rfl) rfl ?_));refine L.nil (thn_n (W.seq (W.cond (b:=_) rfl (fun g13=>?_) (fun g13=>?_))))
   ·have h13:=of_decide_eq_true g13;have hlt:j<D.ca.length:=by omega
    obtain ⟨bc,rfl⟩:=own_pos hc om_;have hrow:=own_rowK hc (ca_lens hca) (i:=j) (by rw [List.length_map];exact hlt);rw [ca_get hlt] at hrow;obtain ⟨x,hx⟩:∃ x,x=D.ca.getD j default:=⟨_,rfl⟩;rw [← hx] at hrow;have hxm:x∈D.ca:=by rw [hx,List.getD_eq_getElem?_getD,List.getElem?_eq_getElem hlt];exact List.getElem_mem hlt
    obtain ⟨hx1,hx2⟩:=h2.cac x hxm;have hwl:(waV x).length=65:=waV_len hx2;have hst:=dropL_take K D.ca 0 j D.pl hlt;rw [← hx,Nat.zero_add] at hst;have hsec:∀ s∈dropL K 0 (D.ca.take j) D.pl,s.length=64:=dropL_sec h2.sec (fun y hy=>⟨hca y (List.mem_of_mem_take hy),(h2.cac y (List.mem_of_mem_take hy)).1⟩);have hapl:=dropL_len K (D.ca.take j) 0 D.pl;have hbl:=hb.lt;have hbpl:=hp.lt;have hb3l:=bx3.lt;have hB:=Gr.refl (fun _=>False) wL13;have hne3:bp≠w.heap.size:=box_ne hp bx3 (by decide);have hnd:=ndrop_le K j;refine W.skip (thn_n (W.seq (W.block (W.seq (W.region (L.val (x_mv (v:=.int _ _) rfl) rfl ?_))))));have hc0:=hc;refine L.val (x_ia (j:=j) Tryz.underlying88 kdsf3_sz111 rfl rfl om_ om_) rfl ?_;refine L.val (x_ldn (vs:=waV x) kdsf3_ag111 rfl hwl hrow) rfl ?_;refine L.alloc (cs:=[Value.int .i64 0,Value.int .u8 0,Value.int .u8 0,Value.int .u8 0,Value.int .u8 0,Value.int .u8 0,Value.int .u8 0,Value.int .u8 0,Value.int .u8 0,Value.int .u8 0,Value.int .u8 0,Value.int .u8 0,Value.int .u8 0,Value.int .u8 0,Value.int .u8 0,Value.int .u8 0,Value.int .u8 0,Value.int .u8 0,Value.int .u8 0,Value.int .u8 0,Value.int .u8 0,Value.int .u8 0,Value.int .u8 0,Value.int .u8 0,Value.int .u8 0,Value.int .u8 0,Value.int .u8 0,Value.int .u8 0,Value.int .u8 0,Value.int .u8 0,Value.int .u8 0,Value.int .u8 0,Value.int .u8 0,Value.int .u8 0,Value.int .u8 0,Value.int .u8 0,Value.int .u8 0,Value.int .u8 0,Value.int .u8 0,Value.int .u8 0,Value.int .u8 0,Value.int .u8 0,Value.int .u8 0,Value.int .u8 0,Value.int .u8 0,Value.int .u8 0,Value.int .u8 0,Value.int .u8 0,Value.int .u8 0,Value.int .u8 0,Value.int .u8 0,Value.int .u8 0,Value.int .u8 0,Value.int .u8 0,Value.int .u8 0,Value.int .u8 0,Value.int .u8 0,Value.int .u8 0,Value.int .u8 0,Value.int .u8 0,Value.int .u8 0,Value.int .u8 0,Value.int .u8 0,Value.int .u8 0,Value.int .u8 0]) kdsf3_zr111 rfl rfl (fun w5 bx5 hw hz5=>?_);have hB:=hB.carry hw;have hb:=hb.carry hw;have hp:=hp.carry hw;have hc:=hc.carry hw;have hk:=hk.carry hw;have bx3:=bx3.carry hw;have bx5o:=bx5;refine L.val (x_as (v:=.int _ _) rfl) rfl ?_;refine L.setRow kdsf3_ag111 rfl rfl bx5 rfl hwl (waV_one x) (fun wl14 bx5 hw hzl14=>?_);have hsz:=hB.size;have hB:=hB.set hw om_;have hb:=hb.carryR hw om_;have hp:=hp.carryR hw (by first | exact fun e=>hbpne e | omega);have hc:=Own.carryR hc hw (fun i hi e=>by have e:i=_:=e;have:=(Own.lt hc0 hi).2;omega);have hk:=hk.box bx5o kr_ om_ hw;have bx3:=bx3.carryR hw om_;have hB14:=hB;refine L.nil (thn_n (W.seq (W.region (L.val (x_as (v:=.int _ _) rfl) rfl ?_))));refine L.nil (thn_n (W.cut (fun D' E' w'=>D'=[]∧E' 0=.pointer (some ⟨b,0,none⟩)∧E' 3=.pointer (some ⟨w.heap.size,0,none⟩)∧E' 5=.pointer (some ⟨wL13.heap.size,0,none⟩)∧E' 6=.int .i64 (ndrop K j:Nat)∧E' 10=.slice (some ⟨bc,0,none⟩) D.ca.length cc∧E' 11=.int .i64 (D.ca.length:Nat)∧E' 12=.int .i64 (j:Nat)∧w'=wl14) ?_ ?_))
    ·refine W.block (W.seq (W.region (L.val (x_mv (v:=.int _ _) rfl) rfl ?_)));refine L.val (x_add rfl rfl (wr64 om_)) rfl ?_;refine L.val (x_fa kdsf3_fo50_1 rfl) rfl ?_;refine L.val (x_ld (v:=.int _ _) kdsf3_oc3 rfl (bx3.cell0 rfl)) rfl ?_;refine L.val (x_eql rfl rfl) rfl ?_;refine L.val (x_as (v:=.bool _) rfl) rfl ?_;refine L.nil (thn_n (W.cond (b:=_) rfl (fun g22=>?_) (fun g22=>?_)))
     ·have h22:=of_decide_eq_true g22;have e6:min (max K.cut 0) 64=((ndrop K j:Nat):Int):=by unfold ndrop;rw [if_pos om_];omega
      refine W.region (L.val (x_fa kdsf3_fo50_2 rfl) rfl ?_);refine L.val (x_ld (v:=.int _ _) kdsf3_oc3 rfl (bx3.cell0 rfl)) rfl ?_;refine L.val (x_max rfl rfl) rfl ?_;refine L.val (x_min rfl rfl) rfl ?_;refine L.val (x_as (v:=.int _ _) rfl) rfl ?_;refine L.nil (blk_n (thn_n ?_));exact ⟨rfl,rfl,rfl,rfl,congrArg (Value.int .i64) e6,rfl,rfl,rfl,rfl⟩
     ·have h22:=of_decide_eq_false g22;have hnt:¬ ((j:Nat):Int)+1=K.torn:=by omega
      refine W.seq (W.region (L.val (x_mv (v:=.int _ _) rfl) rfl ?_));refine L.val (x_fa kdsf3_fo50_0 rfl) rfl ?_;refine L.val (x_ld (v:=.slice _ _ _) kdsf3_oc48 rfl (bx3.cell0 rfl)) rfl ?_;refine L.val (x_len_slice Tryz.underlying48 rfl) rfl ?_;refine L.val (x_lss rfl rfl) rfl ?_;refine L.val (x_mv (v:=.bool _) rfl) rfl ?_;refine L.splitat (dj:=33) (b:=_) rfl (fun g33=>?_) (fun g33=>?_)
      ·have h33:=of_decide_eq_true g33;have hjk:j<K.keep.length:=by omega
       obtain ⟨bk,ok,rfl,-,hck⟩:=BlsAt.elem hk hjk;refine L.gyes' (dj:=33) (b:=_) rfl rfl g33 ?_;refine L.val (x_fa kdsf3_fo50_0 rfl) rfl ?_;refine L.gyes' (dj:=33) (b:=_) rfl rfl g33 ?_;refine L.val (x_ld (v:=.slice _ _ _) kdsf3_oc48 rfl (bx3.cell0 rfl)) rfl ?_;refine L.gyes' (dj:=33) (b:=_) rfl rfl g33 ?_;refine L.val (x_mv (v:=.int _ _) rfl) rfl ?_;refine L.gyes' (dj:=33) (b:=_) rfl rfl g33 ?_;refine L.val (x_ia1 (j:=j) Tryz.underlying48 kdsf3_sz4 rfl rfl om_ om_) rfl ?_;refine L.gyes' (dj:=33) (b:=_) rfl rfl g33 ?_;refine L.val (x_ld (v:=.bool _) kdsf3_oc4 rfl hck) rfl ?_;refine L.val (x_pick_t (v:=.bool _) (congrArg Value.bool g33) rfl) rfl ?_;refine L.val (x_as (v:=.bool _) rfl) rfl ?_;refine L.nil (thn_n (W.cond (b:=_) rfl (fun g38=>?_) (fun g38=>?_)))
       ·have h38:=g38;have e6:(64:Int)=((ndrop K j:Nat):Int):=by unfold ndrop;rw [if_neg hnt,g38];rfl
        refine W.region (L.val (x_as (v:=.int _ _) rfl) rfl ?_);refine L.nil (blk_n (thn_n ?_));exact ⟨rfl,rfl,rfl,rfl,congrArg (Value.int .i64) e6,rfl,rfl,rfl,rfl⟩
       ·have h38:=g38;have e6:(0:Int)=((ndrop K j:Nat):Int):=by unfold ndrop;rw [if_neg hnt,g38];rfl
        refine W.skip (blk_n (thn_n ?_));exact ⟨rfl,rfl,rfl,rfl,congrArg (Value.int .i64) e6,rfl,rfl,rfl,rfl⟩
      ·have h33:=dlt_f g33;have e6:(0:Int)=((ndrop K j:Nat):Int):=by
         unfold ndrop;rw [if_neg hnt,List.getD_eq_getElem?_getD,List.getElem?_eq_none om_];rfl
       (iterate 5 refine L.gno (dj:=33) (b:=_) rfl rfl g33 rfl ?_);refine L.val (x_pick_f (v:=.bool _) (congrArg Value.bool g33) rfl) rfl ?_;refine L.val (x_as (v:=.bool _) rfl) rfl ?_;refine L.nil (thn_n (W.cond (b:=false) rfl (fun h=>nomatch h) (fun _=>?_)));refine W.skip (blk_n (thn_n ?_));exact ⟨rfl,rfl,rfl,rfl,congrArg (Value.int .i64) e6,rfl,rfl,rfl,rfl⟩
    ·rintro D' E w40 ⟨rfl,e0,e3,e5,e6,e10,e11,e12,rfl⟩;rw [upd_self e0,upd_self e3,upd_self e5,upd_self e6,upd_self e10,upd_self e11,upd_self e12];refine W.drawD (fun i=>i=bp∨i=bp) (fun _=>False) 11 kdsf3_mixed (fun wD40 hw=>?_);have hb:=hb.carry hw;have bx5:=bx5.carry hw;have hc:=hc.carry hw;have hB:=hB.carry hw;have hk:=hk.carry hw;have bx3:=bx3.carry hw;have hB0:=Gr.refl (fun _=>False) wD40;have hR0:=Gr.refl (fun i=>i=bp∨i=bp) wD40;have hD:=hw;refine LAD.take0 (i:=0) rfl kr_ kr_ kr_ kr_ (fun w hw=>x_mv (v:=.pointer _) rfl) rfl ?_;refine LAD.take0 (i:=1) rfl kr_ kr_ kr_ kr_ (fun w hw=>x_nil rfl) rfl ?_;refine LAD.take0 (i:=2) rfl kr_ kr_ kr_ kr_ (fun w hw=>x_fa kdsf3_fo90_0 rfl) rfl ?_;refine LAD.take0 (i:=3) rfl kr_ kr_ kr_ kr_ (fun w hw=>x_ld (v:=.slice _ _ _) kdsf3_oc87 rfl (hw.keepR (fun e=>by have e:(_:Nat)=_:=e.elim id id;(try dsimp only at e);omega) (hb.cell0 rfl))) rfl ?_;refine LAD.take0 (i:=4) rfl kr_ kr_ kr_ kr_ (fun w hw=>x_fa kdsf3_fo111_0 rfl) rfl ?_;refine LAD.take0 (i:=5) rfl kr_ kr_ kr_ kr_ (fun w hw=>x_ld (v:=.int _ _) kdsf3_oc3 rfl (hw.keepR (fun e=>by have e:(_:Nat)=_:=e.elim id id;(try dsimp only at e);omega) (bx5.cell0 rfl))) rfl ?_;refine LAD.take0 (i:=6) rfl kr_ kr_ kr_ kr_ (fun w hw=>x_ia (j:=x.1) Tryz.underlying87 kdsf3_sz92 rfl rfl om_ om_) rfl ?_;refine LAD.take0 (i:=7) rfl kr_ kr_ kr_ kr_ (fun w hw=>x_slArr Tryz.underlying92 kdsf3_sz5 rfl rfl) rfl ?_;refine LAD.take0 (i:=8) rfl kr_ kr_ kr_ kr_ (fun w hw=>x_fa kdsf3_fo111_1 rfl) rfl ?_;refine LAD.take0 (i:=9) rfl kr_ kr_ kr_ kr_ (fun w hw=>x_mv (v:=.int _ _) rfl) rfl ?_;refine LAD.take0 (i:=10) rfl kr_ kr_ kr_ kr_ (fun w hw=>x_slArrN (j:=ndrop K j) Tryz.underlying92 kdsf3_sz5 rfl rfl rfl hnd) rfl ?_;refine LAD.step (rs:=[11]) hR0 (fun _=>hB0) kr_ (by simp) ⟨⟨_,rfl,?_⟩,trivial⟩;refine L.cpV (vs:=(x.2.take (ndrop K j)).map B8) Tryz.underlying59 kdsf3_sz5 rfl rfl rfl (hp.carry hD) (by rw [List.length_map,List.length_take,hx2]) (fun m hm=>?_) (by rw [plV_len hsec,hapl,List.length_map,List.length_take];omega) (B8_one _) (fun w51 hpN hw hz51=>?_)
     · rw [List.length_map,List.length_take,hx2] at hm;have hs:=bx5.rowD 1 (k:=64) (by simp [waV,hx2]) m om_;rw [List.map_take,List.getElem?_take,if_pos om_];exact hs
     rw [List.length_map,plV_part hsec om_ hnd hx2] at hpN;have hR0:=hR0.into hw (.inr rfl);refine L.nil (thn_n (LAD.done kr_ kr_ hR0 ?_));have hb:=hb.carryR hR0 (fun e=>hbpne (e.elim id id).symm);have bx5:=trivial;have hc:=Own.carryR hc hR0 (fun i hi e=>(hqc i hi).2 (e.elim id id));have hB:=trivial;have hk:=hk.box (hp.carry hD) kr_ h3 (hR0.mono (fun _ _ e=>e.elim id id));have bx3:=bx3.carryR hR0 (fun e=>hne3 (e.elim id id).symm);have hp2:Box w51 bp 92 (plV (dropL K 0 (D.ca.take (j+1)) D.pl)):=by rw [hst];exact hpN
     have hall:Gr (fun i=>i=bp∨i=bp) w40 w51:=((Gr.refl _ _).carry hD).trans hR0;have hG2:Dg dkTy n0 w w51:=(hG.trans (Dg.of_bel hB14)).trans (hall.mono fun k _ e=>by rw [e.elim id id];exact DkB.box hp kr_ h3);refine blk_n (thn_n (W.region (L.val (x_add rfl rfl (wr64 om_)) rfl ?_)));refine L.val (x_mv (v:=.int _ _) rfl) rfl ?_;refine L.nil (thn_n ⟨rfl,?_⟩);refine ⟨_,?_,j+1,rfl,by first | rfl | exact vi om_ | exact vs (by first | assumption | (rw [hst];done) | (rw [hst];simp only [List.append_assoc])),by first | rfl | exact vi om_ | exact vs (by first | assumption | (rw [hst];done) | (rw [hst];simp only [List.append_assoc])),by first | rfl | exact vi om_ | exact vs (by first | assumption | (rw [hst];done) | (rw [hst];simp only [List.append_assoc])),by first | rfl | exact vi om_ | exact vs (by first | assumption | (rw [hst];done) | (rw [hst];simp only [List.append_assoc])),by first | rfl | exact vi om_ | exact vs (by first | assumption | (rw [hst];done) | (rw [hst];simp only [List.append_assoc])),ao_,(by exact hG2),ao_,(by exact hp2),ao_,ao_,ao_⟩;omega
   ·have h13:=dlt_f g13;have hjn:j=D.ca.length:=by omega
    subst hjn;rw [List.take_length] at hp;have hb13:=hb;have hGc:=Gr.refl (fun k=>k=b) wL13;refine W.exit (thn_x (thn_x (blk_hit ?_)));refine thn_n (W.region ?_);(iterate 4 refine L.val (x_mv (v:=.pointer _) rfl) rfl ?_);refine L.val (x_build (cells:=[.slice _ _ _,.int _ _,.int _ _]) kdsf3_si50 rfl rfl) rfl ?_;refine L.val (x_nil rfl) rfl ?_;refine L.val (x_fa kdsf3_fo90_1 rfl) rfl ?_;refine L.set (v:=.slice _ _ _) kdsf3_sz88 rfl rfl rfl hb rfl (fun wl62 hb hw hzl62=>?_);have hp:=hp.carryR hw (by first | exact fun e=>hbpne e | omega);have hGc:=hGc.trans hw;refine L.val (x_nil rfl) rfl ?_;refine L.val (x_fa kdsf3_fo90_3 rfl) rfl ?_;refine L.set (v:=.int _ _) kdsf3_sz3 rfl rfl rfl hb rfl (fun wl65 hb hw hzl65=>?_);have hp:=hp.carryR hw (by first | exact fun e=>hbpne e | omega);have hGc:=hGc.trans hw;refine L.val (x_nil rfl) rfl ?_;refine L.val (x_fa kdsf3_fo90_2 rfl) rfl ?_;refine L.setPart (o:=2) (k:=3) (new:=[.slice none 0 0,.int .i64 0,.int .i64 0]) kdsf3_ag50 rfl rfl hb (by show 2+3≤8;omega) rfl (by simp [Value.oneCell']) (fun wl68 hb hw hzl68=>?_);have hp:=hp.carryR hw (fun e=>hbpne e);have hGc:=hGc.trans hw;refine L.val (x_nil rfl) rfl ?_;refine L.val (x_fa kdsf3_fo90_5 rfl) rfl ?_;refine L.set (v:=.bool _) kdsf3_sz4 rfl rfl rfl hb rfl (fun wl71 hb hw hzl71=>?_);have hp:=hp.carryR hw (by first | exact fun e=>hbpne e | omega);have hGc:=hGc.trans hw;refine L.nil (fin_mk (.inl rfl) ?_);refine ⟨hb,hp,hG.trans (hGc.mono fun k _ e=>?_)⟩;have e:k=b:=e;rw [e];exact DkB.box hb13 kr_ h1
end Go.Gx
