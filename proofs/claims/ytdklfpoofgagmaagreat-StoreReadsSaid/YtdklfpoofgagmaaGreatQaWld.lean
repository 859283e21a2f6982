/- The program's disk: loaded from its image. Conditions: none. -/
import Derived.Test.YtdklfpoofgagmaaGreatQaWsb
import Derived.Test.YtdklfpoofgagmaaGreatQaRf15
import Derived.Test.YtdklfpoofgagmaaGreatQaStoE
import Derived.Test.YtdklfpoofgagmaaGreatQaRowG
import Derived.Test.YtdklfpoofgagmaaGreatQaWal8
import Derived.Test.YtdklfpoofgagmaaGreatQaWal14
namespace Go.Lib
open Go.RowKit
theorem run_copy_row_long {P:Program} (w:World) (dT sT ty elem:TypeId) (g o dLen dCap:Nat) (s:ByteArray) (cur:Array Value) (t:TypeId)
    (hu:P.underlying dT=some (.slice elem)) (hs:(P.info? elem).map (·.size)=some 1) (hg:w.heap[g]? = some (.cells cur t (0,0))) (hle:dLen≤s.size) (hfit:o+dLen≤cur.size):
    (Builtin.copy_ #[dT,sT] ty #[.slice (some ⟨g,o,none⟩) dLen dCap,.string s]).run P w=
      .ok (goInt dLen) (w.setRow g (cur.toList.take o++byteCells (s.data.toList.take dLen)++cur.toList.drop (o+dLen)).toArray):=by
  have hlen:(byteCells (s.data.toList.take dLen)).length=dLen:=by rw [byteCells_length,List.length_take,← size_eq];omega
  have hst:=run_storeCells_at P g o t (byteCells (s.data.toList.take dLen)) 0 cur w hg (by rw [hlen];simpa using hfit) (byteCells_one _);have hmin:Nat.min s.size dLen=dLen:=Nat.min_eq_right hle;have htk:List.take dLen (List.map (fun b:UInt8=>Value.int IntKind.u8 (b.toNat:Int)) s.data.toList)=byteCells (s.data.toList.take dLen):=by
    rw [← List.map_take];rfl
  rw [hlen] at hst;simp only [Nat.add_zero] at hst;cases hq:P.info? elem with
  | none=>simp [hq] at hs
  | some i=>
    simp [Builtin.copy_,run_underlying hu,Builtin.lenOf,Builtin.firstCells,sizeOf,typeInfo,hq,hmin];rw [htk,hst];simp [Result.andThen]
end Go.Lib
namespace Go.Gx
open Go.Proofs Go.Sort
theorem kwld_en13:Go.Proofs.Enters Tryz.prog 13:=Go.Proofs.enters_of Tryz.func13 kr_ rfl
theorem kwld_fo90_0:fieldOff Tryz.prog 90 0=some 0:=by kernel_rfl
theorem kwld_mixed:Tryz.prog.follows .mixedOrders=true:=by kernel_rfl
theorem kwld_oc87:oneCellT Tryz.prog 87=true:=by kernel_rfl
theorem kwld_sz5:(Tryz.prog.info? 5).map (·.size)=some 1:=by kernel_rfl
theorem kwld_sz92:(Tryz.prog.info? 92).map (·.size)=some 64:=by kernel_rfl
section
variable {P:Program} {n:Nat} {Q:Post} {D:List Deferred} {E:Env} {w:World}
theorem L.cpL {ops:Array Oper} {r:List Oper} {d:Nat} {x y:Operand} {dT sT e t T:TypeId} {p:String} {af:Array Edge} {b o dl dc:Nat} {l:Str} {cs:List Value} (hu:P.underlying dT=some (.slice e)) (hs:(P.info? e).map (·.size)=some 1)
    (hx:ev E x=.slice (some ⟨b,o,none⟩) dl dc) (hy:ev E y=S l) (hd:Nat.blt d n=true) (hb:Box w b T cs) (hle:dl≤l.length) (hfit:o+dl≤cs.length)
    (kk:∀ w1,Box w1 b T (cs.take o++(l.take dl).map B8++cs.drop (o+dl))→Gr (· = b) w w1→w1.heap.size=w.heap.size→L P n ops Q r D (upd E d (.int .i64 (dl:Nat))) w1):
    L P n ops Q (⟨some d,.call ⟨.builtin .copy,#[x,y],#[dT,sT]⟩,t,p,af,none⟩ :: r) D E w:=by
  have hrun:=Lib.run_copy_row_long (P:=P) w dT sT t e b o dl dc ⟨l.toArray⟩ cs.toArray T hu hs hb hle (by show o+dl≤cs.toArray.size;simpa using hfit);refine L.val (v:=.int .i64 (dl:Nat)) (w':=w.setRow b (cs.take o++(l.take dl).map B8++cs.drop (o+dl)).toArray) ?_ hd (kk _ (setRow_heap w b cs.toArray _ T (0,0) hb) ⟨rfl,rfl,rfl,by simp [World.setRow],fun k _ hk=>setRow_other w b k _ hk⟩ (by simp [World.setRow]));unfold X;simp only [S] at hy;have hg:goInt dl=Value.int .i64 (dl:Nat):=rfl;simp [execOp,resolve,invoke,builtin,hx,hy,hrun,Lib.byteCells,Result.andThen,hg];rfl
end
def ldP (pl:List Str) (k:Nat):List Str:=pl.take k++List.replicate (pl.length - k) (zeros 64)
theorem ldP_len {pl:List Str} {k:Nat} (h:k≤pl.length):(ldP pl k).length=pl.length:=by unfold ldP;rw [List.length_append,List.length_take,List.length_replicate];omega
theorem ldP_next {pl:List Str} {k:Nat} (h:k<pl.length):(ldP pl k).set k (pl.getD k [])=ldP pl (k+1):=by
  unfold ldP;rw [take_snoc (d:=[]) h,List.set_append_right _ _ (by rw [List.length_take];omega),List.length_take,Nat.min_eq_left om_,Nat.sub_self];obtain ⟨m,hm⟩:∃ m,pl.length - k=m+1:=⟨pl.length - k - 1,by omega⟩;rw [hm,List.replicate_succ,List.set_cons_zero,show pl.length - (k+1)=m by omega,List.append_assoc];rfl
theorem ldP_sec {pl:List Str} {k:Nat} (h:∀ s∈pl,s.length=64):∀ s∈ldP pl k,s.length=64:=fun s hs=>by
  unfold ldP at hs;rcases List.mem_append.1 hs with hs | hs
  · exact h s (List.mem_of_mem_take hs)
  · rw [List.eq_of_mem_replicate hs];exact zeros_len 64
theorem flat_drop {pl:List Str} (h:∀ s∈pl,s.length=64) {k:Nat} (hk:k<pl.length):(pl.flatten.drop (k * 64)).take 64=pl.getD k []∧64≤(pl.flatten.drop (k * 64)).length:=by
  have e:pl.flatten=(pl.take k).flatten++(pl.getD k []++(pl.drop (k+1)).flatten):=by
    have h1:pl=pl.take (k+1)++pl.drop (k+1):=(List.take_append_drop (k+1) pl).symm;conv=>lhs;rw [h1]
    rw [List.flatten_append,take_snoc (d:=[]) hk,List.flatten_append];simp
  have hl:=flat64 h k om_;have hs:(pl.getD k []).length=64:=h _ (by rw [List.getD_eq_getElem?_getD,List.getElem?_eq_getElem hk];exact List.getElem_mem hk);have e2:pl.flatten.drop (k * 64)=pl.getD k []++(pl.drop (k+1)).flatten:=by
    rw [e,List.drop_append_of_le_length om_,List.drop_of_length_le om_,List.nil_append]
  rw [e2];refine ⟨?_,by rw [List.length_append];omega⟩;rw [List.take_append_of_le_length om_,List.take_of_length_le om_]
theorem load_p (pl:List Str) (h:1≤pl.length∧pl.length≤4096) (hsec:∀ s∈pl,s.length=64) (w:World):
    Ret Tryz.prog 9 #[S pl.flatten] w fun v w'=>∃ b,v=.tuple #[.pointer (some ⟨b,0,none⟩),.int .i64 0]∧DiskF w.heap.size w' b ⟨pl,[],0,0,false⟩ K0∧Bel w w':=by
  have hfl:=flat64 hsec pl.length (Nat.le_refl _);rw [List.take_length] at hfl;refine ret_of_W Tryz.func9 rfl (Nat.le_of_ble_eq_true rfl) (res2 rfl) ?_;have hB:=Gr.refl (fun _=>False) w;refine W.seq (W.region (L.val (x_as (v:=.pointer _) rfl) rfl ?_));refine L.val (x_as (v:=.int _ _) rfl) rfl ?_;refine L.nil (thn_n (W.seq (W.seq (W.region (L.val (x_mv (v:=S _) rfl) rfl ?_)))));refine L.val (x_len_str Tryz.underlying9 rfl) rfl ?_;refine L.val (x_rem (c:=0) rfl rfl om_ (by decide) om_) rfl ?_;refine L.val (x_neq rfl rfl) rfl ?_;refine L.nil (thn_n (W.cond (b:=_) rfl (fun g10=>?_) (fun g10=>?_)))
  ·have h10:=dne_t g10;cases g10
  ·have h10:=dne_f g10;refine W.skip (thn_n (W.seq (W.region (L.val (x_mv (v:=S _) rfl) rfl ?_))));refine L.val (x_len_str Tryz.underlying9 rfl) rfl ?_;refine L.val (x_quo (c:=((pl.length:Nat):Int)) rfl rfl (by decide) (by rw [show (((pl.flatten.length:Nat):Int).tdiv 64)=((pl.length:Nat):Int) by rw [Int.tdiv_eq_ediv_of_nonneg om_];omega];exact wr64 om_)) rfl ?_;refine L.ret (x_call kwld_en13 rfl) rfl (newdisk_f pl.length h _) ?_;rintro _ w15 ⟨b,rfl,hD,hw⟩;have hB:=hB.carry hw;obtain ⟨hb1,hok,bp,vc,vk,hb3,hb,hk,hp,hc⟩:=id hD;have enp:(newD pl.length).pl.length=pl.length:=by simp [newD]
   rw [enp] at hb;have hbne:=box_ne hp hb (by decide);obtain ⟨ac,cc,rfl,-⟩:=own_shape hc;obtain ⟨pk,ck,rfl,hk1,hk2,hk3,-⟩:=id hk;have hc:Own w15 w.heap.size 111 65 (.slice ac 0 cc) 0 []:=hc;refine L.val (x_mv (v:=_) rfl) rfl ?_;refine L.val (x_ext (v:=.pointer _) rfl rfl) rfl ?_;refine L.val (x_ext (v:=.int _ _) rfl rfl) rfl ?_;refine L.val (x_as (v:=.pointer _) rfl) rfl ?_;refine L.val (x_as (v:=.int _ _) rfl) rfl ?_;refine L.nil (thn_n (W.seq (W.seq (W.region (L.val (x_mv (v:=.int _ _) rfl) rfl ?_)))));refine L.val (x_neq rfl rfl) rfl ?_;refine L.nil (thn_n (W.cond (b:=_) rfl (fun g19=>?_) (fun g19=>?_)))
   ·have h19:=dne_t g19;cases g19
   ·have h19:=dne_f g19;refine W.skip (thn_n (W.seq (W.seq (W.region (L.val (x_mv (v:=.pointer _) rfl) rfl ?_)))));refine L.val (x_nil rfl) rfl ?_;refine L.val (x_fa kwld_fo90_0 rfl) rfl ?_;refine L.val (x_ld (v:=.slice _ _ _) kwld_oc87 rfl (hb.cell0 rfl)) rfl ?_;refine L.val (x_len_slice Tryz.underlying87 rfl) rfl ?_;refine L.val (x_mv (v:=.int _ _) rfl) rfl ?_;refine L.nil (thn_n (W.block (W.loop (fun m' E w'=>∃ (i:Nat),m'=pl.length - i∧E 0=S pl.flatten∧E 4=.pointer (some ⟨b,0,none⟩)∧E 25=.int .i64 (pl.length:Nat)∧E 26=.int .i64 (i:Nat)∧(i≤pl.length)∧(Bel w w')∧(Box w' b 90 (dkV (.slice (some ⟨bp,0,none⟩) pl.length pl.length) (.slice ac 0 cc) (.slice pk ([]:List Bool).length ck) 0 0 (newD pl.length)))∧(Own w' w.heap.size 111 65 (.slice ac 0 cc) 0 [])∧(Box w' bp 92 (plV (ldP pl i)))) (pl.length) ?_ ?_)))
    ·exact ⟨0,by omega,vi_,vi_,vi_,vi_,ao_,ao_,ao_,ao_,(by exact hp)⟩
    ·rintro _ E wL27 ⟨i,em,e0,e4,e25,e26,hi,hB,hb,hc,hp⟩;rw [upd_self e0,upd_self e4,upd_self e25,upd_self e26];refine W.seq (W.region (L.val (x_lss rfl rfl) rfl ?_));refine L.nil (thn_n (W.seq (W.cond (b:=_) rfl (fun g27=>?_) (fun g27=>?_))))
     ·have h27:=of_decide_eq_true g27;have hlt:i<pl.length:=by omega
      obtain ⟨hfd,hfe⟩:=flat_drop hsec hlt;have hsz:=hB.size;refine W.skip (thn_n (W.seq (W.block (W.seq (W.region (L.val (x_mv (v:=.int _ _) rfl) rfl ?_))))));refine L.val (x_as (v:=.int _ _) rfl) rfl ?_;refine L.nil (thn_n (W.drawD (fun k=>k=bp) (fun _=>False) 11 kwld_mixed (fun wD29 hw=>?_)));have hB:=hB.carry hw;have hb:=hb.carry hw;have hc:=hc.carry hw;have hB0:=Gr.refl (fun _=>False) wD29;have hR0:=Gr.refl (fun k=>k=bp) wD29;have hDw:=hw;refine LAD.take0 (i:=0) rfl kr_ kr_ kr_ kr_ (fun w hw=>x_mv (v:=.pointer _) rfl) rfl ?_;refine LAD.take0 (i:=1) rfl kr_ kr_ kr_ kr_ (fun w hw=>x_nil rfl) rfl ?_;refine LAD.take0 (i:=2) rfl kr_ kr_ kr_ kr_ (fun w hw=>x_fa kwld_fo90_0 rfl) rfl ?_;refine LAD.takeP [6,5,3] (i:=3) rfl kr_ kr_ kr_ kr_ kr_ kr_ (fun w hw=>x_ld (v:=.slice _ _ _) kwld_oc87 rfl (hw.keepR (fun e=>e) (hb.cell0 rfl))) rfl ?_;refine LAD.take0 (i:=4) rfl kr_ kr_ kr_ kr_ (fun w hw=>x_mv (v:=.int _ _) rfl) rfl ?_;refine LAD.take0 (i:=5) rfl kr_ kr_ kr_ kr_ (fun w hw=>x_ia (j:=i) Tryz.underlying87 kwld_sz92 rfl rfl om_ om_) rfl ?_;refine LAD.take0 (i:=6) rfl kr_ kr_ kr_ kr_ (fun w hw=>x_slArr Tryz.underlying92 kwld_sz5 rfl rfl) rfl ?_;refine LAD.take0 (i:=7) rfl kr_ kr_ kr_ kr_ (fun w hw=>x_mv (v:=S _) rfl) rfl ?_;refine LAD.take0 (i:=8) rfl kr_ kr_ kr_ kr_ (fun w hw=>x_mv (v:=.int _ _) rfl) rfl ?_;refine LAD.take0 (i:=9) rfl kr_ kr_ kr_ kr_ (fun w hw=>x_mul (c:=((i * 64:Nat):Int)) rfl rfl (by rw [wr64 om_];omega)) rfl ?_;refine LAD.take0 (i:=10) rfl kr_ kr_ kr_ kr_ (fun w hw=>x_slB (j:=i * 64) Tryz.underlying9 rfl rfl rfl om_) rfl ?_;refine LAD.step (rs:=[11]) hR0 (fun _=>hB0) kr_ (by simp) ⟨⟨_,rfl,?_⟩,trivial⟩;refine L.cpL Tryz.underlying59 kwld_sz5 rfl rfl rfl (hp.carry hDw) hfe (by rw [plV_len (ldP_sec hsec),ldP_len om_];omega) (fun w40 hpN hw hz40=>?_);rw [hfd,plV_set (ldP_sec hsec) (by rw [ldP_len om_];exact hlt),ldP_next hlt] at hpN;have hR0:=hR0.into hw rfl;have hb:=hb.carryR hR0 (fun e=>hbne e.symm);refine L.nil (thn_n (LAD.done kr_ kr_ hR0 ?_));have hB:=hB.step hR0 (fun k hk e=>by have e:k=bp:=e;omega);have hc:=Own.carryR hc hR0 (fun j hj e=>by have e:j=bp:=e;subst e;exact own_box_ne hc (hp.carry hDw) (by decide) hj);have hp2:=hpN;refine blk_n (thn_n (W.region (L.val (x_add rfl rfl (wr64 om_)) rfl ?_)));refine L.val (x_mv (v:=.int _ _) rfl) rfl ?_;refine L.nil (thn_n ⟨rfl,?_⟩);refine ⟨_,?_,i+1,rfl,vi_,vi_,vi_,vi_,ao_,ao_,ao_,ao_,(by exact hp2)⟩;omega
     ·have h27:=dlt_f g27;have hin:i=pl.length:=by omega
      subst hin;have e1:ldP pl pl.length=pl:=by unfold ldP;rw [Nat.sub_self,List.take_length];simp
      rw [e1] at hp;refine W.exit (thn_x (thn_x (blk_hit ?_)));refine thn_n (W.seq (W.region (L.val (x_mv (v:=.pointer _) rfl) rfl ?_)));refine L.val (x_as (v:=.pointer _) rfl) rfl ?_;refine L.val (x_as (v:=.int _ _) rfl) rfl ?_;refine L.nil (thn_n (W.ret (fin_mk (.inr rfl) ?_)));refine ⟨b,rfl,⟨hb1,⟨by show 0<pl.length;omega,h.2,hsec,fun x hx=>(by cases hx),show 0≤100000∧0≤1000000000 by decide⟩,bp,.slice ac 0 cc,.slice pk ([]:List Bool).length ck,hb3,hb,⟨pk,ck,rfl,hk1,hk2,hk3,fun e=>absurd rfl e⟩,hp,hc⟩,hB⟩
end Go.Gx
namespace Go.Gx
open Go.Proofs Go.Sort
theorem wrF_calm {D:Dk} (ha:D.armed=0) (K:Fl) (i:Nat) (s:Str):(wrF D K i s).armed=0∧(wrF D K i s).dead=D.dead:=by
  unfold wrF;rw [if_neg om_];exact ⟨by show D.armed - 1=0;omega,rfl⟩
theorem flF_calm {D:Dk} (ha:D.armed=0) (K:Fl):(flF D K).armed=0∧(flF D K).dead=D.dead:=by
  unfold flF;rw [if_neg om_];exact ⟨by show D.armed - 1=0;omega,rfl⟩
theorem runW_calm (K:Fl):∀ (l:List (Nat × Str)) {D:Dk},D.armed=0→D.dead=false→(runW K D l).armed=0∧(runW K D l).dead=false
  | [],_,ha,hd=>⟨ha,hd⟩
  | x :: r,D,ha,hd=>by
    obtain ⟨h1,h2⟩:=wrF_calm ha K x.1 x.2;rw [hd] at h2;rw [runW,h2,if_neg (by decide)];exact runW_calm K r h1 h2
theorem comF_calm {D:Dk} (ha:D.armed=0) (hd:D.dead=false) (K:Fl) (ws:List (Nat × Str)) (sl:Nat) (hdr:Str):(comF D K ws sl hdr).armed=0∧(comF D K ws sl hdr).dead=false:=by
  obtain ⟨a1,a2⟩:=runW_calm K ws ha hd;obtain ⟨b1,b2⟩:=wrF_calm a1 K sl (zeros 64);rw [a2] at b2;obtain ⟨c1,c2⟩:=flF_calm b1 K;rw [b2] at c2;obtain ⟨d1,d2⟩:=wrF_calm c1 K sl hdr;rw [c2] at d2;obtain ⟨e1,e2⟩:=flF_calm d1 K;rw [d2] at e2;unfold comF;dsimp only;rw [a2,if_neg (by decide),b2,if_neg (by decide),c2,if_neg (by decide),d2,if_neg (by decide)];exact ⟨e1,e2⟩
def whl (G:List Ed):Nat:=((allB (snapL G)).map frm).flatten.length
def codeC (room tail:Nat) (G l:List Ed):Int × Nat:=
  if mayL l=true then (if l=[] then (0,tail) else if 20000<(bodyB l).length then (3,tail) else if tail+(frm (bodyB l)).length≤room then (0,tail+(frm (bodyB l)).length) else if whl (comes G l)≤room then (0,whl (comes G l)) else (210,tail)) else (230,tail)
theorem outF_calm {D:Dk} (ha:D.armed=0) (hd:D.dead=false) (K:Fl) (q p:Pt) (at':Nat) (s:Str):(outF D K q p at' s).1=0∧(outF D K q p at' s).2.2=p∧(outF D K q p at' s).2.1.armed=0∧(outF D K q p at' s).2.1.dead=false:=by
  obtain ⟨h1,h2⟩:=comF_calm ha hd K (chk D p at' s) (p.ep % 2) (hdrS p);unfold outF;dsimp only;refine ⟨?_,?_,h1,h2⟩ <;> rw [h2] <;> rfl
theorem turn_calm {D:Dk} (ha:D.armed=0) (hd:D.dead=false) (K:Fl) (q:Pt) {G:List Ed} (hm:mayL G=true):
    (turnF D K q (allB (snapL G))).1=(if whl G≤roomN D.pl.length then 0 else 210)∧(turnF D K q (allB (snapL G))).2.2.tail=(if whl G≤roomN D.pl.length then whl G else q.tail)∧(turnF D K q (allB (snapL G))).2.1.armed=0∧(turnF D K q (allB (snapL G))).2.1.dead=false:=by
  have hk:makeS (allB (snapL G))=(((allB (snapL G)).map frm).flatten,0):=by unfold makeS;rw [snap_big hm];rfl
  unfold turnF;rw [hk,if_pos rfl];by_cases h:whl G≤roomN D.pl.length
  · rw [if_pos h,if_pos h,if_neg (by show ¬ roomN D.pl.length<whl G;omega)];obtain ⟨h1,h2,h3,h4⟩:=outF_calm ha hd K q (turnP q (allB (snapL G))) 0 ((allB (snapL G)).map frm).flatten;refine ⟨h1,?_,h3,h4⟩;rw [h2];show (makeS (allB (snapL G))).1.length=_;rw [hk];rfl
  · rw [if_neg h,if_neg h,if_pos (by show roomN D.pl.length<whl G;omega)];exact ⟨rfl,rfl,ha,hd⟩
theorem com_calm {D:Dk} (ha:D.armed=0) (hd:D.dead=false) (K K1:Fl) (q:Pt) {G l:List Ed} (hm:mayL G=true):
    (comS D K K1 q G l).1=(codeC (roomN D.pl.length) q.tail G l).1∧(comS D K K1 q G l).2.2.tail=(codeC (roomN D.pl.length) q.tail G l).2∧(comS D K K1 q G l).2.1.armed=0∧(comS D K K1 q G l).2.1.dead=false:=by
  unfold comS codeC;by_cases h1:mayL l=true
  · rw [if_pos h1,if_pos h1];by_cases h2:l=[]
    · rw [if_pos h2,if_pos h2];exact ⟨rfl,rfl,ha,hd⟩
    · rw [if_neg h2,if_neg h2];by_cases h3:20000<(bodyB l).length
      · have hk:makeS [bodyB l]=([],3):=by
          unfold makeS;have:tooBig [bodyB l]=true:=by unfold tooBig;simp [h3]
          rw [this];rfl
        have ha2:appF D K q [bodyB l]=(3,D,q):=by
          unfold appF;rw [hk,if_neg (fun e=>absurd e.1 (by decide))]
        rw [ha2,if_neg (show ¬ (3:Int)=210 by decide),if_pos h3];exact ⟨rfl,rfl,ha,hd⟩
      · have hk:makeS [bodyB l]=(frm (bodyB l),0):=by
          unfold makeS;have:tooBig [bodyB l]=false:=by unfold tooBig;simpa using h3
          rw [this];simp
        rw [if_neg h3];by_cases h4:q.tail+(frm (bodyB l)).length≤roomN D.pl.length
        · have ha2:appF D K q [bodyB l]=outF D K q (appP q [bodyB l]) q.tail (frm (bodyB l)):=by
            unfold appF;rw [hk,if_pos ⟨rfl,by simp⟩,if_neg (by show ¬ roomN D.pl.length<q.tail+(frm (bodyB l)).length;omega)]
          obtain ⟨o1,o2,o3,o4⟩:=outF_calm ha hd K q (appP q [bodyB l]) q.tail (frm (bodyB l));rw [ha2,if_neg (by rw [o1];decide),if_pos h4];refine ⟨o1,?_,o3,o4⟩;rw [o2];show q.tail+(makeS [bodyB l]).1.length=_;rw [hk]
        · have ha2:appF D K q [bodyB l]=(210,D,q):=by
            unfold appF;rw [hk,if_pos ⟨rfl,by simp⟩,if_pos (by show roomN D.pl.length<q.tail+(frm (bodyB l)).length;omega)]
          rw [ha2,if_pos rfl,if_neg h4];obtain ⟨o1,o2,o3,o4⟩:=turn_calm ha hd K1 q (may_comes hm h1);refine ⟨?_,?_,o3,o4⟩
          · rw [o1];split <;> rfl
          · rw [o2];split <;> rfl
  · rw [if_neg h1,if_neg h1];exact ⟨rfl,rfl,ha,hd⟩
end Go.Gx
namespace Go.Gx
open Go.Proofs Go.Sort
theorem kstoj_el70:elT Tryz.prog 70 3=true:=by kernel_rfl
theorem kstoj_el9:elT Tryz.prog 9 1=true:=by kernel_rfl
theorem kstoj_en13:Go.Proofs.Enters Tryz.prog 13:=Go.Proofs.enters_of Tryz.func13 kr_ rfl
theorem kstoj_en15:Go.Proofs.Enters Tryz.prog 15:=Go.Proofs.enters_of Tryz.func15 kr_ rfl
theorem kstoj_en17:Go.Proofs.Enters Tryz.prog 17:=Go.Proofs.enters_of Tryz.func17 kr_ rfl
theorem kstoj_en28:Go.Proofs.Enters Tryz.prog 28:=Go.Proofs.enters_of Tryz.func28 kr_ rfl
theorem kstoj_en29:Go.Proofs.Enters Tryz.prog 29:=Go.Proofs.enters_of Tryz.func29 kr_ rfl
theorem kstoj_en30:Go.Proofs.Enters Tryz.prog 30:=Go.Proofs.enters_of Tryz.func30 kr_ rfl
theorem kstoj_en31:Go.Proofs.Enters Tryz.prog 31:=Go.Proofs.enters_of Tryz.func31 kr_ rfl
theorem kstoj_si70:structInfo Tryz.prog 70=some ([(0,1),(1,1),(2,1)],[S [],S [],Value.bool false]):=by kernel_rfl
theorem comes_len:∀ (l G:List Ed),(comes G l).length≤G.length+l.length
  | [],G=>Nat.le_add_right _ _
  | e :: l,G=>by
    have h1:∀ (G:List Ed),(come1 G e).length≤G.length+1:=fun G=>by
      induction G with
      | nil=>rw [come1];split <;> simp
      | cons x G ih=>
        rw [come1];split
        · simp only [List.length_cons];omega
        · rw [List.length_append];split <;> split <;> simp only [List.length_cons,List.length_nil] <;> omega
    have h2:=comes_len l (come1 G e);have:=h1 G;have e1:comes G (e :: l)=comes (come1 G e) l:=rfl;rw [e1,List.length_cons];omega
structure Calm (n0:Nat) (w:World) (b bs bl:Nat) (D:Dk) (K:Fl) (q:Pt) (G:List Ed) (c:Nat):Prop where
  disk:DiskF n0 w b D K
  log:LogB n0 w bl b q false
  sto:StoAt n0 w bs bl G
  rep:SRep (una D) q G c
  arm:D.armed=0
  live:D.dead=false
theorem Calm.carry {n0:Nat} {w w':World} {b bs bl:Nat} {D:Dk} {K:Fl} {q:Pt} {G:List Ed} {c:Nat} (h:Calm n0 w b bs bl D K q G c) (g:Bel w w'):Calm n0 w' b bs bl D K q G c:=⟨h.disk.bel g,h.log.bel g,h.sto.carry g,h.rep,h.arm,h.live⟩
structure Few (D:Dk) (q:Pt) (c:Nat):Prop where
  ep:q.ep+1<1000000000
  cnt:c+c+2<2000000000
  ops:D.ops+2300<900000000
theorem commit_c {n0:Nat} {w:World} {b bs bl:Nat} {D:Dk} {K:Fl} {q:Pt} {G:List Ed} {c:Nat} (h:Calm n0 w b bs bl D K q G c) (hf:Few D q c) (A:Nat→Prop) (v:Value) (l:List Ed) (hs:EdsAt A w v l) (hn:n0≤w.heap.size)
    (hln:l.length≤10000) (hGl:G.length≤10000) (hc:(comes G l).length≤c+1) (hz:mayL l=true→sizG G+sizG l≤10000000):
    Ret Tryz.prog 15 #[.pointer (some ⟨bs,0,none⟩),v] w fun v w'=>v=.int .i64 (codeC (roomN D.pl.length) q.tail G l).1∧(∃ D' K' q',Calm n0 w' b bs bl D' K' q' (if (codeC (roomN D.pl.length) q.tail G l).1=0 then comes G l else G) (c+1)∧D'.pl.length=D.pl.length∧q'.tail=(codeC (roomN D.pl.length) q.tail G l).2∧q'.ep≤q.ep+1∧D'.ops≤D.ops+2300)∧Dg stTy n0 w w':=by
  have hq:=h.rep.ok;have hG:=h.rep.rises;have hm:=h.rep.may;have hlen:=comes_len l G;refine (commit_s n0 bs bl b A v l D K q G w h.disk h.log hq (by rw [h.arm];omega) h.sto hG hm hs hn hln om_ (fun hml=>Nat.le_trans (need_snap (may_comes hm hml)) (Nat.le_trans (sizG_comes l G) (hz hml)))).mono ?_;rintro v' w' ⟨K1,rfl,⟨K2,hD⟩,hL,hS,hg⟩;obtain ⟨c1,c2,c3,c4⟩:=com_calm h.arm h.live K K1 q (l:=l) hm;have hF:=com_fin (K:=K) (K1:=K1) (l:=l) h.live h.rep h.disk.2.1 hD.2.1 hc hf.ep hf.cnt hf.ops;obtain ⟨f1,f2⟩:=hF.live c4;rw [c1] at hS f2 ⊢;rw [c4] at hL;exact ⟨rfl,⟨_,K2,_,⟨hD,hL,hS,f2,c3,c4⟩,hF.len,c2,f1,hF.ops⟩,hg⟩
theorem compact_c {n0:Nat} {w:World} {b bs bl:Nat} {D:Dk} {K:Fl} {q:Pt} {G:List Ed} {c:Nat} (h:Calm n0 w b bs bl D K q G c) (hf:Few D q c) (hn:n0≤w.heap.size) (hGl:G.length≤10000) (hc:G.length≤c+1) (hz:sizG G≤10000000):
    Ret Tryz.prog 17 #[.pointer (some ⟨bs,0,none⟩)] w fun v w'=>v=.int .i64 (if whl G≤roomN D.pl.length then 0 else 210)∧(∃ D' K' q',Calm n0 w' b bs bl D' K' q' G (c+1)∧D'.pl.length=D.pl.length∧q'.tail=(if whl G≤roomN D.pl.length then whl G else q.tail)∧q'.ep≤q.ep+1∧D'.ops≤D.ops+2300)∧Dg stTy n0 w w':=by
  have hq:=h.rep.ok;have hG:=h.rep.rises;have hm:=h.rep.may;refine (compact_s n0 bs bl b D K q G w h.disk h.log hq (by rw [h.arm];omega) h.sto hG hm hn om_ (Nat.le_trans (need_snap hm) hz)).mono ?_;rintro v' w' ⟨rfl,⟨K2,hD⟩,hL,hS,hg⟩;obtain ⟨c1,c2,c3,c4⟩:=turn_calm h.arm h.live K q hm;have hF:=turn_fin (K:=K) (G':=G) h.live (h.rep.mono (Nat.le_succ c)) h.disk.2.1 hD.2.1 hG hm hc hf.ep (by have:=hf.cnt;omega) hf.ops;obtain ⟨f1,f2⟩:=hF.live c4;rw [ite_self] at f2;rw [c1];rw [c4] at hL;exact ⟨rfl,⟨_,K2,_,⟨hD,hL,hS,f2,c3,c4⟩,hF.len,c2,f1,hF.ops⟩,hg⟩
theorem open_c {n0:Nat} {w:World} {b:Nat} {D:Dk} {K:Fl} {q:Pt} {G:List Ed} {c:Nat} (h:DiskF n0 w b D K) (hr:SRep (una D) q G c) (hd:D.dead=false) (hn:n0≤w.heap.size):
    Ret Tryz.prog 28 #[.pointer (some ⟨b,0,none⟩)] w fun v w'=>(∃ bs bl,v=.tuple #[.pointer (some ⟨bs,0,none⟩),.int .i64 0]∧StoAt n0 w' bs bl G∧LogB n0 w' bl b q false)∧Bel w w':=by
  obtain ⟨ls,h1,h2,h3,rfl⟩:=hr.open h.2.1;refine (open_s n0 b D q ls w h.at hd hr.ok.h6 h1 h2 h3).mono ?_;rintro v w' ⟨⟨bs,bl,rfl,⟨m,a1,a2,a3⟩,a4⟩,hB⟩;refine ⟨⟨bs,bl,rfl,⟨m,by omega,a2,?_⟩,⟨Nat.le_trans hn a4.1,a4.2⟩⟩,hB⟩;rcases a3 with h | ⟨mb,l',e1,e2,e3⟩
  · exact .inl h
  · exact .inr ⟨mb,l',e1,by omega,e3⟩
def ab1:List Ed:=[⟨[98],[50],false⟩,⟨[97],[49],false⟩]
def ab2:List Ed:=[⟨[98],[],true⟩]
def ab3:List Ed:=[⟨[],[],false⟩]
def aG1:List Ed:=[⟨[97],[49],false⟩,⟨[98],[50],false⟩]
def aG2:List Ed:=[⟨[97],[49],false⟩]
theorem ab1c:codeC 576 0 [] ab1=(0,18):=by decide +kernel
theorem ab2c:codeC 576 18 aG1 ab2=(0,29):=by decide +kernel
theorem ab3c (t:Nat):codeC 576 t aG2 ab3=(230,t):=rfl
theorem aG1c:comes [] ab1=aG1:=by decide +kernel
theorem aG2c:comes aG1 ab2=aG2:=by decide +kernel
theorem awhl:whl aG2≤576:=by decide +kernel
theorem aroom:roomN (newD 20).pl.length=576:=by decide +kernel
theorem awake23 (w:World):Ret Tryz.prog 5 #[] w fun v w'=>v=.bool true∧Bel w w':=by
  refine ret_of_W Tryz.func5 rfl (Nat.le_of_ble_eq_true rfl) (res1 rfl) ?_;have hB:=Gr.refl (fun _=>False) w;refine W.seq (W.region (L.val (x_as (v:=.bool _) rfl) rfl ?_));refine L.nil (thn_n (W.seq (W.region (L.ret (x_call kstoj_en13 rfl) rfl (newdisk_f 20 (by decide) _) ?_))));rintro _ w10 ⟨b,rfl,h,hw⟩;have hB:=hB.carry hw;refine L.val (x_mv (v:=_) rfl) rfl ?_;refine L.val (x_ext (v:=.pointer _) rfl rfl) rfl ?_;refine L.val (x_ext (v:=.int _ _) rfl rfl) rfl ?_;refine L.val (x_as (v:=.pointer _) rfl) rfl ?_;refine L.val (x_as (v:=.int _ _) rfl) rfl ?_;refine L.nil (thn_n (W.seq (W.region ?_)));have hs10:=hB.size;refine L.val (x_mv (v:=.pointer _) rfl) rfl ?_;refine L.ret (x_call kstoj_en28 rfl) rfl (open_c (n0:=w.heap.size) h (show SRep (una (newD 20)) pt0 [] 0 from SRep.new (by decide)) rfl hs10) ?_;rintro _ w15 ⟨⟨bs,bl,rfl,hS,hL⟩,hw⟩;have hB:=hB.carry hw;have h:=h.carry hw;have hC:Calm w.heap.size w15 b bs bl (newD 20) K0 pt0 [] 5:=⟨h,hL,hS,(show SRep (una (newD 20)) pt0 [] 0 from SRep.new (by decide)).mono om_,rfl,rfl⟩;have hs15:=hB.size;refine L.val (x_mv (v:=_) rfl) rfl ?_;refine L.val (x_ext (v:=.pointer _) rfl rfl) rfl ?_;refine L.val (x_ext (v:=.int _ _) rfl rfl) rfl ?_;refine L.val (x_as (v:=.pointer _) rfl) rfl ?_;refine L.val (x_as (v:=.int _ _) rfl) rfl ?_;refine L.nil (thn_n (W.seq (W.seq (W.region (L.val (x_mv (v:=.int _ _) rfl) rfl ?_)))));refine L.val (x_neq rfl rfl) rfl ?_;refine L.val (x_mv (v:=.bool _) rfl) rfl ?_;refine L.splitat (dj:=20) (b:=_) rfl (fun g20=>?_) (fun g20=>?_)
  ·have h20:=dne_t g20;cases g20
  ·have h20:=dne_f g20;refine L.gyes' (dj:=20) (b:=_) rfl rfl g20 ?_;refine L.val (x_mv (v:=.int _ _) rfl) rfl ?_;refine L.gyes' (dj:=20) (b:=_) rfl rfl g20 ?_;refine L.val (x_neq rfl rfl) rfl ?_;refine L.val (x_pick_f (v:=.bool _) (congrArg Value.bool g20) rfl) rfl ?_;refine L.val (x_mv (v:=.bool _) rfl) rfl ?_;refine L.splitat (dj:=24) (b:=_) rfl (fun g24=>?_) (fun g24=>?_)
   ·have h24:=dne_t g24;cases g24
   ·have h24:=dne_f g24;refine L.gyes' (dj:=24) (b:=_) rfl rfl g24 ?_;refine L.val (x_mv (v:=.pointer _) rfl) rfl ?_;refine L.gyes' (dj:=24) (b:=_) rfl rfl g24 ?_;refine L.val (x_eqp0 Tryz.underlying40 rfl rfl) rfl ?_;refine L.val (x_pick_f (v:=.bool _) (congrArg Value.bool g24) rfl) rfl ?_;refine L.val (x_mv (v:=.bool _) rfl) rfl ?_;refine L.splitat (dj:=28) (b:=_) rfl (fun g28=>?_) (fun g28=>?_)
    ·have h28:=g28;cases g28
    ·have h28:=g28;refine L.gyes' (dj:=28) (b:=_) rfl rfl g28 ?_;refine L.val (x_mv (v:=.pointer _) rfl) rfl ?_;refine L.gyes' (dj:=28) (b:=_) rfl rfl g28 ?_;refine L.val (x_build (cells:=[S _,S _,.bool _]) kstoj_si70 rfl rfl) rfl ?_;refine L.gyes' (dj:=28) (b:=_) rfl rfl g28 ?_;refine L.val (x_build (cells:=[S _,S _,.bool _]) kstoj_si70 rfl rfl) rfl ?_;refine L.gyes' (dj:=28) (b:=_) rfl rfl g28 ?_;refine L.bs (sz:=3) (cells:=(ab1.map edV).flatten) Tryz.underlying31 kstoj_el70 rfl rfl rfl rfl (fun w32 bx32 hw hz32=>?_);have hB:=hB.carry hw;have hC:=hC.carry hw;have hs32:=hB.size;refine L.gyes' (dj:=28) (b:=_) rfl rfl g28 ?_;refine L.ret (x_call kstoj_en15 rfl) rfl (commit_c hC ⟨by decide,by decide,by decide⟩ (fun _=>False) _ ab1 (eds_of_box ab1 bx32 (fun f=>f) (by decide) (may_ok_eds (by decide))) hs32 (by decide) (by decide) (by decide) (fun _=>by decide)) ?_;rintro _ w33 ⟨rfl,⟨D1,K1,q1,hC,hl1,ht1,he1,ho1⟩,hg33⟩;have hB:=hg33.bel hB;have eR:codeC (roomN (newD 20).pl.length) pt0.tail [] ab1=(0,18):=by rw [aroom];exact ab1c
     rw [eR] at hC ht1 ⊢;rw [if_pos rfl,aG1c] at hC;have hr1:roomN D1.pl.length=576:=by rw [hl1];exact aroom
     have hs33:=hB.size;refine L.gyes' (dj:=28) (b:=_) rfl rfl g28 ?_;refine L.val (x_neq rfl rfl) rfl ?_;refine L.val (x_pick_f (v:=.bool _) (congrArg Value.bool g28) rfl) rfl ?_;refine L.val (x_mv (v:=.bool _) rfl) rfl ?_;refine L.splitat (dj:=36) (b:=_) rfl (fun g36=>?_) (fun g36=>?_)
     ·have h36:=dne_t g36;cases g36
     ·have h36:=dne_f g36;refine L.gyes' (dj:=36) (b:=_) rfl rfl g36 ?_;refine L.val (x_mv (v:=.pointer _) rfl) rfl ?_;refine L.gyes' (dj:=36) (b:=_) rfl rfl g36 ?_;refine L.val (x_build (cells:=[S _,S _,.bool _]) kstoj_si70 rfl rfl) rfl ?_;refine L.gyes' (dj:=36) (b:=_) rfl rfl g36 ?_;refine L.bs (sz:=3) (cells:=(ab2.map edV).flatten) Tryz.underlying31 kstoj_el70 rfl rfl rfl rfl (fun w39 bx39 hw hz39=>?_);have hB:=hB.carry hw;have hC:=hC.carry hw;have hs39:=hB.size;refine L.gyes' (dj:=36) (b:=_) rfl rfl g36 ?_;refine L.ret (x_call kstoj_en15 rfl) rfl (commit_c hC ⟨by have:pt0.ep=0:=rfl;omega,by decide,by have:(newD 20).ops=0:=rfl;omega⟩ (fun _=>False) _ ab2 (eds_of_box ab2 bx39 (fun f=>f) (by decide) (may_ok_eds (by decide))) hs39 (by decide) (by decide) (by decide) (fun _=>by decide)) ?_;rintro _ w40 ⟨rfl,⟨D2,K2,q2,hC,hl2,ht2,he2,ho2⟩,hg40⟩;have hB:=hg40.bel hB;have eR2:codeC (roomN D1.pl.length) q1.tail aG1 ab2=(0,29):=by rw [hr1,ht1];exact ab2c
      rw [eR2] at hC ht2 ⊢;rw [if_pos rfl,aG2c] at hC;have hr2:roomN D2.pl.length=576:=by rw [hl2];exact hr1
      have hs40:=hB.size;refine L.gyes' (dj:=36) (b:=_) rfl rfl g36 ?_;refine L.val (x_neq rfl rfl) rfl ?_;refine L.val (x_pick_f (v:=.bool _) (congrArg Value.bool g36) rfl) rfl ?_;refine L.nil (thn_n (W.cond (b:=_) rfl (fun g41=>?_) (fun g41=>?_)))
      ·have h41:=dne_t g41;cases g41
      ·have h41:=dne_f g41;refine W.skip (thn_n (W.seq (W.region (L.val (x_mv (v:=.pointer _) rfl) rfl ?_))));refine L.ret (x_call kstoj_en28 rfl) rfl (open_c (n0:=w.heap.size) hC.disk hC.rep hC.live hB.size) ?_;rintro _ w45 ⟨⟨bs2,bl2,rfl,hS2,hL2⟩,hw⟩;have hB:=hB.carry hw;have hC:=hC.carry hw;have hC2:Calm w.heap.size w45 b bs2 bl2 D2 K2 q2 aG2 (5+1+1):=⟨hC.disk,hL2,hS2,hC.rep,hC.arm,hC.live⟩;have hs45:=hB.size;refine L.val (x_mv (v:=_) rfl) rfl ?_;refine L.val (x_ext (v:=.pointer _) rfl rfl) rfl ?_;refine L.val (x_ext (v:=.int _ _) rfl rfl) rfl ?_;refine L.val (x_as (v:=.pointer _) rfl) rfl ?_;refine L.val (x_as (v:=.int _ _) rfl) rfl ?_;refine L.nil (thn_n (W.seq (W.region (L.val (x_mv (v:=.pointer _) rfl) rfl ?_))));refine L.ret (x_call kstoj_en29 rfl) rfl (get_s w.heap.size bs2 bl2 aG2 [97] _ hC2.sto) ?_;rintro _ w50 ⟨rfl,hq50⟩;rw [hq50];refine L.val (x_mv (v:=_) rfl) rfl ?_;refine L.val (x_ext (v:=S _) rfl rfl) rfl ?_;refine L.val (x_ext (v:=.bool _) rfl rfl) rfl ?_;refine L.val (x_as (v:=S _) rfl) rfl ?_;refine L.val (x_as (v:=.bool _) rfl) rfl ?_;refine L.nil (thn_n (W.seq (W.region (L.val (x_mv (v:=.int _ _) rfl) rfl ?_))));refine L.val (x_eql rfl rfl) rfl ?_;refine L.val (x_mv (v:=.bool _) rfl) rfl ?_;refine L.splitat (dj:=55) (b:=_) rfl (fun g55=>?_) (fun g55=>?_)
       ·have h55:=of_decide_eq_true g55;refine L.gyes' (dj:=55) (b:=_) rfl rfl g55 ?_;refine L.val (x_mv (v:=S _) rfl) rfl ?_;refine L.gyes' (dj:=55) (b:=_) rfl rfl g55 ?_;refine L.val (x_eqs rfl rfl) rfl ?_;refine L.val (x_pick_t (v:=.bool _) (congrArg Value.bool g55) rfl) rfl ?_;refine L.val (x_mv (v:=.bool _) rfl) rfl ?_;refine L.splitat (dj:=59) (b:=_) rfl (fun g59=>?_) (fun g59=>?_)
        ·have h59:=seq_t g59;refine L.gyes' (dj:=59) (b:=_) rfl rfl g59 ?_;refine L.val (x_mv (v:=.bool _) rfl) rfl ?_;refine L.val (x_pick_t (v:=.bool _) (congrArg Value.bool g59) rfl) rfl ?_;refine L.val (x_mv (v:=.bool _) rfl) rfl ?_;refine L.splitat (dj:=62) (b:=_) rfl (fun g62=>?_) (fun g62=>?_)
         ·have h62:=g62;refine L.gyes' (dj:=62) (b:=_) rfl rfl g62 ?_;refine L.val (x_mv (v:=.pointer _) rfl) rfl ?_;refine L.gyes' (dj:=62) (b:=_) rfl rfl g62 ?_;refine L.ret (x_call kstoj_en31 rfl) rfl (keys_s w.heap.size bs2 bl2 aG2 [] _ hC2.sto hC2.rep.rises (by decide) (by decide)) ?_;rintro v64 w64 ⟨hk64,hw⟩;have hB:=hB.carry hw;have hC2:=hC2.carry hw;have hk64:StrsAt _ w64 v64 [[97]]:=hk64;obtain ⟨p64,c64,rfl,-⟩:=id hk64;refine L.gyes' (dj:=62) (b:=_) rfl rfl g62 ?_;refine L.bs (sz:=1) (cells:=[S [97]]) Tryz.underlying22 kstoj_el9 rfl rfl rfl rfl (fun w65 bx65 hw hz65=>?_);have hB:=hB.carry hw;have hC2:=hC2.carry hw;have hk64:=hk64.carry hw;refine L.gyes' (dj:=62) (b:=_) rfl rfl g62 ?_;refine L.ret (x_call kstoj_en30 rfl) rfl (same21 _ _ _ _ [[97]] [[97]] _ hk64 (strs_new [[97]] bx65 (by decide) (by decide))) ?_;rintro v66 w66 ⟨rfl,hw⟩;have hB:=hB.carry hw;have hC2:=hC2.carry hw;have hk64:=hk64.carry hw;have bx65:=bx65.carry hw;have hs66:=hB.size;refine L.val (x_pick_t (v:=.bool _) (congrArg Value.bool g62) rfl) rfl ?_;refine L.val (x_mv (v:=.bool _) rfl) rfl ?_;refine L.splitat (dj:=68) (b:=_) rfl (fun g68=>?_) (fun g68=>?_)
          ·have h68:=g68;refine L.gyes' (dj:=68) (b:=_) rfl rfl g68 ?_;refine L.val (x_mv (v:=.pointer _) rfl) rfl ?_;refine L.gyes' (dj:=68) (b:=_) rfl rfl g68 ?_;refine L.ret (x_call kstoj_en17 rfl) rfl (compact_c hC2 ⟨by have:pt0.ep=0:=rfl;omega,by decide,by have:(newD 20).ops=0:=rfl;omega⟩ hs66 (by decide) (by decide) (by decide)) ?_;rintro _ w70 ⟨rfl,⟨D3,K3,q3,hC3,hl3,ht3,he3,ho3⟩,hg70⟩;have hB:=hg70.bel hB;rw [hr2,if_pos awhl];have hs70:=hB.size;have hr3:roomN D3.pl.length=576:=by rw [hl3];exact hr2
           refine L.gyes' (dj:=68) (b:=_) rfl rfl g68 ?_;refine L.val (x_eql rfl rfl) rfl ?_;refine L.val (x_pick_t (v:=.bool _) (congrArg Value.bool g68) rfl) rfl ?_;refine L.val (x_mv (v:=.bool _) rfl) rfl ?_;refine L.splitat (dj:=73) (b:=_) rfl (fun g73=>?_) (fun g73=>?_)
           ·have h73:=of_decide_eq_true g73;refine L.gyes' (dj:=73) (b:=_) rfl rfl g73 ?_;refine L.val (x_mv (v:=.pointer _) rfl) rfl ?_;refine L.gyes' (dj:=73) (b:=_) rfl rfl g73 ?_;refine L.val (x_build (cells:=[S _,S _,.bool _]) kstoj_si70 rfl rfl) rfl ?_;refine L.gyes' (dj:=73) (b:=_) rfl rfl g73 ?_;refine L.bs (sz:=3) (cells:=(ab3.map edV).flatten) Tryz.underlying31 kstoj_el70 rfl rfl rfl rfl (fun w76 bx76 hw hz76=>?_);have hB:=hB.carry hw;have hC3:=hC3.carry hw;have hs76:=hB.size;refine L.gyes' (dj:=73) (b:=_) rfl rfl g73 ?_;refine L.ret (x_call kstoj_en15 rfl) rfl (commit_c hC3 ⟨by have:pt0.ep=0:=rfl;omega,by decide,by have:(newD 20).ops=0:=rfl;omega⟩ (fun _=>False) _ ab3 (eds_of_box ab3 bx76 (fun f=>f) (by decide) (fun e he=>by rw [List.mem_singleton.1 he];exact ⟨by decide,by decide⟩)) hs76 (by decide) (by decide) (by decide) (fun e=>absurd e (by decide))) ?_;rintro _ w77 ⟨rfl,⟨D4,K4,q4,hC4,hl4,ht4,he4,ho4⟩,hg77⟩;have hB:=hg77.bel hB;rw [hr3,ab3c];refine L.gyes' (dj:=73) (b:=_) rfl rfl g73 ?_;refine L.val (x_eql rfl rfl) rfl ?_;refine L.val (x_pick_t (v:=.bool _) (congrArg Value.bool g73) rfl) rfl ?_;refine L.val (x_as (v:=.bool _) rfl) rfl ?_;refine L.nil (thn_n (W.ret (fin_mk (.inr rfl) ?_)));exact ⟨rfl,hB⟩
           ·have h73:=of_decide_eq_false g73;cases g73
          ·have h68:=g68;cases g68
         ·have h62:=g62;cases g62
        ·have h59:=seq_f g59;exact absurd g59 (by decide)
       ·have h55:=of_decide_eq_false g55;cases g55
end Go.Gx
namespace Go.Gx
open Go.Proofs Go.Sort
def NoS (w:World) (p:Option Addr):Prop:=p=none∨∃ b,p=some ⟨b,0,none⟩∧Box w b 100 [.map none,.pointer none]
theorem NoS.carry {w w':World} {p:Option Addr} (h:NoS w p) (g:Bel w w'):NoS w' p:=by
  rcases h with h | ⟨b,h1,h2⟩
  · exact .inl h
  · exact .inr ⟨b,h1,h2.carry g⟩
end Go.Gx
namespace Go.Gx
open Go.ChangeShapes Go.WideShapes Go.Deep Go.RowKit
structure Sa where
  kind:Int
  eds:List Ed
  at':Int
  keep:List Bool
  torn:Int
  cut:Int
  data:Str
instance:Inhabited Sa:=⟨⟨0,[],0,[],0,0,[]⟩⟩
def saV (a:Sa) (ve vk:Value):List Value:=[.int .i64 a.kind,ve,.int .i64 a.at',vk,.int .i64 a.torn,.int .i64 a.cut,S a.data]
def SaC (A:Nat→Prop) (w:World) (cs:List Value) (a:Sa):Prop:=∃ ve vk,cs=saV a ve vk∧EdsAt A w ve a.eds∧BlsAt A w vk a.keep∧a.at'≤9223372036854775807
instance car_sa:Car SaC 7 where
  pos:=by omega
  len:=fun ⟨_,_,h,_⟩=>by rw [h];rfl
  one:=fun ⟨ve,vk,h,h1,h2,_⟩=>by
    rw [h];intro v hv
    simp only [saV,List.mem_cons,List.not_mem_nil,or_false] at hv
    rcases hv with rfl | rfl | rfl | rfl | rfl | rfl | rfl
    · rfl
    · exact h1.one
    · rfl
    · exact h2.one
    · rfl
    · rfl
    · rfl
  move:=fun hc ⟨ve,vk,h,h1,h2,h3⟩=>⟨ve,vk,h,h1.move hc,h2.move hc,h3⟩
abbrev SasAt (A:Nat→Prop) (w:World) (v:Value) (l:List Sa):Prop:=RecsAt SaC 7 A w v l
section
variable {H:Type} {enc:TypeId × Value→H} {P:Program} {w:World} {base:Nat} {spare:Nat→Bool} {held:Bool}
end
end Go.Gx
