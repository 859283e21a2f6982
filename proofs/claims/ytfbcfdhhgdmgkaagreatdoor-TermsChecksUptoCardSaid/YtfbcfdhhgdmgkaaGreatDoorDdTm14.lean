/- Some answers that the document fixes. Conditions: none. -/
import Derived.Test.YtfbcfdhhgdmgkaaGreatDoorDdTm13
namespace Go.Gx
open Go.Proofs
theorem ktm14_ag26:aggT Tryz.prog 26 9=true:=by kernel_rfl
theorem ktm14_el26:elT Tryz.prog 26 9=true:=by kernel_rfl
theorem ktm14_el45:elT Tryz.prog 45 5=true:=by kernel_rfl
theorem ktm14_el9:elT Tryz.prog 9 1=true:=by kernel_rfl
theorem ktm14_en10:Go.Proofs.Enters Tryz.prog 10:=Go.Proofs.enters_of Tryz.func10 kr_ rfl
theorem ktm14_en13:Go.Proofs.Enters Tryz.prog 13:=Go.Proofs.enters_of Tryz.func13 kr_ rfl
theorem ktm14_en15:Go.Proofs.Enters Tryz.prog 15:=Go.Proofs.enters_of Tryz.func15 kr_ rfl
theorem ktm14_en16:Go.Proofs.Enters Tryz.prog 16:=Go.Proofs.enters_of Tryz.func16 kr_ rfl
theorem ktm14_en8:Go.Proofs.Enters Tryz.prog 8:=Go.Proofs.enters_of Tryz.func8 kr_ rfl
theorem ktm14_mixed:Tryz.prog.follows .mixedOrders=true:=by kernel_rfl
theorem ktm14_si26:structInfo Tryz.prog 26=some ([(0,1),(1,1),(2,1),(3,1),(4,1),(5,1),(6,1),(7,1),(8,1)],[Value.int .i64 0,S [],S [],Value.int .i64 0,Value.slice none 0 0,Value.slice none 0 0,Value.slice none 0 0,Value.slice none 0 0,Value.int .i64 0]):=by kernel_rfl
theorem ktm14_si45:structInfo Tryz.prog 45=some ([(0,1),(1,1),(2,1),(3,1),(4,1)],[Value.int .i64 0,S [],S [],Value.slice none 0 0,Value.slice none 0 0]):=by kernel_rfl
theorem ktm14_zr26:(Tryz.prog.info? 26).bind (·.zero)=some (Value.agg [Value.int .i64 0,S [],S [],Value.int .i64 0,Value.slice none 0 0,Value.slice none 0 0,Value.slice none 0 0,Value.slice none 0 0,Value.int .i64 0].toArray):=by kernel_rfl
def awX:Tm:=.mk 5 [] [120] 0 [] [] [] [] 3
def awF:Tm:=.mk 6 [] [] 0 [[120]] [] [.mk 1 [] [] [] []] [awX] 0
def awI:Tm:=.mk 1 [] [] 2 [] [] [] [] 0
def awC:Tm:=.mk 7 [] [] 0 [] [] [] [awF,awI] 0
def awL:Tm:=.mk 14 [] [120] 0 [] [] [] [awX] 0
theorem aw_check:checkT awC=0∧checkT awF=0∧checkT awC.bare=0∧checkT awL=80∧awC.size=4:=by decide +kernel
theorem aw_lim:awC.allB limB=true∧awC.allB limN=true∧awF.allB limB=true∧awC.bare.allB limB=true∧awL.allB limB=true:=by decide +kernel
theorem aw_two:Lib.itoa 2=[50]:=by
  unfold Lib.itoa;rw [if_neg (by decide)];exact Lib.decDigits_one (by decide)
theorem aw_text:awC.text=[40,102,117,110,32,40,120,58,32,73,110,116,41,32,45,62,32,120,41,40,50,41]:=by
  have h1:awF.text=[102,117,110,32,40,120,58,32,73,110,116,41,32,45,62,32,120]:=by decide +kernel
  have h2:awI.text=[50]:=by
    rw [Tm.text_eq];show Lib.itoa 2=[50];exact aw_two
  have h3:awC.text=texF 7 [] [] 0 [] [] [] [6,1] [awF.text,awI.text]:=rfl;rw [h3,h1,h2];decide +kernel
theorem bare_bare (s:Tm):s.bare.bare=s.bare:=by
  have key:∀ (N:Nat) (s:Tm),SizeOf.sizeOf s<N→s.bare.bare=s.bare:=by
    intro N;induction N with
    | zero=>intro s h;omega
    | succ N ih=>
      intro s hN;rw [bare_iff];rw [Tm.bare_eq s];refine ⟨rfl,rfl,rfl,rfl,rfl,rfl,rfl,?_⟩;show (s.parts.map Tm.bare).map Tm.bare=s.parts.map Tm.bare;rw [List.map_map];refine List.map_congr_left fun x hx=>?_
      obtain ⟨i,hi,e⟩:=List.getElem_of_mem hx;have h1:=Tm.part_lt hi;rw [List.getD_eq_getElem?_getD,List.getElem?_eq_getElem hi,Option.getD_some,e] at h1;exact ih x om_
  exact key _ s (Nat.lt_succ_self _)
theorem aw_same:sameT [awC,awC.bare]=true∧sameT [awC,awF]=false:=by
  obtain ⟨c1,c2,c3,-⟩:=aw_check;have e0:∀ t,eqT t t=true:=fun t=>eqT_iff.2 rfl
  refine ⟨?_,?_⟩
  · unfold sameT;have e1:eqT awC.bare awC=true:=eqT_iff.2 (bare_bare _);simp [c1,c3,e0,e1]
  · unfold sameT;have e1:eqT awF awC=false:=by
      cases h:eqT awF awC with
      | false=>rfl
      | true=>have:=(bare_iff.1 (eqT_iff.1 h)).1;exact absurd this (by decide)
    simp [e1]
theorem tms_box {w:World} {b:Nat} {T:TypeId} {A:Nat→Prop} (rows:List (List Value)) (l:List Tm) (h:Box w b T rows.flatten) (hA:¬ A b) (hl:l.length≤100) (hr:rows.length=l.length) (h4:∀ i,i<l.length→TmC A w (rows.getD i []) (l.getD i default)):RecsAt TmC 9 A w (.slice (some ⟨b,0,none⟩) l.length l.length) l:=
  recs_of_box rows l h hA om_ hr (fun i hi=>(h4 i hi).len) h4
def xC:List Value:=[.int .i64 5,S [],S [120],.int .i64 0,.slice none 0 0,.slice none 0 0,.slice none 0 0,.slice none 0 0,.int .i64 3]
theorem xC_ok {A:Nat→Prop} {w:World}:TmC A w xC awX:=
  TmC.intro (k:=5) (of:=[]) (nm:=[120]) (n:=0) (at_:=3) (StrsAt.nil _ _ _ _ om_) (StrsAt.nil _ _ _ _ om_) (ShsAt.nil _ _ _ _ om_) (RecsAt.nil om_) (by simp) (by simp) om_
def iC:List Value:=[.int .i64 1,S [],S [],.int .i64 2,.slice none 0 0,.slice none 0 0,.slice none 0 0,.slice none 0 0,.int .i64 0]
theorem iC_ok {A:Nat→Prop} {w:World}:TmC A w iC awI:=
  TmC.intro (k:=1) (of:=[]) (nm:=[]) (n:=2) (at_:=0) (StrsAt.nil _ _ _ _ om_) (StrsAt.nil _ _ _ _ om_) (ShsAt.nil _ _ _ _ om_) (RecsAt.nil om_) (by simp) (by simp) om_
def fC (b7 b9 b11:Nat):List Value:=[.int .i64 6,S [],S [],.int .i64 0,.slice (some ⟨b7,0,none⟩) 1 1,.slice none 0 0,.slice (some ⟨b9,0,none⟩) 1 1,.slice (some ⟨b11,0,none⟩) 1 1,.int .i64 0]
theorem fC_ok {w:World} {b7 b9 b11:Nat} {T7 T9 T11:TypeId} (h7:Box w b7 T7 [S [120]]) (h9:Box w b9 T9 [.int .i64 1,S [],S [],.slice none 0 0,.slice none 0 0]) (h11:Box w b11 T11 xC):TmC (fun _=>False) w (fC b7 b9 b11) awF:=
  TmC.intro (k:=6) (of:=[]) (nm:=[]) (n:=0) (at_:=0) (strs_of_box (A:=fun _=>False) [[120]] h7 (fun f=>f) (by simp) (by simp)) (StrsAt.nil _ _ _ _ om_)
    (shs_of_recs (recs_of_box (C:=ShC) [[.int .i64 1,S [],S [],.slice none 0 0,.slice none 0 0]] [.mk 1 [] [] [] []] (by simpa using h9) (fun f=>f) (by simp) rfl (fun i hi=>by match i,hi with | 0,_=>rfl) (fun i hi=>by
      match i,hi with
      | 0,_=>exact ShC.intro (k:=1) (of:=[]) (nm:=[]) (StrsAt.nil _ _ _ _ om_) (ShsAt.nil _ _ _ _ om_) (by simp) (by simp))))
    (tms_box [xC] [awX] (by simpa using h11) (fun f=>f) (by simp) rfl (fun i hi=>by match i,hi with | 0,_=>exact xC_ok)) (by simp) (by simp) om_
def cC (b:Nat):List Value:=[.int .i64 7,S [],S [],.int .i64 0,.slice none 0 0,.slice none 0 0,.slice none 0 0,.slice (some ⟨b,0,none⟩) 2 2,.int .i64 0]
theorem cC_ok {w:World} {b b7 b9 b11:Nat} {T:TypeId} (hf:TmC (fun _=>False) w (fC b7 b9 b11) awF) (h:Box w b T (fC b7 b9 b11++iC)):TmC (fun _=>False) w (cC b) awC:=
  TmC.intro (k:=7) (of:=[]) (nm:=[]) (n:=0) (at_:=0) (StrsAt.nil _ _ _ _ om_) (StrsAt.nil _ _ _ _ om_) (ShsAt.nil _ _ _ _ om_)
    (tms_box [fC b7 b9 b11,iC] [awF,awI] (by simpa using h) (fun f=>f) (by simp) rfl (fun i hi=>by
      match i,hi with
      | 0,_=>exact hf
      | 1,_=>exact iC_ok)) (by simp) (by simp) om_
theorem two_ok {w:World} {b:Nat} {T:TypeId} {xs ys:List Value} {s t:Tm} (h1:TmC (fun _=>False) w xs s) (h2:TmC (fun _=>False) w ys t) (h:Box w b T (xs++ys)):RecsAt TmC 9 (fun _=>False) w (.slice (some ⟨b,0,none⟩) 2 2) [s,t]:=
  tms_box [xs,ys] [s,t] (by simpa using h) (fun f=>f) (by simp) rfl (fun i hi=>by
    match i,hi with
    | 0,_=>exact h1
    | 1,_=>exact h2)
theorem lC_ok {w:World} {b:Nat} {T:TypeId} (h:Box w b T xC):TmC (fun _=>False) w [.int .i64 14,S [],S [120],.int .i64 0,.slice none 0 0,.slice none 0 0,.slice none 0 0,.slice (some ⟨b,0,none⟩) 1 1,.int .i64 0] awL:=
  TmC.intro (k:=14) (of:=[]) (nm:=[120]) (n:=0) (at_:=0) (StrsAt.nil _ _ _ _ om_) (StrsAt.nil _ _ _ _ om_) (ShsAt.nil _ _ _ _ om_)
    (tms_box [xC] [awX] (by simpa using h) (fun f=>f) (by simp) rfl (fun i hi=>by match i,hi with | 0,_=>exact xC_ok)) (by simp) (by simp) om_
theorem two_bs {a b:List Value} (ha:a.length=9) (hb:b.length=9):(partsOk 9 0 [(0,Value.agg a.toArray),(1,Value.agg b.toArray)] && decide ([((0:Nat),Value.agg a.toArray),(1,Value.agg b.toArray)].length=2) && decide (0<2) && decide (2 * 9≤16777216))=true:=by
  simp [partsOk,ha,hb,Value.cells]
theorem two_cells {a b:List Value}:([((0:Nat),Value.agg a.toArray),(1,Value.agg b.toArray)].map fun x=>x.2.cells.toList).flatten=a++b:=by simp [Value.cells]
set_option maxHeartbeats 4000000 in
theorem awake08 (w:World) (hT:Tabs w):Ret Tryz.prog 12 #[] w fun v w'=>v=.bool true∧Bel w w':=by
  obtain ⟨c1,c2,c3,c4,c5⟩:=aw_check;obtain ⟨d1,d2,d3,d4,d5⟩:=aw_lim;obtain ⟨s1,s2⟩:=aw_same;refine ret_of_W Tryz.func12 rfl (Nat.le_of_ble_eq_true rfl) (res1 rfl) ?_;have hB:=Gr.refl (fun _=>False) w;refine W.seq (W.region (L.val (x_as (v:=.bool _) rfl) rfl ?_));refine L.nil (thn_n (W.seq (W.region (L.val (x_build (cells:=[.int _ _,S _,S _,.int _ _,.slice _ _ _,.slice _ _ _,.slice _ _ _,.slice _ _ _,.int _ _]) ktm14_si26 rfl rfl) rfl ?_))));refine L.alloc (cs:=[Value.int .i64 0,S [],S [],Value.int .i64 0,Value.slice none 0 0,Value.slice none 0 0,Value.slice none 0 0,Value.slice none 0 0,Value.int .i64 0]) ktm14_zr26 rfl rfl (fun w1 bx1 hw hz1=>?_);have hB:=hB.carry hw;refine L.setRow ktm14_ag26 rfl rfl bx1 rfl rfl (by simp [Value.oneCell',S]) (fun wl4 bx1 hw hzl4=>?_);have hsz:=hB.size;have hB:=hB.set hw om_;refine L.nil (thn_n (W.seq (W.region (L.bs (sz:=1) (cells:=[S [120]]) Tryz.underlying22 ktm14_el9 rfl rfl rfl rfl (fun w7 bx7 hw hz7=>?_)))));have hB:=hB.carry hw;have bx1:=bx1.carry hw;refine L.val (x_build (cells:=[.int _ _,S _,S _,.slice _ _ _,.slice _ _ _]) ktm14_si45 rfl rfl) rfl ?_;refine L.bs (sz:=5) (cells:=[.int .i64 1,S [],S [],.slice none 0 0,.slice none 0 0]) Tryz.underlying23 ktm14_el45 rfl rfl rfl rfl (fun w9 bx9 hw hz9=>?_);have hB:=hB.carry hw;have bx1:=bx1.carry hw;have bx7:=bx7.carry hw;refine L.val (x_ldn (vs:=xC) ktm14_ag26 rfl rfl (bx1.row rfl)) rfl ?_;refine L.bs (sz:=9) (cells:=xC) Tryz.underlying24 ktm14_el26 rfl rfl rfl rfl (fun w11 bx11 hw hz11=>?_);have hB:=hB.carry hw;have bx1:=bx1.carry hw;have bx7:=bx7.carry hw;have bx9:=bx9.carry hw;refine L.val (x_build (cells:=[.int _ _,S _,S _,.int _ _,.slice _ _ _,.slice _ _ _,.slice _ _ _,.slice _ _ _,.int _ _]) ktm14_si26 rfl rfl) rfl ?_;refine L.alloc (cs:=[Value.int .i64 0,S [],S [],Value.int .i64 0,Value.slice none 0 0,Value.slice none 0 0,Value.slice none 0 0,Value.slice none 0 0,Value.int .i64 0]) ktm14_zr26 rfl rfl (fun w2 bx2 hw hz2=>?_);have hB:=hB.carry hw;have bx1:=bx1.carry hw;have bx7:=bx7.carry hw;have bx9:=bx9.carry hw;have bx11:=bx11.carry hw;refine L.setRow ktm14_ag26 rfl rfl bx2 rfl rfl (by simp [Value.oneCell',S]) (fun wl12 bx2 hw hzl12=>?_);have hsz:=hB.size;have hB:=hB.set hw om_;have bx1:=bx1.carryR hw om_;have bx7:=bx7.carryR hw om_;have bx9:=bx9.carryR hw om_;have bx11:=bx11.carryR hw om_;refine L.nil (thn_n (W.seq (W.region (L.val (x_ldn (vs:=fC _ _ _) ktm14_ag26 rfl rfl (bx2.row rfl)) rfl ?_))));refine L.val (x_build (cells:=[.int _ _,S _,S _,.int _ _,.slice _ _ _,.slice _ _ _,.slice _ _ _,.slice _ _ _,.int _ _]) ktm14_si26 rfl rfl) rfl ?_;refine L.bs (sz:=9) (cells:=fC _ _ _++iC) Tryz.underlying24 ktm14_el26 rfl rfl rfl rfl (fun w15 bx15 hw hz15=>?_);have hB:=hB.carry hw;have bx1:=bx1.carry hw;have bx7:=bx7.carry hw;have bx9:=bx9.carry hw;have bx11:=bx11.carry hw;have bx2:=bx2.carry hw;refine L.val (x_build (cells:=[.int _ _,S _,S _,.int _ _,.slice _ _ _,.slice _ _ _,.slice _ _ _,.slice _ _ _,.int _ _]) ktm14_si26 rfl rfl) rfl ?_;refine L.alloc (cs:=[Value.int .i64 0,S [],S [],Value.int .i64 0,Value.slice none 0 0,Value.slice none 0 0,Value.slice none 0 0,Value.slice none 0 0,Value.int .i64 0]) ktm14_zr26 rfl rfl (fun w3 bx3 hw hz3=>?_);have hB:=hB.carry hw;have bx1:=bx1.carry hw;have bx7:=bx7.carry hw;have bx9:=bx9.carry hw;have bx11:=bx11.carry hw;have bx2:=bx2.carry hw;have bx15:=bx15.carry hw;refine L.setRow ktm14_ag26 rfl rfl bx3 rfl rfl (by simp [Value.oneCell',S]) (fun wl18 bx3 hw hzl18=>?_);have hsz:=hB.size;have hB:=hB.set hw om_;have bx1:=bx1.carryR hw om_;have bx7:=bx7.carryR hw om_;have bx9:=bx9.carryR hw om_;have bx11:=bx11.carryR hw om_;have bx2:=bx2.carryR hw om_;have bx15:=bx15.carryR hw om_;refine L.nil (thn_n (W.seq (W.region ?_)));have hf:=fC_ok bx7 bx9 bx11;have hc:=cC_ok hf bx15;refine L.val (x_ldn (vs:=cC _) ktm14_ag26 rfl rfl (bx3.row rfl)) rfl ?_;refine L.ret (x_call ktm14_en16 rfl) rfl (Show_tm (fun _=>False) awC _ _ hc (hT.carry hB) d1 d2) ?_;rintro _ w19 ⟨rfl,hw⟩;have hB:=hB.carry hw;have bx1:=bx1.carry hw;have bx2:=bx2.carry hw;have bx3:=bx3.carry hw;have hf:=hf.carry hw;have hc:=hc.carry hw;rw [c1,if_pos rfl,aw_text];refine L.val (x_mv (v:=_) rfl) rfl ?_;refine L.val (x_ext (v:=S _) rfl rfl) rfl ?_;refine L.val (x_ext (v:=.int _ _) rfl rfl) rfl ?_;refine L.val (x_as (v:=S _) rfl) rfl ?_;refine L.val (x_as (v:=.int _ _) rfl) rfl ?_;refine L.nil (thn_n (W.seq (W.drawF 33 ktm14_mixed (fun wF22 hB0=>?_))));refine LAC.takeN (i:=0) rfl kr_ kr_ kr_ kr_ (fun w hw=>x_mv (v:=S _) rfl) rfl ?_;refine LAC.takeN (i:=1) rfl kr_ kr_ kr_ kr_ (fun w hw=>x_eqs rfl rfl) rfl ?_;refine LAC.takeN (i:=2) rfl kr_ kr_ kr_ kr_ (fun w hw=>x_mv (v:=.bool _) rfl) rfl ?_;refine LAC.split (dj:=24) (b:=_) rfl (fun g24=>?_) (fun g24=>?_)
  ·have h24:=seq_t g24;refine LAC.takeG (i:=3) rfl kr_ kr_ kr_ kr_ (dj:=24) (b:=_) rfl rfl g24 (fun w hw=>x_mv (v:=.int _ _) rfl) rfl ?_;refine LAC.takeG (i:=4) rfl kr_ kr_ kr_ kr_ (dj:=24) (b:=_) rfl rfl g24 (fun w hw=>x_eql rfl rfl) rfl ?_;refine LAC.takeN (i:=5) rfl kr_ kr_ kr_ kr_ (fun w hw=>x_pick_t (v:=.bool _) (congrArg Value.bool g24) rfl) rfl ?_;refine LAC.takeN (i:=6) rfl kr_ kr_ kr_ kr_ (fun w hw=>x_mv (v:=.bool _) rfl) rfl ?_;refine LAC.split (dj:=28) (b:=_) rfl (fun g28=>?_) (fun g28=>?_)
   ·have h28:=of_decide_eq_true g28;refine LAC.takeG (i:=7) rfl kr_ kr_ kr_ kr_ (dj:=28) (b:=_) rfl rfl g28 (fun w hw=>x_ldn (vs:=cC _) ktm14_ag26 rfl rfl (hw.keepRow rfl (bx3.row rfl))) rfl ?_;refine LAC.step (rs:=[8]) (fun _=>hB0) kr_ (by simp) ⟨⟨_,rfl,?_⟩,trivial⟩;refine L.gyes' (dj:=28) (b:=_) rfl rfl g28 ?_;refine L.ret (x_call ktm14_en10 rfl) rfl (tsize_ok (fun _=>False) awC _ _ (hc.carry hB0)) ?_;rintro _ w30 ⟨rfl,hw⟩;have hB0:=hB0.carry hw;refine L.nil (thn_n (LAC.takeG (i:=9) rfl kr_ kr_ kr_ kr_ (dj:=28) (b:=_) rfl rfl g28 (fun w hw=>x_eql rfl rfl) rfl ?_));refine LAC.takeN (i:=10) rfl kr_ kr_ kr_ kr_ (fun w hw=>x_pick_t (v:=.bool _) (congrArg Value.bool g28) rfl) rfl ?_;refine LAC.takeN (i:=11) rfl kr_ kr_ kr_ kr_ (fun w hw=>x_mv (v:=.bool _) rfl) rfl ?_;refine LAC.split (dj:=33) (b:=_) rfl (fun g33=>?_) (fun g33=>?_)
    ·have h33:=of_decide_eq_true g33;refine LAC.takeG (i:=12) rfl kr_ kr_ kr_ kr_ (dj:=33) (b:=_) rfl rfl g33 (fun w hw=>x_ldn (vs:=cC _) ktm14_ag26 rfl rfl (hw.keepRow rfl (bx3.row rfl))) rfl ?_;refine LAC.takeG (i:=13) rfl kr_ kr_ kr_ kr_ (dj:=33) (b:=_) rfl rfl g33 (fun w hw=>x_ldn (vs:=cC _) ktm14_ag26 rfl rfl (hw.keepRow rfl (bx3.row rfl))) rfl ?_;refine LAC.step (rs:=[14]) (fun _=>hB0) kr_ (by simp) ⟨⟨_,rfl,?_⟩,trivial⟩;refine L.gyes' (dj:=33) (b:=_) rfl rfl g33 ?_;refine L.ret (x_call ktm14_en15 rfl) rfl (Bare_tm (fun _=>False) awC _ _ (hc.carry hB0) ((hT.carry hB).carry hB0) d1 c1) ?_;rintro _ w36 ⟨⟨cs36,rfl,h36⟩,hw⟩;have hB0:=hB0.carry hw;have h36:=h36.up;refine L.nil (thn_n (LAC.step (rs:=[15]) (fun _=>hB0) kr_ (by simp) ⟨⟨_,rfl,?_⟩,trivial⟩));refine L.gyes' (dj:=33) (b:=_) rfl rfl g33 ?_;refine L.bs (sz:=9) (cells:=cC _++cs36) Tryz.underlying24 ktm14_el26 rfl (two_bs rfl h36.len) two_cells rfl (fun w37 bx37 hw hz37=>?_);have hB0:=hB0.carry hw;have h36:=h36.carry hw;refine L.nil (thn_n (LAC.step (rs:=[16]) (fun _=>hB0) kr_ (by simp) ⟨⟨_,rfl,?_⟩,trivial⟩));refine L.gyes' (dj:=33) (b:=_) rfl rfl g33 ?_;refine L.ret (x_call ktm14_en13 rfl) rfl (same_tm _ _ [awC,awC.bare] _ (two_ok (hc.carry hB0) (h36.mono fun _ _ h=>h.elim) bx37) ((hT.carry hB).carry hB0) (fun i hi=>by match i,hi with | 0,_=>exact d1 | 1,_=>exact d4)) ?_;rintro _ w38 ⟨rfl,hw⟩;have hB0:=hB0.carry hw;have h36:=h36.carry hw;have bx37:=bx37.carry hw;refine L.nil (thn_n (LAC.takeN (i:=17) rfl kr_ kr_ kr_ kr_ (fun w hw=>x_pick_t (v:=.bool _) (congrArg Value.bool g33) rfl) rfl ?_));refine LAC.takeN (i:=18) rfl kr_ kr_ kr_ kr_ (fun w hw=>x_mv (v:=.bool _) rfl) rfl ?_;refine LAC.split (dj:=40) (b:=_) rfl (fun g40=>?_) (fun g40=>?_)
     ·have h40:=g40;refine LAC.takeG (i:=19) rfl kr_ kr_ kr_ kr_ (dj:=40) (b:=_) rfl rfl g40 (fun w hw=>x_ldn (vs:=cC _) ktm14_ag26 rfl rfl (hw.keepRow rfl (bx3.row rfl))) rfl ?_;refine LAC.takeG (i:=20) rfl kr_ kr_ kr_ kr_ (dj:=40) (b:=_) rfl rfl g40 (fun w hw=>x_ldn (vs:=fC _ _ _) ktm14_ag26 rfl rfl (hw.keepRow rfl (bx2.row rfl))) rfl ?_;refine LAC.step (rs:=[21]) (fun _=>hB0) kr_ (by simp) ⟨⟨_,rfl,?_⟩,trivial⟩;refine L.gyes' (dj:=40) (b:=_) rfl rfl g40 ?_;refine L.bs (sz:=9) (cells:=cC _++fC _ _ _) Tryz.underlying24 ktm14_el26 rfl rfl rfl rfl (fun w43 bx43 hw hz43=>?_);have hB0:=hB0.carry hw;have h36:=h36.carry hw;have bx37:=bx37.carry hw;refine L.nil (thn_n (LAC.step (rs:=[22]) (fun _=>hB0) kr_ (by simp) ⟨⟨_,rfl,?_⟩,trivial⟩));refine L.gyes' (dj:=40) (b:=_) rfl rfl g40 ?_;refine L.ret (x_call ktm14_en13 rfl) rfl (same_tm _ _ [awC,awF] _ (two_ok (hc.carry hB0) (hf.carry hB0) bx43) ((hT.carry hB).carry hB0) (fun i hi=>by match i,hi with | 0,_=>exact d1 | 1,_=>exact d3)) ?_;rintro _ w44 ⟨rfl,hw⟩;have hB0:=hB0.carry hw;have h36:=h36.carry hw;have bx37:=bx37.carry hw;have bx43:=bx43.carry hw;refine L.nil (thn_n (LAC.takeG (i:=23) rfl kr_ kr_ kr_ kr_ (dj:=40) (b:=_) rfl rfl g40 (fun w hw=>x_not rfl) rfl ?_));refine LAC.takeN (i:=24) rfl kr_ kr_ kr_ kr_ (fun w hw=>x_pick_t (v:=.bool _) (congrArg Value.bool g40) rfl) rfl ?_;refine LAC.takeN (i:=25) rfl kr_ kr_ kr_ kr_ (fun w hw=>x_mv (v:=.bool _) rfl) rfl ?_;refine LAC.split (dj:=47) (b:=_) rfl (fun g47=>?_) (fun g47=>?_)
      ·have h47:=(not_t g47);refine LAC.takeG (i:=26) rfl kr_ kr_ kr_ kr_ (dj:=47) (b:=_) rfl rfl g47 (fun w hw=>x_ldn (vs:=xC) ktm14_ag26 rfl rfl (hw.keepRow rfl (bx1.row rfl))) rfl ?_;refine LAC.step (rs:=[27]) (fun _=>hB0) kr_ (by simp) ⟨⟨_,rfl,?_⟩,trivial⟩;refine L.gyes' (dj:=47) (b:=_) rfl rfl g47 ?_;refine L.bs (sz:=9) (cells:=xC) Tryz.underlying24 ktm14_el26 rfl rfl rfl rfl (fun w49 bx49 hw hz49=>?_);have hB0:=hB0.carry hw;have h36:=h36.carry hw;have bx37:=bx37.carry hw;have bx43:=bx43.carry hw;refine L.nil (thn_n (LAC.takeG (i:=28) rfl kr_ kr_ kr_ kr_ (dj:=47) (b:=_) rfl rfl g47 (fun w hw=>x_build (cells:=[.int _ _,S _,S _,.int _ _,.slice _ _ _,.slice _ _ _,.slice _ _ _,.slice _ _ _,.int _ _]) ktm14_si26 rfl rfl) rfl ?_));refine LAC.step (rs:=[29]) (fun _=>hB0) kr_ (by simp) ⟨⟨_,rfl,?_⟩,trivial⟩;refine L.gyes' (dj:=47) (b:=_) rfl rfl g47 ?_;refine L.ret (x_call ktm14_en8 rfl) rfl (check_tm (fun _=>False) awL _ _ (lC_ok bx49) ((hT.carry hB).carry hB0) d5) ?_;rintro _ w51 ⟨rfl,hw⟩;have hB0:=hB0.carry hw;have h36:=h36.carry hw;have bx37:=bx37.carry hw;have bx43:=bx43.carry hw;have bx49:=bx49.carry hw;refine L.nil (thn_n (LAC.takeG (i:=30) rfl kr_ kr_ kr_ kr_ (dj:=47) (b:=_) rfl rfl g47 (fun w hw=>x_eql rfl rfl) rfl ?_));refine LAC.takeN (i:=31) rfl kr_ kr_ kr_ kr_ (fun w hw=>x_pick_t (v:=.bool _) (congrArg Value.bool g47) rfl) rfl ?_;refine LAC.takeN (i:=32) rfl kr_ kr_ kr_ kr_ (fun w hw=>x_as (v:=.bool _) rfl) rfl ?_;refine LAC.doneF kr_ hB0 ?_;have hB:=hB.carry hB0;have bx1:=bx1.carry hB0;have bx2:=bx2.carry hB0;have bx3:=bx3.carry hB0;have hf:=hf.carry hB0;have hc:=hc.carry hB0;refine thn_n (W.ret (fin_mk (.inr rfl) ?_));exact ⟨vb (by rw [c4];rfl),hB⟩
      ·have h47:=(not_f g47);rw [s2] at g47;simp at g47
     ·have h40:=g40;rw [s1] at g40;cases g40
    ·have h33:=of_decide_eq_false g33;rw [c5] at h33;exact absurd (by rfl) h33
   ·have h28:=of_decide_eq_false g28;simp at g28
  ·have h24:=seq_f g24;simp at g24
end Go.Gx
namespace Go.Gx
open Go.Proofs
def Tm.key (both:Bool) (t:Tm):Tm:=if both then t else t.bare
end Go.Gx
