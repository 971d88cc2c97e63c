/- The proof's parts ahead of the row: of no condition of their own. -/
import Derived.Test.YtgeonpciodepgaaZFnEarAhead0
set_option linter.unusedVariables false
set_option linter.unusedSimpArgs false
namespace Go.Proofs.Ytgeonpciodepgaa.P
set_option maxHeartbeats 8000000
set_option maxRecDepth 100000
open Go.RowKit Go.Proofs.YtgeonpciodepgaaW.PrintWords Go.Proofs.YtgeonpciodepgaaW.PrintLast Go.Proofs.YtgeonpciodepgaaW.PrintMore Go.Proofs.YtgeonpciodepgaaW.PrintWords.Kd
attribute [local go_sem] zc_ zdb zdK zdG zcK zcL zdc zda
theorem zn4 {p:Prop}(h:p:=by exact G.bw af.out):p:=h
theorem znB {p:Prop}(h:p:=by exact G.bw ac.out):p:=h
theorem zqO {p:Prop}(h:p:=by(try simp only[List.map_toArray,List.map_cons,List.map_nil]);first|done|(simp only[aJ];rfl)|rfl|(simp only[List.length_drop,List.length_take];rfl)):p:=h
theorem znX {p:Prop}(h:p:=by rw[hg];exact Nat.ne_of_lt (zbg (g:=ah) (o:=.cells #[.int .i64 ag,.slice (some aj) aa.length az] 31 (0,0)) (G.cb ac.out))):p:=h
theorem znI {p:Prop}(h:p:=by rw[hg];exact Nat.ne_of_gt (zbg (g:=ah) (o:=.cells #[.int .i64 ag,.slice (some aj) aa.length az] 31 (0,0)) (G.cb ac.out))):p:=h
theorem zpH {p:Prop}(h:p:=by rw[hg];exact Nat.ne_of_lt (zbg (g:=aq) (o:=.cells #[.int .i64 ag,.int .i64 aI] 59 (0,0)) (G.cb au.out))):p:=h
theorem zpr {p:Prop}(h:p:=by rw[hg];exact Nat.ne_of_gt (zbg (g:=aq) (o:=.cells #[.int .i64 ag,.int .i64 aI] 59 (0,0)) (G.cb au.out))):p:=h
theorem zmI {p:Prop}(h:p:=by first|rfl|(simp[za1,za2]<;>rfl)|(simp[*,za1,za2]<;>rfl)):p:=h
theorem zmX {p:Prop}(h:p:=by first|rfl|(simp;done)|(simp[*];done)):p:=h
theorem zfF {p:Prop}(h:p:=by rw[hg];exact(zai (G.cB HB.out))):p:=h
theorem zl9 {p:Prop}(h:p:=by kernel_rfl):p:=h
def zbR.f (a0:Int) (a1:Int) (a2:Int):Option (Bool):=if a0>=a1 then(some (decide (a0<=a2))) else(some false)
theorem zbR.calls (a0:Int) (a1:Int) (a2:Int) (r:Bool) (w:World) (h:zbR.f a0 a1 a2=some r):
  Calls Try.prog 75 #[.int .i64 a0,.int .i64 a1,.int .i64 a2] w fun e w'=>e=.returned (.bool r)/\za_ w w':=by
 unfold zbR.f at h;have H:=h;clear h
 by_cases c4:a0>=a1
 ·rw[if_pos c4]at H;have bG:=decide_eq_true c4;clear c4;obtain rfl:=Option.some.inj H
  go_enter Try.func75,Try.ntmps75
  go_wp2
  go_ret
  exact⟨zmX,by repeat(first|exact za_.refl _|apply za_.step)⟩
 ·rw[if_neg c4]at H;have bG:=decide_eq_false c4;clear c4;obtain rfl:=Option.some.inj H
  go_enter Try.func75,Try.ntmps75
  go_wp2
  go_ret
  exact⟨zmX,by repeat(first|exact za_.refl _|apply za_.step)⟩
def zb7.f (ag:Int) (aI:Int) (ax:Int) (aM:Int):Option (Bool):=if ag<ax then(some true) else(if ag=ax then(some (decide (aI<aM))) else(some false))
theorem zb7.calls (ag:Int) (aI:Int) (ax:Int) (aM:Int) (r:Bool) (w:World) (h:zb7.f ag aI ax aM=some r):
  Calls Try.prog 76 #[.agg #[.int .i64 ag,.int .i64 aI],.agg #[.int .i64 ax,.int .i64 aM]] w fun e w'=>e=.returned (.bool r)/\Below w.heap.size w w':=by
 have bH:=Try.underlying59;have HB:=G.m (Below.refl w.heap.size w);unfold zb7.f at h;have H:=h;clear h
 by_cases c3:ag<ax
 ·rw[if_pos c3]at H;have bI:=decide_eq_true c3;clear c3;obtain rfl:=Option.some.inj H
  go_enter Try.func76,Try.ntmps76
  go_wp2_with (first|((with_reducible refine G.h 2 rfl ?_);refine G.be 2 #[.int .i64 ag,.int .i64 aI] 59 ?_;intro aq hg w4 hbox hb;have au:=G.m (hbox);have bd:=G.m (zfF:w.heap.size<=aq);have bf:=G.m (zfF:w.heap.size<=aq);replace HB:=G.bs HB hb;clear hb hbox hg)|((with_reducible refine G.h 3 rfl ?_);refine G.be 3 #[.int .i64 ax,.int .i64 aM] 59 ?_;intro ay hg w5 hbox hb;have aQ:=G.m (hbox);have bh:=G.m (zfF:w.heap.size<=ay);have bj:=G.m (zfF:w.heap.size<=ay);replace HB:=G.bs HB hb;have aF:=G.m (zpH:aq≠ay);have aG:=G.m (zpr:ay≠aq);replace au:=G.bb au hb;clear hb hbox hg;have dC:=aF.out;have dD:=aG.out;have⟨bv,bw,bx,bz⟩:=G.d2 (w:=w5) au;have⟨cO,cP,cQ,cS⟩:=G.d2 (w:=w5) aQ))
  go_ret
  exact⟨zmI,G.cB HB.out⟩
 ·rw[if_neg c3]at H;have bI:=decide_eq_false c3;clear c3
  by_cases c9:ag=ax
  ·rw[if_pos c9]at H;have ba:=beq_iff_eq.mpr c9;have bJ:=bne_eq_false_iff_eq.mpr c9;clear c9;obtain rfl:=Option.some.inj H
   go_enter Try.func76,Try.ntmps76
   go_wp2_with (first|((with_reducible refine G.h 2 rfl ?_);refine G.be 2 #[.int .i64 ag,.int .i64 aI] 59 ?_;intro aq hg dF hbox hb;have au:=G.m (hbox);have bd:=G.m (zfF:w.heap.size<=aq);have bf:=G.m (zfF:w.heap.size<=aq);replace HB:=G.bs HB hb;clear hb hbox hg)|((with_reducible refine G.h 3 rfl ?_);refine G.be 3 #[.int .i64 ax,.int .i64 aM] 59 ?_;intro ay hg bD hbox hb;have aQ:=G.m (hbox);have bh:=G.m (zfF:w.heap.size<=ay);have bj:=G.m (zfF:w.heap.size<=ay);replace HB:=G.bs HB hb;have aF:=G.m (zpH:aq≠ay);have aG:=G.m (zpr:ay≠aq);replace au:=G.bb au hb;clear hb hbox hg;have df:=aF.out;have dg:=aG.out;have⟨bK,bL,bM,bN⟩:=G.d2 (w:=bD) au;have⟨bO,bP,bQ,bR⟩:=G.d2 (w:=bD) aQ))
   go_ret
   exact⟨zmI,G.cB HB.out⟩
  ·rw[if_neg c9]at H;have ba:=beq_eq_false_iff_ne.mpr c9;have bJ:=bne_iff_ne.mpr c9;obtain rfl:=Option.some.inj H
   go_enter Try.func76,Try.ntmps76
   go_wp2_with (first|((with_reducible refine G.h 2 rfl ?_);refine G.be 2 #[.int .i64 ag,.int .i64 aI] 59 ?_;intro aq hg dG hbox hb;have au:=G.m (hbox);have bd:=G.m (zfF:w.heap.size<=aq);have bf:=G.m (zfF:w.heap.size<=aq);replace HB:=G.bs HB hb;clear hb hbox hg)|((with_reducible refine G.h 3 rfl ?_);refine G.be 3 #[.int .i64 ax,.int .i64 aM] 59 ?_;intro ay hg bE hbox hb;have aQ:=G.m (hbox);have bh:=G.m (zfF:w.heap.size<=ay);have bj:=G.m (zfF:w.heap.size<=ay);replace HB:=G.bs HB hb;have aF:=G.m (zpH:aq≠ay);have aG:=G.m (zpr:ay≠aq);replace au:=G.bb au hb;clear hb hbox hg;have dh:=aF.out;have di:=aG.out;have⟨bS,bT,bU,bV⟩:=G.d2 (w:=bE) au;have⟨bW,bX,bY,bZ⟩:=G.d2 (w:=bE) aQ))
   go_ret
   exact⟨zmI,G.cB HB.out⟩
mutual
def zaE.j0:Nat->Bool->Int->List (S59)->Option (Bool)
 |0,_,_,_=>none
 |k+1,cT,aH,ao=>if cT=true then(some false) else(zaE.l0 k 0 aH ao)
def zaE.l0:Nat->Int->Int->List (S59)->Option (Bool)
 |0,_,_,_=>none
 |k+1,x3,aH,ao=>if x3<(ao.length:Int) then(if 0<=x3 then((zbR.f ((zac ao x3).f0) 0 (wrap64 (aH - 1))).bind fun aY=>(if aY=true then((zbR.f ((zac ao x3).f1) (wrap64 (((zac ao x3).f0)+1)) (wrap64 (aH - 1))).bind fun aN=>(if aN=true then(if x3>0 then(if 0<=(wrap64 (x3 - 1)) then(if(wrap64 (x3 - 1))<(ao.length:Int) then((zb7.f ((zac ao (wrap64 (x3 - 1))).f0) ((zac ao (wrap64 (x3 - 1))).f1) ((zac ao x3).f0) ((zac ao x3).f1)).bind fun aE=>(if aE=true then(zaE.l0 k (wrap64 (x3+1)) aH ao) else(some false))) else(none)) else(none)) else(zaE.l0 k (wrap64 (x3+1)) aH ao)) else(some false))) else(some false))) else(none)) else(some true)
end
def zaE.f (k:Nat) (ag:Int) (aa:List (S59)):Option (Bool):=(zbR.f ag 0 8).bind fun aR=>(if aR=true then(zaE.j0 k (decide ((aa.length:Int)>64)) ag aa) else(zaE.j0 k true ag aa))
def zaE.T7:Bool×List (List Nat×List Nat):=(true,[([],[]),([0],[0]),([],[]),([2],[2]),([3],[3]),([1,4],[1,4]),([5],[5]),([6,5],[6]),([7],[7]),([8,7],[7,8]),([7],[7]),([10,7],[7,10]),([11,7],[7,11]),([7],[7]),([13,7],[7,13]),([14,7],[7,14]),([9,12,15,7,7],[7,9,12,15]),([16,7],[7,16]),([7,17],[7,17]),([18,16],[18]),([19],[19]),([20,19],[19,20]),([21,19,19],[19,21]),([22],[22]),([23,22],[22,23]),([22],[22]),([25,22],[22,25]),([24,26,22],[22,24,26]),([27,22],[22,27]),([22],[22]),([28,29,22,22],[22,28,29]),([30,22],[22,30]),([22,31,19],[19,22,31]),([19,32],[19,32])])
def zaE.B7:List Nat:=[0,1,0,4,12,31,63,127,255,511,255,1279,3327,255,8447,24831,65535,131071,262143,524287,1048575,2097151,4194303,8388607,16777215,8388607,41943039,134217727,268435455,8388607,1073741823,2147483647,4294967295,8589934591]
theorem zaE.zgL:zc0 .any (opsOf Try.f32 7)=zaE.T7:=by kernel_rfl
theorem zaE.zdU:zby zaE.T7.2 zaE.B7=true:=by kernel_rfl
theorem zaE.calls (k:Nat) (ag:Int) (aV:Option Addr) (az:Nat) (aa:List (S59)) (r:Bool) (w:World) (bk:Kd.C k59 w aV aa.length aa) (bl:aa.length<=az) (h:zaE.f k ag aa=some r):
  Calls Try.prog 32 #[.agg #[.int .i64 ag,.slice aV aa.length az]] w fun e w'=>e=.returned (.bool r)/\Below w.heap.size w w':=by
 have dE:=Try.underlying31;have bH:=Try.underlying59;have aK:=G.m bk;have dj:=G.m bl;clear bk bl;have HB:=G.m (Below.refl w.heap.size w);unfold zaE.f at h;have H:=h;clear h;have bA:=G.m H;clear H
 go_enter Try.func32,Try.ntmps32
 go_upto_region 1 with(first|((with_reducible refine G.h 1 rfl ?_);(try(refine za6 (by rfl) ?_;dsimp only));refine G.be 1 #[.int .i64 ag,.slice aV aa.length az] 31 ?_;intro ah hg w3 hbox hb;have ac:=G.m (hbox);have dk:=G.m (zfF:w.heap.size<=ah);have dl:=G.m (zfF:w.heap.size<=ah);replace HB:=G.bs HB hb;clear hb hbox hg))
 (try simp only[Act.put,List.setIfInBounds_toArray,List.set_cons_zero,List.set_cons_succ])
 go_cut [14] (fun cU wc=>∃ (kq:Nat) (aS:Bool),cU=.bool aS/\zaa (zaE.j0 kq aS ag aa=some r)/\zaa (kq<=k)/\zaa (wc.heap[ah]? =some (.cells #[.int .i64 ag,(.slice aV aa.length az)] 31 (0,0)))/\zaa (Below w.heap.size w wc))
 case first=>
  have H:=bA.out;clear bA;obtain⟨aR,A4,H⟩:=G.bi H;(try dsimp only at H)
  rcases G.bc H with⟨h_,H_⟩|⟨h_,H_⟩<;> (subst h_;clear H;have H:=H_;clear H_)
  ·have H':=G.m H;clear H;have⟨cW,cX,cY,cZ⟩:=G.d2 (w:=w3) ac
   go_wp2_with (first|((with_reducible refine G.f 75 rfl ?_);refine G.gL 7 Try.func75 #[.int .i64 ag,.int .i64 0,.int .i64 8] ?_;(with_reducible refine(zbR.calls ag 0 8 true _ A4.out).mono ?_);rintro e w' ⟨rfl,⟨nd,rfl⟩⟩;refine⟨_,rfl,?_⟩))
   go_meet
   case rel=>exact⟨_,(decide ((aa.length:Int)>64)),(zmX),H',⟨by first|omega|exact Nat.le_refl _⟩,⟨G.cb ac.out⟩,⟨G.cB HB.out⟩⟩
  ·have H':=G.m H;clear H;have⟨bv,bw,bx,bz⟩:=G.d2 (w:=w3) ac
   go_wp2_with (first|((with_reducible refine G.f 75 rfl ?_);refine G.gL 7 Try.func75 #[.int .i64 ag,.int .i64 0,.int .i64 8] ?_;(with_reducible refine(zbR.calls ag 0 8 false _ A4.out).mono ?_);rintro e w' ⟨rfl,⟨nd,rfl⟩⟩;refine⟨_,rfl,?_⟩))
   go_meet
   case rel=>exact⟨_,(true),(zmX),H',⟨by first|omega|exact Nat.le_refl _⟩,⟨G.cb ac.out⟩,⟨G.cB HB.out⟩⟩
 case rest=>
  clear bA;obtain⟨kq,aS,rfl,HA,bm,ac,HB⟩:=hcut;cases kq with
  |zero=>exact absurd HA.out (by simp[zaE.j0])
  |succ bB=>
   have H:=HA.out;clear HA;simp only[zaE.j0]at H
   rcases G.bc H with⟨h_,H_⟩|⟨h_,H_⟩<;> (subst h_;clear H;have H:=H_;clear H_)
   ·obtain rfl:=Option.some.inj H
    go_wp2
    go_ret
    exact⟨zmI,G.cB HB.out⟩
   ·have H':=G.m H;clear H
    go_wp2
    go_loopg [3] bB (fun kq v3 w'=>∃ (ab:Int),v3=.int .i64 ab/\zaa (zaE.l0 kq ab ag aa=some r)/\zaa (kq<=bB)/\zaa (w'.heap[ah]? =some (.cells #[.int .i64 ag,(.slice aV aa.length az)] 31 (0,0)))/\zaa (Below w.heap.size w w'))
    case atStart=>exact⟨(0),(zmX),H',⟨Nat.le_refl _⟩,⟨G.cb ac.out⟩,⟨G.cB HB.out⟩⟩
    case round=>
     clear H';(try clear c8);obtain⟨ab,rfl,HA,bn,ac,HB⟩:=hrel;cases gk with
     |zero=>exact absurd HA.out (by simp[zaE.l0])
     |succ k2=>
      have H:=HA.out;clear HA;simp only[zaE.l0]at H
      by_cases c9:ab<(aa.length:Int)
      ·rw[if_pos c9]at H;have ba:=decide_eq_true c9;clear c9
       obtain⟨dn,H⟩:=G.dp H;obtain⟨aY,aW,H⟩:=G.bi H;(try dsimp only at H)
       rcases G.bc H with⟨h_,H_⟩|⟨h_,H_⟩<;> (subst h_;clear H;have H:=H_;clear H_)
       ·obtain⟨aN,a5,H⟩:=G.bi H;(try dsimp only at H)
        rcases G.bc H with⟨h_,H_⟩|⟨h_,H_⟩<;> (subst h_;clear H;have H:=H_;clear H_)
        ·skip
         by_cases aX:ab>0
         ·rw[if_pos aX]at H;have bC:=decide_eq_true aX;clear aX;obtain⟨ai,aJ⟩:∃j_:Int,(wrap64 (ab - 1))=j_:=⟨_,rfl⟩;replace H:(if 0<=(ai) then(if(ai)<(aa.length:Int) then((zb7.f ((zac aa (ai)).f0) ((zac aa (ai)).f1) ((zac aa ab).f0) ((zac aa ab).f1)).bind fun aE=>(if aE=true then(zaE.l0 k2 (wrap64 (ab+1)) ag aa) else(some false))) else(none)) else(none))=some r:=by first|(rw[aJ]at H;exact H)|(simp only[aJ]at H⊢;exact H)
          (try rw[aJ]at aW);(try rw[aJ]at a5);have c_:(IntKind.i64.wrap (ab - 1))=ai:=(zb4 _).trans aJ
          obtain⟨dp,H⟩:=G.dp H
          obtain⟨dq,H⟩:=G.dp H;obtain⟨aE,bF,H⟩:=G.bi H;(try dsimp only at H)
          rcases G.bc H with⟨h_,H_⟩|⟨h_,H_⟩<;> (subst h_;clear H;have H:=H_;clear H_)
          ·have H':=G.m H;clear H;have⟨b1,b2,b3,b4⟩:=G.d2 (w:=wr) ac;have av:0<=(ab:Int):=G.da;have aw:ab<(aa.length:Int):=G.da;obtain⟨aj,aL,al,am⟩:=zbJ aK.out ab av aw;cases aL;replace al:=G.hx HB al;replace am:=G.hx HB am;replace av:=eq_true av;replace aw:=eq_true aw;try go_wp2_with (first|((with_reducible refine G.h 4 rfl ?_);(try(refine za6 (by rfl) ?_;dsimp only));refine G.be 4 #[.int .i64 0,.int .i64 0] 59 ?_;intro ae hg a6 hbox hb;have af:=G.m (hbox);have aT:=G.m (zfF:w.heap.size<=ae);have aU:=G.m (zfF:w.heap.size<=ae);replace HB:=G.bs HB hb;have ak:=G.m (znX:ah≠ae);have ap:=G.m (znI:ae≠ah);replace ac:=G.bb ac hb;clear hb hbox hg;have dr:=ap.out;have dt:=ak.out;have⟨b5,b6,b7,b8⟩:=G.d2 (w:=a6) af))
           have n0:zaa (((a6.setCell ⟨ae,0,none⟩ (.int .i64 ((zac aa ab).f0))).setCell ⟨ae,1,none⟩ (.int .i64 ((zac aa ab).f1))).heap[ah]? =some (.cells #[.int .i64 ag,.slice (some aj) aa.length az] 31 (0,0))):=⟨znB⟩;have n1:zaa (((a6.setCell ⟨ae,0,none⟩ (.int .i64 ((zac aa ab).f0))).setCell ⟨ae,1,none⟩ (.int .i64 ((zac aa ab).f1))).heap[ae]? =some (.cells #[.int .i64 ((zac aa ab).f0),.int .i64 ((zac aa ab).f1)] 59 (0,0))):=⟨zn4⟩;have n2:zaa (Below w.heap.size w ((a6.setCell ⟨ae,0,none⟩ (.int .i64 ((zac aa ab).f0))).setCell ⟨ae,1,none⟩ (.int .i64 ((zac aa ab).f1)))):=⟨G.cB HB.out⟩;(try clear ac af HB);generalize((a6.setCell ⟨ae,0,none⟩ (.int .i64 ((zac aa ab).f0))).setCell ⟨ae,1,none⟩ (.int .i64 ((zac aa ab).f1)))=da at n0 n1 n2⊢;revert n0 n1 n2;intro ac af HB;replace ac:=G.m (zan ac.out);replace af:=G.m (zan af.out);replace HB:=G.m (zas HB.out);have aO:0<=((ai):Int):=G.da;have aP:(ai)<(aa.length:Int):=G.da;obtain⟨aZ,bc,aA,aB⟩:=zbJ aK.out (ai) aO aP;have aC:=aB;have aD:=aA;obtain rfl:aj=aZ:=(by injection bc);replace aA:=G.hx HB aA;replace aB:=G.hx HB aB;replace aO:=eq_true aO;replace aP:=eq_true aP;refine G.st 34 (S:=fun w'=>w'.cell? ⟨ae,0,none⟩=some (.int .i64 ((zac aa ab).f0))/\w'.cell? ⟨ae,1,none⟩=some (.int .i64 ((zac aa ab).f1))/\w'.cell? ⟨ah,0,none⟩=some (.int .i64 ag)/\w'.cell? ⟨ah,1,none⟩=some (.slice (some aj) aa.length az)/\w'.cell? (aj.add (((ai)).toNat*2))=some (.int .i64 ((zac aa (ai)).f0))/\w'.cell? ⟨(aj.add (((ai)).toNat*2)).block,(aj.add (((ai)).toNat*2)).off+1,none⟩=some (.int .i64 ((zac aa (ai)).f1))) [] ⟨G.z af 0,G.z af 1,G.z ac 0,G.z ac 1,(G.hx HB aD),(G.hx HB aC)⟩ zaE.zgL zaE.zdU (fun hHeld HT_ HW_=>?_);generalize da.drew=dH at ac af HB aA aB hHeld⊢;refine G.pu 0 27 1 ?_;refine G.pu 2 29 5 ?_;refine G.ta6 1 28 7 ?_;refine G.ta6 3 30 15 ?_;refine G.pu 4 31 31 ?_;refine G.on 5 32 63 (fun K hK=>?_);refine G.gs Try.func75 #[.int .i64 ((zac aa ab).f0),.int .i64 0,.int .i64 (wrap64 (ag - 1))] ?_;with_reducible refine(zbR.calls ((zac aa ab).f0) 0 (wrap64 (ag - 1)) true _ aW.out).mono ?_
           rintro e w' ⟨rfl,⟨nd,rfl⟩⟩;refine⟨_,rfl,?_⟩;refine hK.out _ _ ⟨G.z af 0,G.z af 1,G.z ac 0,G.z ac 1,(G.hx HB aD),(G.hx HB aC)⟩ (fun hHeld=>?_);clear hK K;refine G.no 32 ?_;refine G.pu 6 33 127 ?_;refine G.pu 7 34 255 ?_;refine G.pu 8 35 511 ?_;refine G.pu 10 37 1535 ?_;refine G.pu 13 40 9727 ?_;refine G.ta6 9 36 10239 ?_;refine G.ta6 11 38 12287 ?_;refine G.pu 12 39 16383 ?_;refine G.ta6 14 41 32767 ?_;refine G.pu 15 42 65535 ?_;refine G.on 16 43 131071 (fun K hK=>?_);refine G.gs Try.func75 #[.int .i64 ((zac aa ab).f1),.int .i64 (wrap64 (((zac aa ab).f0)+1)),.int .i64 (wrap64 (ag - 1))] ?_;with_reducible refine(zbR.calls ((zac aa ab).f1) (wrap64 (((zac aa ab).f0)+1)) (wrap64 (ag - 1)) true _ a5.out).mono ?_
           rintro e w' ⟨rfl,⟨nd,rfl⟩⟩;refine⟨_,rfl,?_⟩;refine hK.out _ _ ⟨G.z af 0,G.z af 1,G.z ac 0,G.z ac 1,(G.hx HB aD),(G.hx HB aC)⟩ (fun hHeld=>?_);clear hK K;refine G.no 43 ?_;refine G.pu 17 44 262143 ?_;refine G.pu 18 45 524287 ?_;refine G.pu 19 46 1048575 ?_;refine G.pu 20 47 2097151 ?_;refine G.pu 21 48 4194303 ?_;refine G.pu 22 49 8388607 ?_;refine G.pu 23 50 16777215 ?_;refine G.pu 25 52 50331647 ?_;refine G.pu 26 53 117440511 ?_;refine G.ta6 24 51 134217727 ?_;refine G.pu 27 54 268435455 ?_;refine G.ta6 28 55 536870911 ?_;refine G.ta6 29 56 1073741823 ?_;refine G.on 30 57 2147483647 (fun K hK=>?_);refine zdd Try.func76 (zl9) rfl #[.agg #[.int .i64 ((zac aa (ai)).f0),.int .i64 ((zac aa (ai)).f1)],.agg #[.int .i64 ((zac aa ab).f0),.int .i64 ((zac aa ab).f1)]] (by rfl) rfl rfl (zqO) ?_;with_reducible refine(zb7.calls ((zac aa (ai)).f0) ((zac aa (ai)).f1) ((zac aa ab).f0) ((zac aa ab).f1) true _ bF.out).mono ?_
           rintro e dI ⟨rfl,hb⟩;refine⟨_,rfl,?_⟩;replace ac:=G.bb ac hb;replace af:=G.bb af hb;replace HB:=G.bs HB hb;(try clear hb);refine hK.out _ _ ⟨G.z af 0,G.z af 1,G.z ac 0,G.z ac 1,(G.hx HB aD),(G.hx HB aC)⟩ (fun hHeld=>?_);clear hK K;refine G.no 57 ?_;refine G.pu 31 58 4294967295 ?_;refine G.pu 32 59 8589934591 ?_;refine G.pu 33 60 17179869183 ?_;refine zbO (zbb HT_.out (zl9)) ?_;try go_wp2
           go_roundg k2
           case measure=>have:=bm.out;have:=bn.out;omega
           case rel=>exact⟨(wrap64 (ab+1)),(zmX),H',⟨by have:=bm.out;have:=bn.out;omega⟩,⟨G.cb ac.out⟩,⟨G.cB HB.out⟩⟩
          ·obtain rfl:=Option.some.inj H;have⟨b9,b_,ca,cd⟩:=G.d2 (w:=wr) ac;have av:0<=(ab:Int):=G.da;have aw:ab<(aa.length:Int):=G.da;obtain⟨aj,aL,al,am⟩:=zbJ aK.out ab av aw;cases aL;replace al:=G.hx HB al;replace am:=G.hx HB am;replace av:=eq_true av;replace aw:=eq_true aw;try go_wp2_with (first|((with_reducible refine G.h 4 rfl ?_);(try(refine za6 (by rfl) ?_;dsimp only));refine G.be 4 #[.int .i64 0,.int .i64 0] 59 ?_;intro ae hg a7 hbox hb;have af:=G.m (hbox);have aT:=G.m (zfF:w.heap.size<=ae);have aU:=G.m (zfF:w.heap.size<=ae);replace HB:=G.bs HB hb;have ak:=G.m (znX:ah≠ae);have ap:=G.m (znI:ae≠ah);replace ac:=G.bb ac hb;clear hb hbox hg;have du:=ap.out;have dv:=ak.out;have⟨ce,cf,cg,ch⟩:=G.d2 (w:=a7) af))
           have n0:zaa (((a7.setCell ⟨ae,0,none⟩ (.int .i64 ((zac aa ab).f0))).setCell ⟨ae,1,none⟩ (.int .i64 ((zac aa ab).f1))).heap[ah]? =some (.cells #[.int .i64 ag,.slice (some aj) aa.length az] 31 (0,0))):=⟨znB⟩;have n1:zaa (((a7.setCell ⟨ae,0,none⟩ (.int .i64 ((zac aa ab).f0))).setCell ⟨ae,1,none⟩ (.int .i64 ((zac aa ab).f1))).heap[ae]? =some (.cells #[.int .i64 ((zac aa ab).f0),.int .i64 ((zac aa ab).f1)] 59 (0,0))):=⟨zn4⟩;have n2:zaa (Below w.heap.size w ((a7.setCell ⟨ae,0,none⟩ (.int .i64 ((zac aa ab).f0))).setCell ⟨ae,1,none⟩ (.int .i64 ((zac aa ab).f1)))):=⟨G.cB HB.out⟩;(try clear ac af HB);generalize((a7.setCell ⟨ae,0,none⟩ (.int .i64 ((zac aa ab).f0))).setCell ⟨ae,1,none⟩ (.int .i64 ((zac aa ab).f1)))=db at n0 n1 n2⊢;revert n0 n1 n2;intro ac af HB;replace ac:=G.m (zan ac.out);replace af:=G.m (zan af.out);replace HB:=G.m (zas HB.out);have aO:0<=((ai):Int):=G.da;have aP:(ai)<(aa.length:Int):=G.da;obtain⟨aZ,bc,aA,aB⟩:=zbJ aK.out (ai) aO aP;have aC:=aB;have aD:=aA;obtain rfl:aj=aZ:=(by injection bc);replace aA:=G.hx HB aA;replace aB:=G.hx HB aB;replace aO:=eq_true aO;replace aP:=eq_true aP;refine G.st 34 (S:=fun w'=>w'.cell? ⟨ae,0,none⟩=some (.int .i64 ((zac aa ab).f0))/\w'.cell? ⟨ae,1,none⟩=some (.int .i64 ((zac aa ab).f1))/\w'.cell? ⟨ah,0,none⟩=some (.int .i64 ag)/\w'.cell? ⟨ah,1,none⟩=some (.slice (some aj) aa.length az)/\w'.cell? (aj.add (((ai)).toNat*2))=some (.int .i64 ((zac aa (ai)).f0))/\w'.cell? ⟨(aj.add (((ai)).toNat*2)).block,(aj.add (((ai)).toNat*2)).off+1,none⟩=some (.int .i64 ((zac aa (ai)).f1))) [] ⟨G.z af 0,G.z af 1,G.z ac 0,G.z ac 1,(G.hx HB aD),(G.hx HB aC)⟩ zaE.zgL zaE.zdU (fun hHeld HT_ HW_=>?_);generalize db.drew=dJ at ac af HB aA aB hHeld⊢;refine G.pu 0 27 1 ?_;refine G.pu 2 29 5 ?_;refine G.ta6 1 28 7 ?_;refine G.ta6 3 30 15 ?_;refine G.pu 4 31 31 ?_;refine G.on 5 32 63 (fun K hK=>?_);refine G.gs Try.func75 #[.int .i64 ((zac aa ab).f0),.int .i64 0,.int .i64 (wrap64 (ag - 1))] ?_;with_reducible refine(zbR.calls ((zac aa ab).f0) 0 (wrap64 (ag - 1)) true _ aW.out).mono ?_
           rintro e w' ⟨rfl,⟨nd,rfl⟩⟩;refine⟨_,rfl,?_⟩;refine hK.out _ _ ⟨G.z af 0,G.z af 1,G.z ac 0,G.z ac 1,(G.hx HB aD),(G.hx HB aC)⟩ (fun hHeld=>?_);clear hK K;refine G.no 32 ?_;refine G.pu 6 33 127 ?_;refine G.pu 7 34 255 ?_;refine G.pu 8 35 511 ?_;refine G.pu 10 37 1535 ?_;refine G.pu 13 40 9727 ?_;refine G.ta6 9 36 10239 ?_;refine G.ta6 11 38 12287 ?_;refine G.pu 12 39 16383 ?_;refine G.ta6 14 41 32767 ?_;refine G.pu 15 42 65535 ?_;refine G.on 16 43 131071 (fun K hK=>?_);refine G.gs Try.func75 #[.int .i64 ((zac aa ab).f1),.int .i64 (wrap64 (((zac aa ab).f0)+1)),.int .i64 (wrap64 (ag - 1))] ?_;with_reducible refine(zbR.calls ((zac aa ab).f1) (wrap64 (((zac aa ab).f0)+1)) (wrap64 (ag - 1)) true _ a5.out).mono ?_
           rintro e w' ⟨rfl,⟨nd,rfl⟩⟩;refine⟨_,rfl,?_⟩;refine hK.out _ _ ⟨G.z af 0,G.z af 1,G.z ac 0,G.z ac 1,(G.hx HB aD),(G.hx HB aC)⟩ (fun hHeld=>?_);clear hK K;refine G.no 43 ?_;refine G.pu 17 44 262143 ?_;refine G.pu 18 45 524287 ?_;refine G.pu 19 46 1048575 ?_;refine G.pu 20 47 2097151 ?_;refine G.pu 21 48 4194303 ?_;refine G.pu 22 49 8388607 ?_;refine G.pu 23 50 16777215 ?_;refine G.pu 25 52 50331647 ?_;refine G.pu 26 53 117440511 ?_;refine G.ta6 24 51 134217727 ?_;refine G.pu 27 54 268435455 ?_;refine G.ta6 28 55 536870911 ?_;refine G.ta6 29 56 1073741823 ?_;refine G.on 30 57 2147483647 (fun K hK=>?_);refine zdd Try.func76 (zl9) rfl #[.agg #[.int .i64 ((zac aa (ai)).f0),.int .i64 ((zac aa (ai)).f1)],.agg #[.int .i64 ((zac aa ab).f0),.int .i64 ((zac aa ab).f1)]] (by rfl) rfl rfl (zqO) ?_;with_reducible refine(zb7.calls ((zac aa (ai)).f0) ((zac aa (ai)).f1) ((zac aa ab).f0) ((zac aa ab).f1) false _ bF.out).mono ?_
           rintro e dK ⟨rfl,hb⟩;refine⟨_,rfl,?_⟩;replace ac:=G.bb ac hb;replace af:=G.bb af hb;replace HB:=G.bs HB hb;(try clear hb);refine hK.out _ _ ⟨G.z af 0,G.z af 1,G.z ac 0,G.z ac 1,(G.hx HB aD),(G.hx HB aC)⟩ (fun hHeld=>?_);clear hK K;refine G.no 57 ?_;refine G.pu 31 58 4294967295 ?_;refine G.pu 32 59 8589934591 ?_;refine G.pu 33 60 17179869183 ?_;refine zbO (zbb HT_.out (zl9)) ?_;try go_wp2
           go_ret
           exact⟨by first|rfl|(simp[za1,za2]<;>rfl)|(simp only[←aJ];first|rfl|(simp[za1,za2]<;>rfl))|(simp[*,za1,za2]<;>rfl),G.cB HB.out⟩
         ·rw[if_neg aX]at H;have bC:=decide_eq_false aX;clear aX;have H':=G.m H;clear H;have⟨ci,cj,ck,cl⟩:=G.d2 (w:=wr) ac;have av:0<=(ab:Int):=G.da;have aw:ab<(aa.length:Int):=G.da;obtain⟨aj,aL,al,am⟩:=zbJ aK.out ab av aw;cases aL;replace al:=G.hx HB al;replace am:=G.hx HB am;replace av:=eq_true av;replace aw:=eq_true aw;try go_wp2_with (first|((with_reducible refine G.h 4 rfl ?_);(try(refine za6 (by rfl) ?_;dsimp only));refine G.be 4 #[.int .i64 0,.int .i64 0] 59 ?_;intro ae hg a8 hbox hb;have af:=G.m (hbox);have aT:=G.m (zfF:w.heap.size<=ae);have aU:=G.m (zfF:w.heap.size<=ae);replace HB:=G.bs HB hb;have ak:=G.m (znX:ah≠ae);have ap:=G.m (znI:ae≠ah);replace ac:=G.bb ac hb;clear hb hbox hg;have dw:=ap.out;have dx:=ak.out;have⟨cm,cn,co,cp⟩:=G.d2 (w:=a8) af))
          have n0:zaa (((a8.setCell ⟨ae,0,none⟩ (.int .i64 ((zac aa ab).f0))).setCell ⟨ae,1,none⟩ (.int .i64 ((zac aa ab).f1))).heap[ah]? =some (.cells #[.int .i64 ag,.slice (some aj) aa.length az] 31 (0,0))):=⟨znB⟩;have n1:zaa (((a8.setCell ⟨ae,0,none⟩ (.int .i64 ((zac aa ab).f0))).setCell ⟨ae,1,none⟩ (.int .i64 ((zac aa ab).f1))).heap[ae]? =some (.cells #[.int .i64 ((zac aa ab).f0),.int .i64 ((zac aa ab).f1)] 59 (0,0))):=⟨zn4⟩;have n2:zaa (Below w.heap.size w ((a8.setCell ⟨ae,0,none⟩ (.int .i64 ((zac aa ab).f0))).setCell ⟨ae,1,none⟩ (.int .i64 ((zac aa ab).f1)))):=⟨G.cB HB.out⟩;(try clear ac af HB);generalize((a8.setCell ⟨ae,0,none⟩ (.int .i64 ((zac aa ab).f0))).setCell ⟨ae,1,none⟩ (.int .i64 ((zac aa ab).f1)))=dc at n0 n1 n2⊢;revert n0 n1 n2;intro ac af HB;replace ac:=G.m (zan ac.out);replace af:=G.m (zan af.out);replace HB:=G.m (zas HB.out);refine G.st 34 (S:=fun w'=>w'.cell? ⟨ae,0,none⟩=some (.int .i64 ((zac aa ab).f0))/\w'.cell? ⟨ae,1,none⟩=some (.int .i64 ((zac aa ab).f1))/\w'.cell? ⟨ah,0,none⟩=some (.int .i64 ag)/\w'.cell? ⟨ah,1,none⟩=some (.slice (some aj) aa.length az)) [] ⟨G.z af 0,G.z af 1,G.z ac 0,G.z ac 1⟩ zaE.zgL zaE.zdU (fun hHeld HT_ HW_=>?_);generalize dc.drew=dL at ac af HB hHeld⊢;refine G.pu 0 27 1 ?_;refine G.pu 2 29 5 ?_;refine G.ta4 1 28 7 ?_;refine G.ta4 3 30 15 ?_;refine G.pu 4 31 31 ?_;refine G.on 5 32 63 (fun K hK=>?_);refine G.gs Try.func75 #[.int .i64 ((zac aa ab).f0),.int .i64 0,.int .i64 (wrap64 (ag - 1))] ?_;with_reducible refine(zbR.calls ((zac aa ab).f0) 0 (wrap64 (ag - 1)) true _ aW.out).mono ?_
          rintro e w' ⟨rfl,⟨nd,rfl⟩⟩;refine⟨_,rfl,?_⟩;refine hK.out _ _ ⟨G.z af 0,G.z af 1,G.z ac 0,G.z ac 1⟩ (fun hHeld=>?_);clear hK K;refine G.no 32 ?_;refine G.pu 6 33 127 ?_;refine G.pu 7 34 255 ?_;refine G.pu 8 35 511 ?_;refine G.pu 10 37 1535 ?_;refine G.pu 13 40 9727 ?_;refine G.ta4 9 36 10239 ?_;refine G.ta4 11 38 12287 ?_;refine G.pu 12 39 16383 ?_;refine G.ta4 14 41 32767 ?_;refine G.pu 15 42 65535 ?_;refine G.on 16 43 131071 (fun K hK=>?_);refine G.gs Try.func75 #[.int .i64 ((zac aa ab).f1),.int .i64 (wrap64 (((zac aa ab).f0)+1)),.int .i64 (wrap64 (ag - 1))] ?_;with_reducible refine(zbR.calls ((zac aa ab).f1) (wrap64 (((zac aa ab).f0)+1)) (wrap64 (ag - 1)) true _ a5.out).mono ?_
          rintro e w' ⟨rfl,⟨nd,rfl⟩⟩;refine⟨_,rfl,?_⟩;refine hK.out _ _ ⟨G.z af 0,G.z af 1,G.z ac 0,G.z ac 1⟩ (fun hHeld=>?_);clear hK K;refine G.no 43 ?_;refine G.pu 17 44 262143 ?_;refine G.pu 18 45 524287 ?_;refine G.pu 19 46 1048575 ?_;refine G.pu 20 47 2097151 ?_;refine G.pu 21 48 4194303 ?_;refine G.pu 22 49 8388607 ?_;refine G.pf 23 50 16777215 ?_;refine G.pf 24 51 33554431 ?_;refine G.pf 25 52 67108863 ?_;refine G.pf 26 53 134217727 ?_;refine G.pf 27 54 268435455 ?_;refine G.pf 28 55 536870911 ?_;refine G.pf 29 56 1073741823 ?_;refine G.pf 30 57 2147483647 ?_;refine G.pf 31 58 4294967295 ?_;refine G.pu 32 59 8589934591 ?_;refine G.pu 33 60 17179869183 ?_;refine zbO (zbb HT_.out (zl9)) ?_;try go_wp2
          go_roundg k2
          case measure=>have:=bm.out;have:=bn.out;omega
          case rel=>exact⟨(wrap64 (ab+1)),(zmX),H',⟨by have:=bm.out;have:=bn.out;omega⟩,⟨G.cb ac.out⟩,⟨G.cB HB.out⟩⟩
        ·obtain rfl:=Option.some.inj H;have⟨cq,cr,ct,cu⟩:=G.d2 (w:=wr) ac;have av:0<=(ab:Int):=G.da;have aw:ab<(aa.length:Int):=G.da;obtain⟨aj,aL,al,am⟩:=zbJ aK.out ab av aw;cases aL;replace al:=G.hx HB al;replace am:=G.hx HB am;replace av:=eq_true av;replace aw:=eq_true aw;try go_wp2_with (first|((with_reducible refine G.h 4 rfl ?_);(try(refine za6 (by rfl) ?_;dsimp only));refine G.be 4 #[.int .i64 0,.int .i64 0] 59 ?_;intro ae hg a9 hbox hb;have af:=G.m (hbox);have aT:=G.m (zfF:w.heap.size<=ae);have aU:=G.m (zfF:w.heap.size<=ae);replace HB:=G.bs HB hb;have ak:=G.m (znX:ah≠ae);have ap:=G.m (znI:ae≠ah);replace ac:=G.bb ac hb;clear hb hbox hg;have dy:=ap.out;have dz:=ak.out;have⟨cv,cw,cx,cy⟩:=G.d2 (w:=a9) af))
         have n0:zaa (((a9.setCell ⟨ae,0,none⟩ (.int .i64 ((zac aa ab).f0))).setCell ⟨ae,1,none⟩ (.int .i64 ((zac aa ab).f1))).heap[ah]? =some (.cells #[.int .i64 ag,.slice (some aj) aa.length az] 31 (0,0))):=⟨znB⟩;have n1:zaa (((a9.setCell ⟨ae,0,none⟩ (.int .i64 ((zac aa ab).f0))).setCell ⟨ae,1,none⟩ (.int .i64 ((zac aa ab).f1))).heap[ae]? =some (.cells #[.int .i64 ((zac aa ab).f0),.int .i64 ((zac aa ab).f1)] 59 (0,0))):=⟨zn4⟩;have n2:zaa (Below w.heap.size w ((a9.setCell ⟨ae,0,none⟩ (.int .i64 ((zac aa ab).f0))).setCell ⟨ae,1,none⟩ (.int .i64 ((zac aa ab).f1)))):=⟨G.cB HB.out⟩;(try clear ac af HB);generalize((a9.setCell ⟨ae,0,none⟩ (.int .i64 ((zac aa ab).f0))).setCell ⟨ae,1,none⟩ (.int .i64 ((zac aa ab).f1)))=dd at n0 n1 n2⊢;revert n0 n1 n2;intro ac af HB;replace ac:=G.m (zan ac.out);replace af:=G.m (zan af.out);replace HB:=G.m (zas HB.out);refine G.st 34 (S:=fun w'=>w'.cell? ⟨ae,0,none⟩=some (.int .i64 ((zac aa ab).f0))/\w'.cell? ⟨ae,1,none⟩=some (.int .i64 ((zac aa ab).f1))/\w'.cell? ⟨ah,0,none⟩=some (.int .i64 ag)/\w'.cell? ⟨ah,1,none⟩=some (.slice (some aj) aa.length az)) [] ⟨G.z af 0,G.z af 1,G.z ac 0,G.z ac 1⟩ zaE.zgL zaE.zdU (fun hHeld HT_ HW_=>?_);generalize dd.drew=dM at ac af HB hHeld⊢;refine G.pu 0 27 1 ?_;refine G.pu 2 29 5 ?_;refine G.ta4 1 28 7 ?_;refine G.ta4 3 30 15 ?_;refine G.pu 4 31 31 ?_;refine G.on 5 32 63 (fun K hK=>?_);refine G.gs Try.func75 #[.int .i64 ((zac aa ab).f0),.int .i64 0,.int .i64 (wrap64 (ag - 1))] ?_;with_reducible refine(zbR.calls ((zac aa ab).f0) 0 (wrap64 (ag - 1)) true _ aW.out).mono ?_
         rintro e w' ⟨rfl,⟨nd,rfl⟩⟩;refine⟨_,rfl,?_⟩;refine hK.out _ _ ⟨G.z af 0,G.z af 1,G.z ac 0,G.z ac 1⟩ (fun hHeld=>?_);clear hK K;refine G.no 32 ?_;refine G.pu 6 33 127 ?_;refine G.pu 7 34 255 ?_;refine G.pu 8 35 511 ?_;refine G.pu 10 37 1535 ?_;refine G.pu 13 40 9727 ?_;refine G.ta4 9 36 10239 ?_;refine G.ta4 11 38 12287 ?_;refine G.pu 12 39 16383 ?_;refine G.ta4 14 41 32767 ?_;refine G.pu 15 42 65535 ?_;refine G.on 16 43 131071 (fun K hK=>?_);refine G.gs Try.func75 #[.int .i64 ((zac aa ab).f1),.int .i64 (wrap64 (((zac aa ab).f0)+1)),.int .i64 (wrap64 (ag - 1))] ?_;with_reducible refine(zbR.calls ((zac aa ab).f1) (wrap64 (((zac aa ab).f0)+1)) (wrap64 (ag - 1)) false _ a5.out).mono ?_
         rintro e w' ⟨rfl,⟨nd,rfl⟩⟩;refine⟨_,rfl,?_⟩;refine hK.out _ _ ⟨G.z af 0,G.z af 1,G.z ac 0,G.z ac 1⟩ (fun hHeld=>?_);clear hK K;refine G.no 43 ?_;refine G.pu 17 44 262143 ?_;refine G.pu 18 45 524287 ?_;refine G.pu 19 46 1048575 ?_;refine G.pf 20 47 2097151 ?_;refine G.pf 21 48 4194303 ?_;refine G.pf 22 49 8388607 ?_;refine G.pf 23 50 16777215 ?_;refine G.pf 24 51 33554431 ?_;refine G.pf 25 52 67108863 ?_;refine G.pf 26 53 134217727 ?_;refine G.pf 27 54 268435455 ?_;refine G.pf 28 55 536870911 ?_;refine G.pf 29 56 1073741823 ?_;refine G.pf 30 57 2147483647 ?_;refine G.pf 31 58 4294967295 ?_;refine G.pf 32 59 8589934591 ?_;refine G.pu 33 60 17179869183 ?_;refine zbO (zbb HT_.out (zl9)) ?_;try go_wp2
         go_ret
         exact⟨zmI,G.cB HB.out⟩
       ·obtain rfl:=Option.some.inj H;have⟨cz,cA,cD,cE⟩:=G.d2 (w:=wr) ac;have av:0<=(ab:Int):=G.da;have aw:ab<(aa.length:Int):=G.da;obtain⟨aj,aL,al,am⟩:=zbJ aK.out ab av aw;cases aL;replace al:=G.hx HB al;replace am:=G.hx HB am;replace av:=eq_true av;replace aw:=eq_true aw;try go_wp2_with (first|((with_reducible refine G.h 4 rfl ?_);(try(refine za6 (by rfl) ?_;dsimp only));refine G.be 4 #[.int .i64 0,.int .i64 0] 59 ?_;intro ae hg a_ hbox hb;have af:=G.m (hbox);have aT:=G.m (zfF:w.heap.size<=ae);have aU:=G.m (zfF:w.heap.size<=ae);replace HB:=G.bs HB hb;have ak:=G.m (znX:ah≠ae);have ap:=G.m (znI:ae≠ah);replace ac:=G.bb ac hb;clear hb hbox hg;have dA:=ap.out;have dB:=ak.out;have⟨cF,cG,cH,cI⟩:=G.d2 (w:=a_) af))
        have n0:zaa (((a_.setCell ⟨ae,0,none⟩ (.int .i64 ((zac aa ab).f0))).setCell ⟨ae,1,none⟩ (.int .i64 ((zac aa ab).f1))).heap[ah]? =some (.cells #[.int .i64 ag,.slice (some aj) aa.length az] 31 (0,0))):=⟨znB⟩;have n1:zaa (((a_.setCell ⟨ae,0,none⟩ (.int .i64 ((zac aa ab).f0))).setCell ⟨ae,1,none⟩ (.int .i64 ((zac aa ab).f1))).heap[ae]? =some (.cells #[.int .i64 ((zac aa ab).f0),.int .i64 ((zac aa ab).f1)] 59 (0,0))):=⟨zn4⟩;have n2:zaa (Below w.heap.size w ((a_.setCell ⟨ae,0,none⟩ (.int .i64 ((zac aa ab).f0))).setCell ⟨ae,1,none⟩ (.int .i64 ((zac aa ab).f1)))):=⟨G.cB HB.out⟩;(try clear ac af HB);generalize((a_.setCell ⟨ae,0,none⟩ (.int .i64 ((zac aa ab).f0))).setCell ⟨ae,1,none⟩ (.int .i64 ((zac aa ab).f1)))=de at n0 n1 n2⊢;revert n0 n1 n2;intro ac af HB;replace ac:=G.m (zan ac.out);replace af:=G.m (zan af.out);replace HB:=G.m (zas HB.out);refine G.st 34 (S:=fun w'=>w'.cell? ⟨ae,0,none⟩=some (.int .i64 ((zac aa ab).f0))/\w'.cell? ⟨ae,1,none⟩=some (.int .i64 ((zac aa ab).f1))/\w'.cell? ⟨ah,0,none⟩=some (.int .i64 ag)/\w'.cell? ⟨ah,1,none⟩=some (.slice (some aj) aa.length az)) [] ⟨G.z af 0,G.z af 1,G.z ac 0,G.z ac 1⟩ zaE.zgL zaE.zdU (fun hHeld HT_ HW_=>?_);generalize de.drew=dN at ac af HB hHeld⊢;refine G.pu 0 27 1 ?_;refine G.pu 2 29 5 ?_;refine G.ta4 1 28 7 ?_;refine G.ta4 3 30 15 ?_;refine G.pu 4 31 31 ?_;refine G.on 5 32 63 (fun K hK=>?_);refine G.gs Try.func75 #[.int .i64 ((zac aa ab).f0),.int .i64 0,.int .i64 (wrap64 (ag - 1))] ?_;with_reducible refine(zbR.calls ((zac aa ab).f0) 0 (wrap64 (ag - 1)) false _ aW.out).mono ?_
        rintro e w' ⟨rfl,⟨nd,rfl⟩⟩;refine⟨_,rfl,?_⟩;refine hK.out _ _ ⟨G.z af 0,G.z af 1,G.z ac 0,G.z ac 1⟩ (fun hHeld=>?_);clear hK K;refine G.no 32 ?_;refine G.pu 6 33 127 ?_;refine G.pu 7 34 255 ?_;refine G.pf 8 35 511 ?_;refine G.pf 9 36 1023 ?_;refine G.pf 10 37 2047 ?_;refine G.pf 11 38 4095 ?_;refine G.pf 12 39 8191 ?_;refine G.pf 13 40 16383 ?_;refine G.pf 14 41 32767 ?_;refine G.pf 15 42 65535 ?_;refine G.pf 16 43 131071 ?_;refine G.pf 17 44 262143 ?_;refine G.pu 18 45 524287 ?_;refine G.pu 19 46 1048575 ?_;refine G.pf 20 47 2097151 ?_;refine G.pf 21 48 4194303 ?_;refine G.pf 22 49 8388607 ?_;refine G.pf 23 50 16777215 ?_;refine G.pf 24 51 33554431 ?_;refine G.pf 25 52 67108863 ?_;refine G.pf 26 53 134217727 ?_;refine G.pf 27 54 268435455 ?_;refine G.pf 28 55 536870911 ?_;refine G.pf 29 56 1073741823 ?_;refine G.pf 30 57 2147483647 ?_;refine G.pf 31 58 4294967295 ?_;refine G.pf 32 59 8589934591 ?_;refine G.pu 33 60 17179869183 ?_;refine zbO (zbb HT_.out (zl9)) ?_;try go_wp2
        go_ret
        exact⟨zmI,G.cB HB.out⟩
      ·rw[if_neg c9]at H;have ba:=decide_eq_false c9;clear c9;obtain rfl:=Option.some.inj H;have⟨cJ,cL,cM,cN⟩:=G.d2 (w:=wr) ac
       go_wp2
       go_ret
       exact⟨zmI,G.cB HB.out⟩
theorem zqL {p:Prop}(h:p:=by(try simp only[List.map_toArray,List.map_cons,List.map_nil]);first|done|(simp only[bz];rfl)|rfl|(simp only[List.length_drop,List.length_take];rfl)):p:=h
theorem zkp {p:Prop}(h:p:=by first|rfl|(simp[za1,za2]<;>rfl)|(simp[*,za1,za2]<;>rfl)):p:=h
theorem zgP {p:Prop}(h:p:=by first|rfl|(simp;done)|(simp[*];done)):p:=h
theorem zhd {p:Prop}(h:p:=by rw[hg];exact(zai (G.cB HB.out))):p:=h
theorem zli {p:Prop}(h:p:=by kernel_rfl):p:=h
attribute [local go_sem high] zkX
def zbt.f (a0:Int) (a1:Int):Option (Int×Int):=if a0<a1 then(some (a0,a1)) else(some (a1,a0))
theorem zbt.calls (a0:Int) (a1:Int) (r1:Int) (r2:Int) (w:World) (h:zbt.f a0 a1=some (r1,r2)):
  Calls Try.prog 46 #[.int .i64 a0,.int .i64 a1] w fun e w'=>e=.returned (.agg #[.int .i64 r1,.int .i64 r2])/\Below w.heap.size w w':=by
 have bF:=Try.underlying59;have HB:=G.m (Below.refl w.heap.size w);unfold zbt.f at h;have H:=h;clear h
 by_cases c3:a0<a1
 ·rw[if_pos c3]at H;have bC:=decide_eq_true c3;clear c3;simp only[Option.some.injEq,Prod.mk.injEq]at H;obtain⟨rfl,rfl⟩:=H
  go_enter Try.func46,Try.ntmps46
  go_wp2_with (first|((with_reducible refine G.h 4 rfl ?_);refine G.be 4 #[.int .i64 0,.int .i64 0] 59 ?_;intro aX hg w4 hbox hb;have bn:=G.m (hbox);have b8:=G.m (zhd:w.heap.size<=aX);have b9:=G.m (zhd:w.heap.size<=aX);replace HB:=G.bs HB hb;clear hb hbox hg;have⟨cS,cT,cU,cW⟩:=G.d2 (w:=w4) bn))
  refine bodyPost_ret (results_cell_row rfl _ _ aX 59 #[.int .i64 a0,.int .i64 a1] (0,0) _ rfl (G.bw bn.out) Try.underlying59 rfl (zli)) rfl ?_;exact⟨zkp,G.cB HB.out⟩
 ·rw[if_neg c3]at H;have bC:=decide_eq_false c3;clear c3;simp only[Option.some.injEq,Prod.mk.injEq]at H;obtain⟨rfl,rfl⟩:=H
  go_enter Try.func46,Try.ntmps46
  go_wp2_with (first|((with_reducible refine G.h 4 rfl ?_);refine G.be 4 #[.int .i64 0,.int .i64 0] 59 ?_;intro aX hg w6 hbox hb;have bn:=G.m (hbox);have b8:=G.m (zhd:w.heap.size<=aX);have b9:=G.m (zhd:w.heap.size<=aX);replace HB:=G.bs HB hb;clear hb hbox hg;have⟨bT,bU,bV,bW⟩:=G.d2 (w:=w6) bn))
  refine bodyPost_ret (results_cell_row rfl _ _ aX 59 #[.int .i64 a1,.int .i64 a0] (0,0) _ rfl (G.bw bn.out) Try.underlying59 rfl (zli)) rfl ?_;exact⟨zkp,G.cB HB.out⟩
def zaM.l0:Nat->List Int->Int->Int->Option (Bool)
 |0,_,_,_=>none
 |k+1,x0,x1,x5=>if x5<(x0.length:Int) then(if 0<=x5 then(if(rd x0 x5)=x1 then(some true) else(zaM.l0 k x0 x1 (wrap64 (x5+1)))) else(none)) else(some false)
def zaM.f (k:Nat) (l0:List Int) (a1:Int):Option (Bool):=zaM.l0 k l0 a1 0
theorem zaM.calls (k:Nat) (A0:Option Addr) (c0:Nat) (l0:List Int) (a1:Int) (r:Bool) (w:World) (bw:Kd.C (Kd.int .i64) w A0 l0.length l0) (bx:l0.length<=c0) (h:zaM.f k l0 a1=some r):
  Calls Try.prog 47 #[.slice A0 l0.length c0,.int .i64 a1] w fun e w'=>e=.returned (.bool r)/\za_ w w':=by
 have a8:=G.m bw;have ch:=G.m bx;clear bw bx;unfold zaM.f at h;have H:=h;clear h;have H':=G.m H;clear H
 go_enter Try.func47,Try.ntmps47
 go_wp2
 go_loopg [5] k (fun kq v5 w'=>∃ (ak:Int),v5=.int .i64 ak/\zaa (zaM.l0 kq l0 a1 ak=some r)/\zaa (kq<=k)/\za_ w w')
 case atStart=>exact⟨(0),(zgP),H',⟨Nat.le_refl _⟩,by repeat(first|exact za_.refl _|apply za_.step)⟩
 case round=>
  clear H';try clear p2
  obtain⟨ak,rfl,HA,a5,⟨m1,rfl⟩⟩:=hrel;cases gk with
  |zero=>exact absurd HA.out (by simp[zaM.l0])
  |succ k1=>
   have H:=HA.out;clear HA;simp only[zaM.l0]at H
   by_cases c3:ak<(l0.length:Int)
   ·rw[if_pos c3]at H;have bC:=decide_eq_true c3;clear c3
    obtain⟨bX,H⟩:=G.dp H
    by_cases c5:(rd l0 ak)=a1
    ·rw[if_pos c5]at H;have br:=beq_iff_eq.mpr c5;have bG:=bne_eq_false_iff_eq.mpr c5;clear c5;obtain rfl:=Option.some.inj H;have a9:0<=(ak:Int):=G.da;have a_:ak<(l0.length:Int):=G.da;obtain⟨b_,bH,bQ⟩:=zaZ a8.out ak a9 a_;cases bH;replace a9:=eq_true a9;replace a_:=eq_true a_
     go_wp2
     go_ret
     exact⟨zgP,by repeat(first|exact za_.refl _|apply za_.step)⟩
    ·rw[if_neg c5]at H;have br:=beq_eq_false_iff_ne.mpr c5;have bG:=bne_iff_ne.mpr c5;have H':=G.m H;clear H;have a9:0<=(ak:Int):=G.da;have a_:ak<(l0.length:Int):=G.da;obtain⟨b_,bH,bQ⟩:=zaZ a8.out ak a9 a_;cases bH;replace a9:=eq_true a9;replace a_:=eq_true a_
     go_wp2
     go_roundg k1
     case measure=>have:=a5.out;omega
     case rel=>exact⟨(wrap64 (ak+1)),(zgP),H',⟨by have:=a5.out;omega⟩,by repeat(first|exact za_.refl _|apply za_.step)⟩
   ·rw[if_neg c3]at H;have bC:=decide_eq_false c3;clear c3;obtain rfl:=Option.some.inj H
    go_wp2
    go_ret
    exact⟨zgP,by repeat(first|exact za_.refl _|apply za_.step)⟩
def za5.f (k:Nat) (ab:Int) (aa:List (S59)) (a1:Int):Option (Bool):=(zaE.f k ab aa).bind fun bu=>(if bu=true then((zbR.f a1 0 (wrap64 (ab - 1))).bind fun aN=>(some aN)) else(some false))
theorem za5.calls (k:Nat) (ab:Int) (ao:Option Addr) (al:Nat) (aa:List (S59)) (a1:Int) (r:Bool) (w:World) (aK:Kd.C k59 w ao aa.length aa) (aL:aa.length<=al) (h:za5.f k ab aa a1=some r):
  Calls Try.prog 85 #[.agg #[.int .i64 ab,.slice ao aa.length al],.int .i64 a1] w fun e w'=>e=.returned (.bool r)/\Below w.heap.size w w':=by
 have bY:=Try.underlying31;have aG:=G.m aK;have aY:=G.m aL;clear aK aL;have HB:=G.m (Below.refl w.heap.size w);unfold za5.f at h;have H:=h;clear h;obtain⟨bu,A3,H⟩:=G.bi H;(try dsimp only at H)
 rcases G.bc H with⟨h_,H_⟩|⟨h_,H_⟩<;> (subst h_;clear H;have H:=H_;clear H_)
 ·obtain⟨aN,A5,H⟩:=G.bi H;(try dsimp only at H);obtain rfl:=Option.some.inj H
  go_enter Try.func85,Try.ntmps85
  go_wp2_with (first|((with_reducible refine G.h 2 rfl ?_);refine G.be 2 #[.int .i64 ab,.slice ao aa.length al] 31 ?_;intro bo hg w6 hbox hb;have aC:=G.m (hbox);have ca:=G.m (zhd:w.heap.size<=bo);have cd:=G.m (zhd:w.heap.size<=bo);replace HB:=G.bs HB hb;clear hb hbox hg;have⟨bT,bU,bV,bW⟩:=G.d2 (w:=w6) aC)|((with_reducible refine G.f 32 rfl ?_);refine G.gL 6 Try.func32 #[.agg #[.int .i64 ab,.slice ao aa.length al]] ?_;(with_reducible refine(zaE.calls k ab _ _ aa true _ ?side1 ?side2 A3.out).mono ?_);(case side1=>exact G.cC (zay aG.out HB.out));(case side2=>exact aY.out);rintro e w8 ⟨rfl,hb⟩;refine⟨_,rfl,?_⟩;replace aC:=G.bb aC hb;replace HB:=G.bs HB hb;(try clear hb);have⟨bZ,b1,b2,b3⟩:=G.d2 (w:=w8) aC)|(go_at_call 75;(with_reducible refine(zbR.calls a1 0 (wrap64 (ab - 1)) aN _ A5.out).mono ?_);rintro e w' ⟨rfl,⟨nd,rfl⟩⟩))
  go_ret
  exact⟨zkp,G.cB HB.out⟩
 ·obtain rfl:=Option.some.inj H
  go_enter Try.func85,Try.ntmps85
  go_wp2_with (first|((with_reducible refine G.h 2 rfl ?_);refine G.be 2 #[.int .i64 ab,.slice ao aa.length al] 31 ?_;intro bo hg b4 hbox hb;have aC:=G.m (hbox);have ca:=G.m (zhd:w.heap.size<=bo);have cd:=G.m (zhd:w.heap.size<=bo);replace HB:=G.bs HB hb;clear hb hbox hg;have⟨cu,cv,cw,cx⟩:=G.d2 (w:=b4) aC)|((with_reducible refine G.f 32 rfl ?_);refine G.gL 6 Try.func32 #[.agg #[.int .i64 ab,.slice ao aa.length al]] ?_;(with_reducible refine(zaE.calls k ab _ _ aa false _ ?side1 ?side2 A3.out).mono ?_);(case side1=>exact G.cC (zay aG.out HB.out));(case side2=>exact aY.out);rintro e b5 ⟨rfl,hb⟩;refine⟨_,rfl,?_⟩;replace aC:=G.bb aC hb;replace HB:=G.bs HB hb;(try clear hb)))
  go_ret
  exact⟨zkp,G.cB HB.out⟩
def zbl.l0:Nat->Int->Int->Int->Int->List (S59)->Option (Bool)
 |0,_,_,_,_,_=>none
 |k+1,x1,x2,x7,bR,a6=>if x7<(a6.length:Int) then(if 0<=x7 then((zbt.f x1 x2).bind fun bO=>(if(((zac a6 x7).f0)==bO.1&&(((zac a6 x7).f1)==bO.2))=true then(some true) else(zbl.l0 k x1 x2 (wrap64 (x7+1)) bR a6))) else(none)) else(some false)
def zbl.f (k:Nat) (ab:Int) (aa:List (S59)) (a1:Int) (a2:Int):Option (Bool):=zbl.l0 k a1 a2 0 ab aa
def zbl.T4:Bool×List (List Nat×List Nat):=(true,[([],[]),([0],[0]),([],[]),([1,2],[1,2]),([3],[3]),([],[]),([],[]),([5,6],[5,6]),([4,7],[4,7])])
def zbl.B4:List Nat:=[0,1,0,7,15,0,0,96,255]
theorem zbl.zku:zc0 .any (opsOf Try.f113 4)=zbl.T4:=by kernel_rfl
theorem zbl.zgm:zby zbl.T4.2 zbl.B4=true:=by kernel_rfl
theorem zbl.calls (k:Nat) (ab:Int) (ao:Option Addr) (al:Nat) (aa:List (S59)) (a1:Int) (a2:Int) (r:Bool) (w:World) (aK:Kd.C k59 w ao aa.length aa) (aL:aa.length<=al) (h:zbl.f k ab aa a1 a2=some r):
  Calls Try.prog 113 #[.agg #[.int .i64 ab,.slice ao aa.length al],.int .i64 a1,.int .i64 a2] w fun e w'=>e=.returned (.bool r)/\Below w.heap.size w w':=by
 have bY:=Try.underlying31;have bF:=Try.underlying59;have aG:=G.m aK;have aY:=G.m aL;clear aK aL;have HB:=G.m (Below.refl w.heap.size w);unfold zbl.f at h;have H:=h;clear h;have H':=G.m H;clear H
 go_enter Try.func113,Try.ntmps113
 go_wp2_with (first|((with_reducible refine G.h 3 rfl ?_);refine G.be 3 #[.int .i64 ab,.slice ao aa.length al] 31 ?_;intro aZ hg w4 hbox hb;have af:=G.m (hbox);have de:=G.m (zhd:w.heap.size<=aZ);have df:=G.m (zhd:w.heap.size<=aZ);replace HB:=G.bs HB hb;clear hb hbox hg))
 go_loopg [7] k (fun kq v7 w'=>∃ (ac:Int),v7=.int .i64 ac/\zaa (zbl.l0 kq a1 a2 ac ab aa=some r)/\zaa (kq<=k)/\zaa (w'.heap[aZ]? =some (.cells #[.int .i64 ab,(.slice ao aa.length al)] 31 (0,0)))/\zaa (Below w.heap.size w w'))
 case atStart=>exact⟨(0),(zgP),H',⟨Nat.le_refl _⟩,⟨G.cb af.out⟩,⟨G.cB HB.out⟩⟩
 case round=>
  clear H';obtain⟨ac,rfl,HA,a5,af,HB⟩:=hrel;cases gk with
  |zero=>exact absurd HA.out (by simp[zbl.l0])
  |succ k1=>
   have H:=HA.out;clear HA;simp only[zbl.l0]at H
   by_cases c5:ac<(aa.length:Int)
   ·rw[if_pos c5]at H;have br:=decide_eq_true c5;clear c5
    obtain⟨cn,H⟩:=G.dp H;obtain⟨⟨aI,aJ⟩,A7,H⟩:=G.bi H;(try dsimp only at H)
    by_cases c8:(((zac aa ac).f0)==aI&&(((zac aa ac).f1)==aJ))=true
    ·rw[if_pos c8]at H;have bA:(((zac aa ac).f0)==aI&&(((zac aa ac).f1)==aJ))=true:=c8;(try(have co:decide (((zac aa ac).f0)=aI&&(((zac aa ac).f1)==aJ))=true:=by simpa using c8));(try(have cp:(((zac aa ac).f0)==aI&&(((zac aa ac).f1)==aJ))=true:=by simpa using c8));clear c8;obtain rfl:=Option.some.inj H;have⟨bZ,b1,b2,b3⟩:=G.d2 (w:=wr) af;try go_wp2
     replace af:=G.m (zan af.out);replace HB:=G.m (zas HB.out);have ba:0<=(ac:Int):=G.da;have bc:ac<(aa.length:Int):=G.da;obtain⟨aH,bI,aq,au⟩:=zbJ aG.out ac ba bc;have aR:=au;have aS:=aq;cases bI;replace aq:=G.hx HB aq;replace au:=G.hx HB au;replace ba:=eq_true ba;replace bc:=eq_true bc;refine G.st 9 (S:=fun w'=>w'.cell? ⟨aZ,0,none⟩=some (.int .i64 ab)/\w'.cell? ⟨aZ,1,none⟩=some (.slice (some aH) aa.length al)/\w'.cell? (aH.add ((ac).toNat*2))=some (.int .i64 ((zac aa ac).f0))/\w'.cell? ⟨(aH.add ((ac).toNat*2)).block,(aH.add ((ac).toNat*2)).off+1,none⟩=some (.int .i64 ((zac aa ac).f1))) [] ⟨G.z af 0,G.z af 1,(G.hx HB aS),(G.hx HB aR)⟩ zbl.zku zbl.zgm (fun hHeld HT_ HW_=>?_);generalize wr.drew=b4 at af HB aq au hHeld⊢;refine G.pu 0 15 1 ?_;refine G.pu 2 17 5 ?_;refine G.pu 5 20 37 ?_;refine G.pu 6 21 101 ?_;refine G.ta4 1 16 103 ?_;refine G.pu 3 18 111 ?_;refine G.ta4 4 19 127 ?_;refine G.on 7 22 255 (fun K hK=>?_);refine G.gs Try.func46 #[.int .i64 a1,.int .i64 a2] ?_;with_reducible refine(zbt.calls a1 a2 aI aJ _ A7.out).mono ?_
     rintro e ci ⟨rfl,hb⟩;refine⟨_,rfl,?_⟩;replace af:=G.bb af hb;replace HB:=G.bs HB hb;(try clear hb);refine hK.out _ _ ⟨G.z af 0,G.z af 1,(G.hx HB aS),(G.hx HB aR)⟩ (fun hHeld=>?_);clear hK K;refine G.no 22 ?_;refine G.pu 8 23 511 ?_;refine zbO (zbb HT_.out (zli)) ?_;try go_wp2
     go_ret
     exact⟨zkp,G.cB HB.out⟩
    ·rw[if_neg c8]at H;have bA:(((zac aa ac).f0)==aI&&(((zac aa ac).f1)==aJ))=false:=by simpa using c8
     (try(have co:decide (((zac aa ac).f0)=aI&&(((zac aa ac).f1)==aJ))=false:=by simpa using c8));(try(have cp:(((zac aa ac).f0)==aI&&(((zac aa ac).f1)==aJ))=false:=by simpa using c8));(try(have dl:¬ (((zac aa ac).f0)=aI&&(((zac aa ac).f1)==aJ)):=by simpa using c8));clear c8;have H':=G.m H;clear H;have⟨cy,cz,cA,cD⟩:=G.d2 (w:=wr) af;try go_wp2
     replace af:=G.m (zan af.out);replace HB:=G.m (zas HB.out);have ba:0<=(ac:Int):=G.da;have bc:ac<(aa.length:Int):=G.da;obtain⟨aH,bI,aq,au⟩:=zbJ aG.out ac ba bc;have aR:=au;have aS:=aq;cases bI;replace aq:=G.hx HB aq;replace au:=G.hx HB au;replace ba:=eq_true ba;replace bc:=eq_true bc;refine G.st 9 (S:=fun w'=>w'.cell? ⟨aZ,0,none⟩=some (.int .i64 ab)/\w'.cell? ⟨aZ,1,none⟩=some (.slice (some aH) aa.length al)/\w'.cell? (aH.add ((ac).toNat*2))=some (.int .i64 ((zac aa ac).f0))/\w'.cell? ⟨(aH.add ((ac).toNat*2)).block,(aH.add ((ac).toNat*2)).off+1,none⟩=some (.int .i64 ((zac aa ac).f1))) [] ⟨G.z af 0,G.z af 1,(G.hx HB aS),(G.hx HB aR)⟩ zbl.zku zbl.zgm (fun hHeld HT_ HW_=>?_);generalize wr.drew=dp at af HB aq au hHeld⊢;refine G.pu 0 15 1 ?_;refine G.pu 2 17 5 ?_;refine G.pu 5 20 37 ?_;refine G.pu 6 21 101 ?_;refine G.ta4 1 16 103 ?_;refine G.pu 3 18 111 ?_;refine G.ta4 4 19 127 ?_;refine G.on 7 22 255 (fun K hK=>?_);refine G.gs Try.func46 #[.int .i64 a1,.int .i64 a2] ?_;with_reducible refine(zbt.calls a1 a2 aI aJ _ A7.out).mono ?_
     rintro e cX ⟨rfl,hb⟩;refine⟨_,rfl,?_⟩;replace af:=G.bb af hb;replace HB:=G.bs HB hb;(try clear hb);refine hK.out _ _ ⟨G.z af 0,G.z af 1,(G.hx HB aS),(G.hx HB aR)⟩ (fun hHeld=>?_);clear hK K;refine G.no 22 ?_;refine G.pu 8 23 511 ?_;refine zbO (zbb HT_.out (zli)) ?_;try go_wp2
     go_roundg k1
     case measure=>have:=a5.out;omega
     case rel=>exact⟨(wrap64 (ac+1)),(zgP),H',⟨by have:=a5.out;omega⟩,⟨G.cb af.out⟩,⟨G.cB HB.out⟩⟩
   ·rw[if_neg c5]at H;have br:=decide_eq_false c5;clear c5;obtain rfl:=Option.some.inj H;have⟨cE,cF,cG,cH⟩:=G.d2 (w:=wr) af
    go_wp2
    go_ret
    exact⟨zkp,G.cB HB.out⟩
def zbU.f (k:Nat) (ab:Int) (aa:List (S59)) (a1:Int) (a2:Int):Option (Bool):=(zaE.f k ab aa).bind fun bv=>(if bv=true then((zbl.f k ab aa a1 a2).bind fun aO=>(some aO)) else(some false))
theorem zbU.calls (k:Nat) (ab:Int) (ao:Option Addr) (al:Nat) (aa:List (S59)) (a1:Int) (a2:Int) (r:Bool) (w:World) (aK:Kd.C k59 w ao aa.length aa) (aL:aa.length<=al) (h:zbU.f k ab aa a1 a2=some r):
  Calls Try.prog 86 #[.agg #[.int .i64 ab,.slice ao aa.length al],.int .i64 a1,.int .i64 a2] w fun e w'=>e=.returned (.bool r)/\Below w.heap.size w w':=by
 have bY:=Try.underlying31;have aG:=G.m aK;have aY:=G.m aL;clear aK aL;have HB:=G.m (Below.refl w.heap.size w);unfold zbU.f at h;have H:=h;clear h;obtain⟨bv,A4,H⟩:=G.bi H;(try dsimp only at H)
 rcases G.bc H with⟨h_,H_⟩|⟨h_,H_⟩<;> (subst h_;clear H;have H:=H_;clear H_)
 ·obtain⟨aO,A6,H⟩:=G.bi H;(try dsimp only at H);obtain rfl:=Option.some.inj H
  go_enter Try.func86,Try.ntmps86
  go_wp2_with (first|((with_reducible refine G.h 3 rfl ?_);refine G.be 3 #[.int .i64 ab,.slice ao aa.length al] 31 ?_;intro bp hg w7 hbox hb;have av:=G.m (hbox);have ce:=G.m (zhd:w.heap.size<=bp);have cf:=G.m (zhd:w.heap.size<=bp);replace HB:=G.bs HB hb;clear hb hbox hg;have⟨cY,cZ,c_,da⟩:=G.d2 (w:=w7) av)|((with_reducible refine G.f 32 rfl ?_);refine G.gL 8 Try.func32 #[.agg #[.int .i64 ab,.slice ao aa.length al]] ?_;(with_reducible refine(zaE.calls k ab _ _ aa true _ ?side1 ?side2 A4.out).mono ?_);(case side1=>exact G.cC (zay aG.out HB.out));(case side2=>exact aY.out);rintro e w9 ⟨rfl,hb⟩;refine⟨_,rfl,?_⟩;replace av:=G.bb av hb;replace HB:=G.bs HB hb;(try clear hb);have⟨cI,cJ,cL,cM⟩:=G.d2 (w:=w9) av)|(go_at_call 113;(with_reducible refine(zbl.calls k ab _ _ aa a1 a2 aO _ ?side1 ?side2 A6.out).mono ?_);(case side1=>exact G.cC (zay aG.out HB.out));(case side2=>exact aY.out);rintro e ci ⟨rfl,hb⟩;replace av:=G.bb av hb;replace HB:=G.bs HB hb;(try clear hb)))
  go_ret
  exact⟨zkp,G.cB HB.out⟩
 ·obtain rfl:=Option.some.inj H
  go_enter Try.func86,Try.ntmps86
  go_wp2_with (first|((with_reducible refine G.h 3 rfl ?_);refine G.be 3 #[.int .i64 ab,.slice ao aa.length al] 31 ?_;intro bp hg b5 hbox hb;have av:=G.m (hbox);have ce:=G.m (zhd:w.heap.size<=bp);have cf:=G.m (zhd:w.heap.size<=bp);replace HB:=G.bs HB hb;clear hb hbox hg;have⟨cN,cO,cP,cQ⟩:=G.d2 (w:=b5) av)|((with_reducible refine G.f 32 rfl ?_);refine G.gL 8 Try.func32 #[.agg #[.int .i64 ab,.slice ao aa.length al]] ?_;(with_reducible refine(zaE.calls k ab _ _ aa false _ ?side1 ?side2 A4.out).mono ?_);(case side1=>exact G.cC (zay aG.out HB.out));(case side2=>exact aY.out);rintro e cX ⟨rfl,hb⟩;refine⟨_,rfl,?_⟩;replace av:=G.bb av hb;replace HB:=G.bs HB hb;(try clear hb)))
  go_ret
  exact⟨zkp,G.cB HB.out⟩
def zbm.l0:Nat->Int->List Int->Int->Int->Option (Int)
 |0,_,_,_,_=>none
 |k+1,x3,x6,x7,x8=>if x8<x7 then(if 0<=x8 then(if x8<(x6.length:Int) then(if(rd x6 x8)=x3 then(zbm.l0 k x3 x6 x7 (wrap64 (x8+1))) else(some (rd x6 x8))) else(none)) else(none)) else(some x3)
def zbm.f (k:Nat) (l0:List Int):Option (Int):=zbm.l0 k 0 l0 (l0.length:Int) 0
theorem zbm.zcs:∀k,(∀y0 y1 y2 y3,LeO (zbm.l0 k y0 y1 y2 y3) (zbm.l0 (k+1) y0 y1 y2 y3))
 |0=>fun _ _ _ _ r h=>by simp[zbm.l0]at h
 |k+1=>by
  have ap:=zbm.zcs k
  ·intro y0 y1 y2 y3;unfold zbm.l0
   repeat' first
   |(with_reducible exact ap _ _ _ _)
   |(with_reducible exact LeO.refl _)
   |(with_reducible exact LeO.none _)
   |(with_reducible refine LeO.ite ?_ ?_)
   |(with_reducible refine LeO.bind ?_ (fun _=>?_))
   |exact ap _ _ _ _
   |exact LeO.none _
   |refine LeO.ite ?_ ?_
   |refine LeO.bind ?_ (fun _=>?_)
theorem zbm.mono:∀a0 k,LeO (zbm.f k a0) (zbm.f (k+1) a0):=by
 intro a0 k;have ap:=zbm.zcs k;unfold zbm.f
 repeat' with_reducible first|exact ap _ _ _ _|exact LeO.refl _|exact LeO.none _|refine LeO.ite ?_ ?_|refine LeO.bind ?_ (fun _=>?_)
theorem zbm.calls (k:Nat) (A0:Option Addr) (c0:Nat) (l0:List Int) (r:Int) (w:World) (bw:Kd.C (Kd.int .i64) w A0 l0.length l0) (bx:l0.length<=c0) (h:zbm.f k l0=some r):
  Calls Try.prog 109 #[.slice A0 l0.length c0] w fun e w'=>e=.returned (.int .i64 r)/\za_ w w':=by
 have a8:=G.m bw;have ch:=G.m bx;clear bw bx;unfold zbm.f at h;have H:=h;clear h;have H':=G.m H;clear H
 go_enter Try.func109,Try.ntmps109
 go_wp2
 go_loopg [8] k (fun kq v8 w'=>∃ (ai:Int),v8=.int .i64 ai/\zaa (zbm.l0 kq 0 l0 (l0.length:Int) ai=some r)/\zaa (kq<=k)/\za_ w w')
 case atStart=>exact⟨(0),(zgP),H',⟨Nat.le_refl _⟩,by repeat(first|exact za_.refl _|apply za_.step)⟩
 case round=>
  clear H';try clear c1
  obtain⟨ai,rfl,HA,a5,⟨m1,rfl⟩⟩:=hrel;cases gk with
  |zero=>exact absurd HA.out (by simp[zbm.l0])
  |succ k1=>
   have H:=HA.out;clear HA;simp only[zbm.l0]at H
   by_cases c2:ai<(l0.length:Int)
   ·rw[if_pos c2]at H;have bJ:=decide_eq_true c2;clear c2
    obtain⟨bC,H⟩:=G.dp H
    obtain⟨bX,H⟩:=G.dp H
    by_cases c5:(rd l0 ai)=0
    ·rw[if_pos c5]at H;have br:=beq_iff_eq.mpr c5;have bG:=bne_eq_false_iff_eq.mpr c5;clear c5;have H':=G.m H;clear H;have bd:0<=(ai:Int):=G.da;have bf:ai<(l0.length:Int):=G.da;obtain⟨cg,bK,bS⟩:=zaZ a8.out ai bd bf;cases bK;replace bd:=eq_true bd;replace bf:=eq_true bf
     go_wp2
     go_roundg k1
     case measure=>have:=a5.out;omega
     case rel=>exact⟨(wrap64 (ai+1)),(zgP),H',⟨by have:=a5.out;omega⟩,by repeat(first|exact za_.refl _|apply za_.step)⟩
    ·rw[if_neg c5]at H;have br:=beq_eq_false_iff_ne.mpr c5;have bG:=bne_iff_ne.mpr c5;obtain rfl:=Option.some.inj H;have bd:0<=(ai:Int):=G.da;have bf:ai<(l0.length:Int):=G.da;obtain⟨cg,bK,bS⟩:=zaZ a8.out ai bd bf;cases bK;replace bd:=eq_true bd;replace bf:=eq_true bf
     go_wp2
     go_ret
     exact⟨zgP,by repeat(first|exact za_.refl _|apply za_.step)⟩
   ·rw[if_neg c2]at H;have bJ:=decide_eq_false c2;clear c2;obtain rfl:=Option.some.inj H
    go_wp2
    go_ret
    exact⟨zgP,by repeat(first|exact za_.refl _|apply za_.step)⟩
def cmp_isNaN_int.f (a0:Int):Option (Bool):=some (a0 !=a0)
theorem cmp_isNaN_int.calls (a0:Int) (r:Bool) (w:World) (h:cmp_isNaN_int.f a0=some r):
  Calls Try.prog 129 #[.int .i64 a0] w fun e w'=>e=.returned (.bool r)/\za_ w w':=by
 unfold cmp_isNaN_int.f at h;have H:=h;clear h;obtain rfl:=Option.some.inj H
 go_enter Try.func129,Try.ntmps129
 go_wp2
 go_ret
 exact⟨zgP,by repeat(first|exact za_.refl _|apply za_.step)⟩
def cmp_Compare_int.f (a0:Int) (a1:Int):Option (Int):=(cmp_isNaN_int.f a0).bind fun bh=>((cmp_isNaN_int.f a1).bind fun aA=>(if bh=true then(if aA=true then(some 0) else(some (-1))) else(if aA=true then(some 1) else(if a0<a1 then(some (-1)) else(if a0>a1 then(some 1) else(some 0))))))
theorem cmp_Compare_int.calls (a0:Int) (a1:Int) (r:Int) (w:World) (h:cmp_Compare_int.f a0 a1=some r):
  Calls Try.prog 110 #[.int .i64 a0,.int .i64 a1] w fun e w'=>e=.returned (.int .i64 r)/\za_ w w':=by
 unfold cmp_Compare_int.f at h;have H:=h;clear h;obtain⟨bh,A3,H⟩:=G.bi H;(try dsimp only at H);obtain⟨aA,A4,H⟩:=G.bi H;(try dsimp only at H)
 rcases G.bc H with⟨h_,H_⟩|⟨h_,H_⟩<;> (subst h_;clear H;have H:=H_;clear H_)
 ·skip
  rcases G.bc H with⟨h_,H_⟩|⟨h_,H_⟩<;> (subst h_;clear H;have H:=H_;clear H_)
  ·obtain rfl:=Option.some.inj H
   go_enter Try.func110,Try.ntmps110
   go_wp2_with (first|((with_reducible refine G.f 129 rfl ?_);refine G.gL 8 Try.func129 #[.int .i64 a0] ?_;(with_reducible refine(cmp_isNaN_int.calls a0 true _ A3.out).mono ?_);rintro e w' ⟨rfl,⟨nd,rfl⟩⟩;refine⟨_,rfl,?_⟩)|((with_reducible refine G.f 129 rfl ?_);refine G.gL 10 Try.func129 #[.int .i64 a1] ?_;(with_reducible refine(cmp_isNaN_int.calls a1 true _ A4.out).mono ?_);rintro e w' ⟨rfl,⟨nd,rfl⟩⟩;refine⟨_,rfl,?_⟩))
   go_ret
   exact⟨zgP,by repeat(first|exact za_.refl _|apply za_.step)⟩
  ·obtain rfl:=Option.some.inj H
   go_enter Try.func110,Try.ntmps110
   go_wp2_with (first|((with_reducible refine G.f 129 rfl ?_);refine G.gL 8 Try.func129 #[.int .i64 a0] ?_;(with_reducible refine(cmp_isNaN_int.calls a0 true _ A3.out).mono ?_);rintro e w' ⟨rfl,⟨nd,rfl⟩⟩;refine⟨_,rfl,?_⟩)|((with_reducible refine G.f 129 rfl ?_);refine G.gL 10 Try.func129 #[.int .i64 a1] ?_;(with_reducible refine(cmp_isNaN_int.calls a1 false _ A4.out).mono ?_);rintro e w' ⟨rfl,⟨nd,rfl⟩⟩;refine⟨_,rfl,?_⟩))
   go_ret
   exact⟨zgP,by repeat(first|exact za_.refl _|apply za_.step)⟩
 ·skip
  rcases G.bc H with⟨h_,H_⟩|⟨h_,H_⟩<;> (subst h_;clear H;have H:=H_;clear H_)
  ·obtain rfl:=Option.some.inj H
   go_enter Try.func110,Try.ntmps110
   go_wp2_with (first|((with_reducible refine G.f 129 rfl ?_);refine G.gL 8 Try.func129 #[.int .i64 a0] ?_;(with_reducible refine(cmp_isNaN_int.calls a0 false _ A3.out).mono ?_);rintro e w' ⟨rfl,⟨nd,rfl⟩⟩;refine⟨_,rfl,?_⟩)|((with_reducible refine G.f 129 rfl ?_);refine G.gL 10 Try.func129 #[.int .i64 a1] ?_;(with_reducible refine(cmp_isNaN_int.calls a1 true _ A4.out).mono ?_);rintro e w' ⟨rfl,⟨nd,rfl⟩⟩;refine⟨_,rfl,?_⟩))
   go_ret
   exact⟨zgP,by repeat(first|exact za_.refl _|apply za_.step)⟩
  ·skip
   by_cases c8:a0<a1
   ·rw[if_pos c8]at H;have bA:=decide_eq_true c8;clear c8;obtain rfl:=Option.some.inj H
    go_enter Try.func110,Try.ntmps110
    go_wp2_with (first|((with_reducible refine G.f 129 rfl ?_);refine G.gL 8 Try.func129 #[.int .i64 a0] ?_;(with_reducible refine(cmp_isNaN_int.calls a0 false _ A3.out).mono ?_);rintro e w' ⟨rfl,⟨nd,rfl⟩⟩;refine⟨_,rfl,?_⟩)|((with_reducible refine G.f 129 rfl ?_);refine G.gL 10 Try.func129 #[.int .i64 a1] ?_;(with_reducible refine(cmp_isNaN_int.calls a1 false _ A4.out).mono ?_);rintro e w' ⟨rfl,⟨nd,rfl⟩⟩;refine⟨_,rfl,?_⟩))
    go_ret
    exact⟨zgP,by repeat(first|exact za_.refl _|apply za_.step)⟩
   ·rw[if_neg c8]at H;have bA:=decide_eq_false c8;clear c8
    by_cases c9:a0>a1
    ·rw[if_pos c9]at H;have cq:=decide_eq_true c9;clear c9;obtain rfl:=Option.some.inj H
     go_enter Try.func110,Try.ntmps110
     go_wp2_with (first|((with_reducible refine G.f 129 rfl ?_);refine G.gL 8 Try.func129 #[.int .i64 a0] ?_;(with_reducible refine(cmp_isNaN_int.calls a0 false _ A3.out).mono ?_);rintro e w' ⟨rfl,⟨nd,rfl⟩⟩;refine⟨_,rfl,?_⟩)|((with_reducible refine G.f 129 rfl ?_);refine G.gL 10 Try.func129 #[.int .i64 a1] ?_;(with_reducible refine(cmp_isNaN_int.calls a1 false _ A4.out).mono ?_);rintro e w' ⟨rfl,⟨nd,rfl⟩⟩;refine⟨_,rfl,?_⟩))
     go_ret
     exact⟨zgP,by repeat(first|exact za_.refl _|apply za_.step)⟩
    ·rw[if_neg c9]at H;have cq:=decide_eq_false c9;clear c9;obtain rfl:=Option.some.inj H
     go_enter Try.func110,Try.ntmps110
     go_wp2_with (first|((with_reducible refine G.f 129 rfl ?_);refine G.gL 8 Try.func129 #[.int .i64 a0] ?_;(with_reducible refine(cmp_isNaN_int.calls a0 false _ A3.out).mono ?_);rintro e w' ⟨rfl,⟨nd,rfl⟩⟩;refine⟨_,rfl,?_⟩)|((with_reducible refine G.f 129 rfl ?_);refine G.gL 10 Try.func129 #[.int .i64 a1] ?_;(with_reducible refine(cmp_isNaN_int.calls a1 false _ A4.out).mono ?_);rintro e w' ⟨rfl,⟨nd,rfl⟩⟩;refine⟨_,rfl,?_⟩))
     go_ret
     exact⟨zgP,by repeat(first|exact za_.refl _|apply za_.step)⟩
def zba.f (k:Nat) (ab:Int) (aD:Int) (a4:Int) (aP:Int):Option (Int):=(cmp_Compare_int.f ab a4).bind fun aE=>((cmp_Compare_int.f aD aP).bind fun aB=>((zbm.f k (([aE,aB]:List Int))).bind fun aF=>(some aF)))
theorem zba.mono:∀a0 a1 a2 a3 k,LeO (zba.f k a0 a1 a2 a3) (zba.f (k+1) a0 a1 a2 a3):=by
 intro a0 a1 a2 a3 k;unfold zba.f
 repeat' with_reducible first|exact zbm.mono _ _|exact LeO.refl _|exact LeO.none _|refine LeO.ite ?_ ?_|refine LeO.bind ?_ (fun _=>?_)
def zba.T1:Bool×List (List Nat×List Nat):=(true,[([],[]),([0],[0]),([],[]),([2],[2]),([1,3],[1,3]),([],[]),([5],[5]),([],[]),([7],[7]),([6,8,4],[6,8]),([4,9],[4,9]),([10,9],[10]),([11,11,0,1,2,3,4,5,6,7,8,9,10,11],[11])])
def zba.B1:List Nat:=[0,1,0,4,15,0,32,0,128,511,1023,2047,4095]
theorem zba.zpL:zc0 .any (opsOf Try.f80 1)=zba.T1:=by kernel_rfl
theorem zba.zmS:zby zba.T1.2 zba.B1=true:=by kernel_rfl
theorem zba.calls (k:Nat) (ab:Int) (aD:Int) (a4:Int) (aP:Int) (r:Int) (w:World) (h:zba.f k ab aD a4 aP=some r):
  Calls Try.prog 80 #[.agg #[.int .i64 ab,.int .i64 aD],.agg #[.int .i64 a4,.int .i64 aP]] w fun e w'=>e=.returned (.int .i64 r)/\Below w.heap.size w w':=by
 have bF:=Try.underlying59;have HB:=G.m (Below.refl w.heap.size w);unfold zba.f at h;have H:=h;clear h;obtain⟨aE,A3,H⟩:=G.bi H;(try dsimp only at H);obtain⟨aB,A4,H⟩:=G.bi H;(try dsimp only at H);obtain⟨bL,bq⟩:∃y_:List Int,y_=(([aE,aB]:List Int)):=⟨_,rfl⟩;replace H:((zbm.f k bL).bind fun aF=>(some aF))=some r:=G.y0 bq H
 have bP:=G.m bq;clear bq;obtain⟨aF,A5,H⟩:=G.bi H;(try dsimp only at H);obtain rfl:=Option.some.inj H
 go_enter Try.func80,Try.ntmps80;try go_wp2_with (first|((with_reducible refine G.h 2 rfl ?_);refine G.be 2 #[.int .i64 ab,.int .i64 aD] 59 ?_;intro aM hg w6 hbox hb;have ag:=G.m (hbox);have dg:=G.m (zhd:w.heap.size<=aM);have dh:=G.m (zhd:w.heap.size<=aM);replace HB:=G.bs HB hb;clear hb hbox hg)|((with_reducible refine G.h 3 rfl ?_);refine G.be 3 #[.int .i64 a4,.int .i64 aP] 59 ?_;intro a7 hg w7 hbox hb;have aj:=G.m (hbox);have di:=G.m (zhd:w.heap.size<=a7);have dj:=G.m (zhd:w.heap.size<=a7);replace HB:=G.bs HB hb;have cj:=G.m ((by rw[hg];exact Nat.ne_of_lt (zbg (g:=aM) (o:=.cells #[.int .i64 ab,.int .i64 aD] 59 (0,0)) (G.cb ag.out)):aM≠a7));have ck:=G.m ((by rw[hg];exact Nat.ne_of_gt (zbg (g:=aM) (o:=.cells #[.int .i64 ab,.int .i64 aD] 59 (0,0)) (G.cb ag.out)):a7≠aM));replace ag:=G.bb ag hb;clear hb hbox hg))
 replace ag:=G.m (zan ag.out);replace aj:=G.m (zan aj.out);replace HB:=G.m (zas HB.out);refine G.st 13 (S:=fun w'=>w'.cell? ⟨aM,0,none⟩=some (.int .i64 ab)/\w'.cell? ⟨aM,1,none⟩=some (.int .i64 aD)/\w'.cell? ⟨a7,0,none⟩=some (.int .i64 a4)/\w'.cell? ⟨a7,1,none⟩=some (.int .i64 aP)) [] ⟨G.z ag 0,G.z ag 1,G.z aj 0,G.z aj 1⟩ zba.zpL zba.zmS (fun hHeld HT_ HW_=>?_);generalize w7.drew=w8 at ag aj HB hHeld⊢;refine G.pu 0 5 1 ?_;refine G.pu 2 7 5 ?_;refine G.pu 5 10 37 ?_;refine G.pu 7 12 165 ?_;refine G.ta4 1 6 167 ?_;refine G.ta4 3 8 175 ?_;refine G.ta4 6 11 239 ?_;refine G.ta4 8 13 495 ?_;refine G.on 4 9 511 (fun K hK=>?_);refine G.gs Try.func110 #[.int .i64 ab,.int .i64 a4] ?_;with_reducible refine(cmp_Compare_int.calls ab a4 aE _ A3.out).mono ?_
 rintro e w' ⟨rfl,⟨nd,rfl⟩⟩;refine⟨_,rfl,?_⟩;refine hK.out _ _ ⟨G.z ag 0,G.z ag 1,G.z aj 0,G.z aj 1⟩ (fun hHeld=>?_);clear hK K;refine G.no 9 ?_;refine G.on 9 14 1023 (fun K hK=>?_);refine G.gs Try.func110 #[.int .i64 aD,.int .i64 aP] ?_;with_reducible refine(cmp_Compare_int.calls aD aP aB _ A4.out).mono ?_
 rintro e w' ⟨rfl,⟨nd,rfl⟩⟩;refine⟨_,rfl,?_⟩;refine hK.out _ _ ⟨G.z ag 0,G.z ag 1,G.z aj 0,G.z aj 1⟩ (fun hHeld=>?_);clear hK K;refine G.no 14 ?_;refine G.on 10 15 2047 (fun K hK=>?_);refine zc9 (Kd.int .i64) _ 3 ?hg (N:=15) ?hd (xs:=([aE,aB]:List Int)) (inner:=[.int .i64 aE,.int .i64 aB]) (ok:=fun _=>True) (okp:=fun _=>True) ?hr ?hp (fun _ hk=>hk) trivial (Below.refl _ _) (Nat.le_refl _) (by simp) ?_;(case hd=>rfl);(case hg=>rfl);(case hr=>first|(go_simp;done)|(go_simp;rfl));(case hp=>exact(zbK.one (show Kd.M (Kd.int .i64) _ _ _ aE [.int .i64 aE] from rfl) (zbK.one (show Kd.M (Kd.int .i64) _ _ _ aB [.int .i64 aB] from rfl) (zbK.none _ _))));intro dn w9 bB hb hg_ hnew_;clear hg_ hnew_;(first|rw[←bP.out]at bB|(simp only[Int.reduceToNat]at bB;rw[←bP.out]at bB));have bD:=G.m (zaI bB (zai (G.cB HB.out)));replace ag:=G.bb ag hb;replace aj:=G.bb aj hb;replace HB:=G.bs HB hb;clear hb bB;obtain⟨cr,ct,b7⟩:=zau bD.out;(first|subst b7|(injection b7 with cl db cm;have dc:=cl.symm;have dd:=cm.symm;clear cl db cm;subst dc;subst dd));refine hK.out _ _ ⟨G.z ag 0,G.z ag 1,G.z aj 0,G.z aj 1⟩ (fun hHeld=>?_);clear hK K;refine G.no 15 ?_;refine G.on 11 16 4095 (fun K hK=>?_);refine G.gs Try.func109 #[.slice cr bL.length ct] ?_;with_reducible refine(zbm.calls k _ _ bL aF _ ?side1 ?side2 A5.out).mono ?_
 (case side1=>exact G.cC (zaf bD.out).2.2);(case side2=>exact(zaf bD.out).2.1);rintro e w' ⟨rfl,⟨nd,rfl⟩⟩;refine⟨_,rfl,?_⟩;refine hK.out _ _ ⟨G.z ag 0,G.z ag 1,G.z aj 0,G.z aj 1⟩ (fun hHeld=>?_);clear hK K;refine G.no 16 ?_;refine G.pu 12 4 8191 ?_;refine zbO (zbb HT_.out (zli)) ?_;try go_wp2
 go_ret
 exact⟨zkp,G.cB HB.out⟩
def zaJ.l0:Nat->List (S59)->Int->Option (Bool)
 |0,_,_=>none
 |k+1,x0,x3=>if x3<(x0.length:Int) then(if 0<=(wrap64 (x3 - 1)) then(if(wrap64 (x3 - 1))<(x0.length:Int) then(if 0<=x3 then((zba.f k ((zac x0 (wrap64 (x3 - 1))).f0) ((zac x0 (wrap64 (x3 - 1))).f1) ((zac x0 x3).f0) ((zac x0 x3).f1)).bind fun aQ=>(if aQ>=0 then(some false) else(zaJ.l0 k x0 (wrap64 (x3+1))))) else(none)) else(none)) else(none)) else(some true)
def zaJ.f (k:Nat) (l0:List (S59)):Option (Bool):=zaJ.l0 k l0 1
theorem zaJ.zcs:∀k,(∀y0 y1,LeO (zaJ.l0 k y0 y1) (zaJ.l0 (k+1) y0 y1))
 |0=>fun _ _ r h=>by simp[zaJ.l0]at h
 |k+1=>by
  have ap:=zaJ.zcs k
  ·intro y0 y1;unfold zaJ.l0
   repeat' first
   |(with_reducible exact ap _ _)
   |(with_reducible exact zba.mono _ _ _ _ _)
   |(with_reducible exact LeO.refl _)
   |(with_reducible exact LeO.none _)
   |(with_reducible refine LeO.ite ?_ ?_)
   |(with_reducible refine LeO.bind ?_ (fun _=>?_))
   |exact ap _ _
   |exact zba.mono _ _ _ _ _
   |exact LeO.none _
   |refine LeO.ite ?_ ?_
   |refine LeO.bind ?_ (fun _=>?_)
theorem zaJ.mono:∀a0 k,LeO (zaJ.f k a0) (zaJ.f (k+1) a0):=by
 intro a0 k;have ap:=zaJ.zcs k;unfold zaJ.f
 repeat' with_reducible first|exact ap _ _|exact zba.mono _ _ _ _ _|exact LeO.refl _|exact LeO.none _|refine LeO.ite ?_ ?_|refine LeO.bind ?_ (fun _=>?_)
def zaJ.T4:Bool×List (List Nat×List Nat):=(true,[([],[]),([],[]),([1],[1]),([0,2],[0,2]),([3],[3]),([],[]),([],[]),([5,6],[5,6]),([7],[7]),([4,8],[4,8]),([9],[9])])
def zaJ.B4:List Nat:=[0,0,2,7,15,0,0,96,224,511,1023]
theorem zaJ.zku:zc0 .any (opsOf Try.f88 4)=zaJ.T4:=by kernel_rfl
theorem zaJ.zgm:zby zaJ.T4.2 zaJ.B4=true:=by kernel_rfl
theorem zaJ.calls (k:Nat) (A0:Option Addr) (c0:Nat) (l0:List (S59)) (r:Bool) (w:World) (bw:Kd.C k59 w A0 l0.length l0) (bx:l0.length<=c0) (h:zaJ.f k l0=some r):
  Calls Try.prog 88 #[.slice A0 l0.length c0] w fun e w'=>e=.returned (.bool r)/\Below w.heap.size w w':=by
 have bF:=Try.underlying59;have a8:=G.m bw;have ch:=G.m bx;clear bw bx;have HB:=G.m (Below.refl w.heap.size w);unfold zaJ.f at h;have H:=h;clear h;have H':=G.m H;clear H
 go_enter Try.func88,Try.ntmps88
 go_wp2
 go_loopg [3] k (fun kq v3 w'=>∃ (ae:Int),v3=.int .i64 ae/\zaa (zaJ.l0 kq l0 ae=some r)/\zaa (kq<=k)/\zaa (Below w.heap.size w w'))
 case atStart=>exact⟨(1),(zgP),H',⟨Nat.le_refl _⟩,⟨G.cB HB.out⟩⟩
 case round=>
  clear H';obtain⟨ae,rfl,HA,a5,HB⟩:=hrel;cases gk with
  |zero=>exact absurd HA.out (by simp[zaJ.l0])
  |succ k1=>
   have H:=HA.out;clear HA;simp only[zaJ.l0]at H
   by_cases c2:ae<(l0.length:Int)
   ·rw[if_pos c2]at H;have bJ:=decide_eq_true c2;clear c2;obtain⟨ah,bz⟩:∃j_:Int,(wrap64 (ae - 1))=j_:=⟨_,rfl⟩;replace H:(if 0<=(ah) then(if(ah)<(l0.length:Int) then(if 0<=ae then((zba.f k1 ((zac l0 (ah)).f0) ((zac l0 (ah)).f1) ((zac l0 ae).f0) ((zac l0 ae).f1)).bind fun aQ=>(if aQ>=0 then(some false) else(zaJ.l0 k1 l0 (wrap64 (ae+1))))) else(none)) else(none)) else(none))=some r:=by first|(rw[bz]at H;exact H)|(simp only[bz]at H⊢;exact H)
    have dk:(IntKind.i64.wrap (ae - 1))=ah:=(zb4 _).trans bz
    obtain⟨bX,H⟩:=G.dp H
    obtain⟨br,H⟩:=G.dp H
    obtain⟨cn,H⟩:=G.dp H;obtain⟨aQ,A7,H⟩:=G.bi H;(try dsimp only at H)
    by_cases c8:aQ>=0
    ·rw[if_pos c8]at H;have bA:=decide_eq_true c8;clear c8;obtain rfl:=Option.some.inj H;try go_wp2
     replace HB:=G.m (zas HB.out);have bj:0<=((ah):Int):=G.da;have bk:(ah)<(l0.length:Int):=G.da;obtain⟨am,bM,aw,ax⟩:=zbJ a8.out (ah) bj bk;have aT:=ax;have aU:=aw;cases bM;replace aw:=G.hx HB aw;replace ax:=G.hx HB ax;replace bj:=eq_true bj;replace bk:=eq_true bk;have bl:0<=(ae:Int):=G.da;have bm:ae<(l0.length:Int):=G.da;obtain⟨bE,bN,ay,az⟩:=zbJ a8.out ae bl bm;have aV:=az;have aW:=ay;obtain rfl:am=bE:=(by injection bN);replace ay:=G.hx HB ay;replace az:=G.hx HB az;replace bl:=eq_true bl;replace bm:=eq_true bm;refine G.st 11 (S:=fun w'=>w'.cell? (am.add (((ah)).toNat*2))=some (.int .i64 ((zac l0 (ah)).f0))/\w'.cell? ⟨(am.add (((ah)).toNat*2)).block,(am.add (((ah)).toNat*2)).off+1,none⟩=some (.int .i64 ((zac l0 (ah)).f1))/\w'.cell? (am.add ((ae).toNat*2))=some (.int .i64 ((zac l0 ae).f0))/\w'.cell? ⟨(am.add ((ae).toNat*2)).block,(am.add ((ae).toNat*2)).off+1,none⟩=some (.int .i64 ((zac l0 ae).f1))) [] ⟨(G.hx HB aU),(G.hx HB aT),(G.hx HB aW),(G.hx HB aV)⟩ zaJ.zku zaJ.zgm (fun hHeld HT_ HW_=>?_);generalize wr.drew=w9 at HB aw ax ay az hHeld⊢;refine G.pu 0 10 1 ?_;refine G.pu 1 11 3 ?_;refine G.pu 2 12 7 ?_;refine G.pu 3 13 15 ?_;refine G.pu 5 15 47 ?_;refine G.pu 6 16 111 ?_;refine G.pu 7 17 239 ?_;refine G.ta4 4 14 255 ?_;refine G.ta4 8 18 511 ?_;refine G.on 9 19 1023 (fun K hK=>?_);refine zdd Try.func80 (zli) rfl #[.agg #[.int .i64 ((zac l0 (ah)).f0),.int .i64 ((zac l0 (ah)).f1)],.agg #[.int .i64 ((zac l0 ae).f0),.int .i64 ((zac l0 ae).f1)]] (by rfl) rfl rfl (zqL) ?_;with_reducible refine(zba.calls k1 ((zac l0 (ah)).f0) ((zac l0 (ah)).f1) ((zac l0 ae).f0) ((zac l0 ae).f1) aQ _ A7.out).mono ?_
     rintro e b4 ⟨rfl,hb⟩;refine⟨_,rfl,?_⟩;replace HB:=G.bs HB hb;(try clear hb);refine hK.out _ _ ⟨(G.hx HB aU),(G.hx HB aT),(G.hx HB aW),(G.hx HB aV)⟩ (fun hHeld=>?_);clear hK K;refine G.no 19 ?_;refine G.pu 10 20 2047 ?_;refine zbO (zbb HT_.out (zli)) ?_;try go_wp2
     go_ret
     exact⟨by first|rfl|(simp[za1,za2]<;>rfl)|(simp only[←bz];first|rfl|(simp[za1,za2]<;>rfl))|(simp[*,za1,za2]<;>rfl),G.cB HB.out⟩
    ·rw[if_neg c8]at H;have bA:=decide_eq_false c8;clear c8;have H':=G.m H;clear H;try go_wp2
     replace HB:=G.m (zas HB.out);have bj:0<=((ah):Int):=G.da;have bk:(ah)<(l0.length:Int):=G.da;obtain⟨am,bM,aw,ax⟩:=zbJ a8.out (ah) bj bk;have aT:=ax;have aU:=aw;cases bM;replace aw:=G.hx HB aw;replace ax:=G.hx HB ax;replace bj:=eq_true bj;replace bk:=eq_true bk;have bl:0<=(ae:Int):=G.da;have bm:ae<(l0.length:Int):=G.da;obtain⟨bE,bN,ay,az⟩:=zbJ a8.out ae bl bm;have aV:=az;have aW:=ay;obtain rfl:am=bE:=(by injection bN);replace ay:=G.hx HB ay;replace az:=G.hx HB az;replace bl:=eq_true bl;replace bm:=eq_true bm;refine G.st 11 (S:=fun w'=>w'.cell? (am.add (((ah)).toNat*2))=some (.int .i64 ((zac l0 (ah)).f0))/\w'.cell? ⟨(am.add (((ah)).toNat*2)).block,(am.add (((ah)).toNat*2)).off+1,none⟩=some (.int .i64 ((zac l0 (ah)).f1))/\w'.cell? (am.add ((ae).toNat*2))=some (.int .i64 ((zac l0 ae).f0))/\w'.cell? ⟨(am.add ((ae).toNat*2)).block,(am.add ((ae).toNat*2)).off+1,none⟩=some (.int .i64 ((zac l0 ae).f1))) [] ⟨(G.hx HB aU),(G.hx HB aT),(G.hx HB aW),(G.hx HB aV)⟩ zaJ.zku zaJ.zgm (fun hHeld HT_ HW_=>?_);generalize wr.drew=ci at HB aw ax ay az hHeld⊢;refine G.pu 0 10 1 ?_;refine G.pu 1 11 3 ?_;refine G.pu 2 12 7 ?_;refine G.pu 3 13 15 ?_;refine G.pu 5 15 47 ?_;refine G.pu 6 16 111 ?_;refine G.pu 7 17 239 ?_;refine G.ta4 4 14 255 ?_;refine G.ta4 8 18 511 ?_;refine G.on 9 19 1023 (fun K hK=>?_);refine zdd Try.func80 (zli) rfl #[.agg #[.int .i64 ((zac l0 (ah)).f0),.int .i64 ((zac l0 (ah)).f1)],.agg #[.int .i64 ((zac l0 ae).f0),.int .i64 ((zac l0 ae).f1)]] (by rfl) rfl rfl (zqL) ?_;with_reducible refine(zba.calls k1 ((zac l0 (ah)).f0) ((zac l0 (ah)).f1) ((zac l0 ae).f0) ((zac l0 ae).f1) aQ _ A7.out).mono ?_
     rintro e b5 ⟨rfl,hb⟩;refine⟨_,rfl,?_⟩;replace HB:=G.bs HB hb;(try clear hb);refine hK.out _ _ ⟨(G.hx HB aU),(G.hx HB aT),(G.hx HB aW),(G.hx HB aV)⟩ (fun hHeld=>?_);clear hK K;refine G.no 19 ?_;refine G.pu 10 20 2047 ?_;refine zbO (zbb HT_.out (zli)) ?_;try go_wp2
     go_roundg k1
     case measure=>have:=a5.out;omega
     case rel=>exact⟨(wrap64 (ae+1)),(zgP),H',⟨by have:=a5.out;omega⟩,⟨G.cB HB.out⟩⟩
   ·rw[if_neg c2]at H;have bJ:=decide_eq_false c2;clear c2;obtain rfl:=Option.some.inj H
    go_wp2
    go_ret
    exact⟨zkp,G.cB HB.out⟩
theorem zo7 {p:Prop}(h:p:=by rw[hg];exact Nat.ne_of_lt (zbg (g:=ao) (o:=.cells #[.int .i64 af,.slice (some aL) aa.length av] 31 (0,0)) (G.cb ac.out))):p:=h
theorem zo9 {p:Prop}(h:p:=by rw[hg];exact Nat.ne_of_gt (zbg (g:=ao) (o:=.cells #[.int .i64 af,.slice (some aL) aa.length av] 31 (0,0)) (G.cb ac.out))):p:=h
theorem zlj {p:Prop}(h:p:=by first|rfl|(simp[za1,za2]<;>rfl)|(simp[*,za1,za2]<;>rfl)):p:=h
theorem znh {p:Prop}(h:p:=by first|rfl|(simp;done)|(simp[*];done)):p:=h
theorem zgc {p:Prop}(h:p:=by rw[hg];exact(zai (G.cB HB.out))):p:=h
attribute [local go_sem high] zkX
mutual
def zaW.j0:Nat->Bool->Int->List (S59)->Option (Bool)
 |0,_,_,_=>none
 |k+1,cv,aG,ay=>if cv=true then(some false) else(zaW.l0 k ay (ay.length:Int) 0 aG ay)
def zaW.l0:Nat->List (S59)->Int->Int->Int->List (S59)->Option (Bool)
 |0,_,_,_,_,_=>none
 |k+1,aU,bO,aQ,aG,ay=>if aQ<bO then(if 0<=aQ then(if aQ<(aU.length:Int) then(if((zac aU aQ).f0)<0 then(some false) else(if((zac aU aQ).f0)>=((zac aU aQ).f1) then(some false) else(if((zac aU aQ).f1)>=aG then(some false) else(zaW.l0 k aU bO (wrap64 (aQ+1)) aG ay)))) else(none)) else(none)) else((zaJ.f k ay).bind fun a4=>(some a4))
end
def zaW.f (k:Nat) (af:Int) (aa:List (S59)):Option (Bool):=if af<0 then(zaW.j0 k true af aa) else(zaW.j0 k (decide (af>8)) af aa)
theorem zaW.zcs:∀k,(∀y0 y1 y2,LeO (zaW.j0 k y0 y1 y2) (zaW.j0 (k+1) y0 y1 y2))/\(∀y0 y1 y2 y3 y4,LeO (zaW.l0 k y0 y1 y2 y3 y4) (zaW.l0 (k+1) y0 y1 y2 y3 y4))
 |0=>⟨fun _ _ _ r h=>by simp[zaW.j0]at h,fun _ _ _ _ _ r h=>by simp[zaW.l0]at h⟩
 |k+1=>by
  obtain⟨aE,bd⟩:=zaW.zcs k;refine⟨?_,?_⟩<;>intros
  all_goals first|unfold zaW.j0|unfold zaW.l0
  repeat' with_reducible first|exact aE _ _ _|exact bd _ _ _ _ _|exact zaJ.mono _ _|exact LeO.refl _|exact LeO.none _|refine LeO.ite ?_ ?_|refine LeO.bind ?_ (fun _=>?_)
theorem zaW.mono:∀a0 a1 k,LeO (zaW.f k a0 a1) (zaW.f (k+1) a0 a1):=by
 intro a0 a1 k;obtain⟨aE,bd⟩:=zaW.zcs k;unfold zaW.f
 repeat' with_reducible first|exact aE _ _ _|exact bd _ _ _ _ _|exact zaJ.mono _ _|exact LeO.refl _|exact LeO.none _|refine LeO.ite ?_ ?_|refine LeO.bind ?_ (fun _=>?_)
theorem zaW.calls (k:Nat) (af:Int) (aw:Option Addr) (av:Nat) (aa:List (S59)) (r:Bool) (w:World) (aM:Kd.C k59 w aw aa.length aa) (aN:aa.length<=av) (h:zaW.f k af aa=some r):
  Calls Try.prog 50 #[.agg #[.int .i64 af,.slice aw aa.length av]] w fun e w'=>e=.returned (.bool r)/\Below w.heap.size w w':=by
 have bV:=Try.underlying31;have bo:=Try.underlying59;have aB:=G.m aM;have a5:=G.m aN;clear aM aN;have HB:=G.m (Below.refl w.heap.size w);unfold zaW.f at h;have H:=h;clear h;have bz:=G.m H;clear H
 go_enter Try.func50,Try.ntmps50
 go_upto_region 1 with(first|((with_reducible refine G.h 1 rfl ?_);refine G.be 1 #[.int .i64 af,.slice aw aa.length av] 31 ?_;intro ao hg w3 hbox hb;have ac:=G.m (hbox);have cH:=G.m (zgc:w.heap.size<=ao);have cI:=G.m (zgc:w.heap.size<=ao);replace HB:=G.bs HB hb;clear hb hbox hg))
 (try simp only[Act.put,List.setIfInBounds_toArray,List.set_cons_zero,List.set_cons_succ])
 go_cut [12] (fun cw wc=>∃ (kq:Nat) (aR:Bool),cw=.bool aR/\zaa (zaW.j0 kq aR af aa=some r)/\zaa (kq<=k)/\zaa (wc.heap[ao]? =some (.cells #[.int .i64 af,(.slice aw aa.length av)] 31 (0,0)))/\zaa (Below w.heap.size w wc))
 case first=>
  have H:=bz.out;clear bz
  by_cases c4:af<0
  ·rw[if_pos c4]at H;have aH:=decide_eq_true c4;clear c4;(first|rw[aH]|(simp only[zb4,zcu];rw[aH])|skip);have H':=G.m H;clear H;have⟨bA,bB,bC,bD⟩:=G.d2 (w:=w3) ac
   go_wp2
   go_meet
   case rel=>exact⟨_,(true),(znh),H',⟨by first|omega|exact Nat.le_refl _⟩,⟨G.cb ac.out⟩,⟨G.cB HB.out⟩⟩
  ·rw[if_neg c4]at H;have aH:=decide_eq_false c4;clear c4;(first|rw[aH]|(simp only[zb4,zcu];rw[aH])|skip);have H':=G.m H;clear H;have⟨bE,bF,bG,bH⟩:=G.d2 (w:=w3) ac
   go_wp2
   go_meet
   case rel=>exact⟨_,(decide (af>8)),(znh),H',⟨by first|omega|exact Nat.le_refl _⟩,⟨G.cb ac.out⟩,⟨G.cB HB.out⟩⟩
 case rest=>
  clear bz;obtain⟨kq,aR,rfl,HA,bP,ac,HB⟩:=hcut;cases kq with
  |zero=>exact absurd HA.out (by simp[zaW.j0])
  |succ bI=>
   have H:=HA.out;clear HA;simp only[zaW.j0]at H
   rcases G.bc H with⟨h_,H_⟩|⟨h_,H_⟩<;> (subst h_;clear H;have H:=H_;clear H_)
   ·obtain rfl:=Option.some.inj H
    go_wp2
    go_ret
    exact⟨zlj,G.cB HB.out⟩
   ·have H':=G.m H;clear H;have⟨bf,bh,bj,bk⟩:=G.d2 (w:=wc) ac
    go_wp2
    go_loopg [16] bI (fun kq cx w'=>∃ (ab:Int),cx=.int .i64 ab/\zaa (zaW.l0 kq aa (aa.length:Int) ab af aa=some r)/\zaa (kq<=bI)/\zaa (w'.heap[ao]? =some (.cells #[.int .i64 af,(.slice aw aa.length av)] 31 (0,0)))/\zaa (Below w.heap.size w w'))
    case atStart=>exact⟨(0),(znh),H',⟨Nat.le_refl _⟩,⟨G.cb ac.out⟩,⟨G.cB HB.out⟩⟩
    case round=>
     clear H';(try clear c7 bf bh bj bk);obtain⟨ab,rfl,HA,bQ,ac,HB⟩:=hrel;cases gk with
     |zero=>exact absurd HA.out (by simp[zaW.l0])
     |succ k2=>
      have H:=HA.out;clear HA;simp only[zaW.l0]at H
      by_cases c9:ab<(aa.length:Int)
      ·rw[if_pos c9]at H;have bW:=decide_eq_true c9;clear c9
       obtain⟨cJ,H⟩:=G.dp H
       obtain⟨cL,H⟩:=G.dp H
       by_cases aV:((zac aa ab).f0)<0
       ·rw[if_pos aV]at H;have bK:=decide_eq_true aV;clear aV;obtain rfl:=Option.some.inj H;have aq:0<=(ab:Int):=G.da;have au:ab<(aa.length:Int):=G.da;obtain⟨aL,aI,al,am⟩:=zbJ aB.out ab aq au;cases aI;replace al:=G.hx HB al;replace am:=G.hx HB am;replace aq:=eq_true aq;replace au:=eq_true au
        go_wp2_with (first|((with_reducible refine G.h 4 rfl ?_);refine G.be 4 #[.int .i64 0,.int .i64 0] 59 ?_;intro ai hg cy hbox hb;have aC:=G.m (hbox);have a6:=G.m (zgc:w.heap.size<=ai);have a7:=G.m (zgc:w.heap.size<=ai);replace HB:=G.bs HB hb;have aj:=G.m (zo7:ao≠ai);have ap:=G.m (zo9:ai≠ao);replace ac:=G.bb ac hb;clear hb hbox hg;have cM:=ap.out;have cN:=aj.out;have⟨b1,b2,b3,b4⟩:=G.d2 (w:=cy) aC))
        go_ret
        exact⟨zlj,G.cB HB.out⟩
       ·rw[if_neg aV]at H;have bK:=decide_eq_false aV;clear aV
        by_cases aW:((zac aa ab).f0)>=((zac aa ab).f1)
        ·rw[if_pos aW]at H;have bL:=decide_eq_true aW;clear aW;obtain rfl:=Option.some.inj H;have aq:0<=(ab:Int):=G.da;have au:ab<(aa.length:Int):=G.da;obtain⟨aL,aI,al,am⟩:=zbJ aB.out ab aq au;cases aI;replace al:=G.hx HB al;replace am:=G.hx HB am;replace aq:=eq_true aq;replace au:=eq_true au
         go_wp2_with (first|((with_reducible refine G.h 4 rfl ?_);refine G.be 4 #[.int .i64 0,.int .i64 0] 59 ?_;intro ai hg cz hbox hb;have aC:=G.m (hbox);have a6:=G.m (zgc:w.heap.size<=ai);have a7:=G.m (zgc:w.heap.size<=ai);replace HB:=G.bs HB hb;have aj:=G.m (zo7:ao≠ai);have ap:=G.m (zo9:ai≠ao);replace ac:=G.bb ac hb;clear hb hbox hg;have cO:=ap.out;have cP:=aj.out;have⟨b5,b6,b7,b8⟩:=G.d2 (w:=cz) aC))
         go_ret
         exact⟨zlj,G.cB HB.out⟩
        ·rw[if_neg aW]at H;have bL:=decide_eq_false aW;clear aW
         by_cases aX:((zac aa ab).f1)>=af
         ·rw[if_pos aX]at H;have bM:=decide_eq_true aX;clear aX;obtain rfl:=Option.some.inj H;have aq:0<=(ab:Int):=G.da;have au:ab<(aa.length:Int):=G.da;obtain⟨aL,aI,al,am⟩:=zbJ aB.out ab aq au;cases aI;replace al:=G.hx HB al;replace am:=G.hx HB am;replace aq:=eq_true aq;replace au:=eq_true au
          go_wp2_with (first|((with_reducible refine G.h 4 rfl ?_);refine G.be 4 #[.int .i64 0,.int .i64 0] 59 ?_;intro ai hg bR hbox hb;have aC:=G.m (hbox);have a6:=G.m (zgc:w.heap.size<=ai);have a7:=G.m (zgc:w.heap.size<=ai);replace HB:=G.bs HB hb;have aj:=G.m (zo7:ao≠ai);have ap:=G.m (zo9:ai≠ao);replace ac:=G.bb ac hb;clear hb hbox hg;have cQ:=ap.out;have cS:=aj.out;have⟨b9,b_,ca,cd⟩:=G.d2 (w:=bR) aC;have⟨ce,cf,cg,ch⟩:=G.d2 (w:=bR) ac))
          go_ret
          exact⟨zlj,G.cB HB.out⟩
         ·rw[if_neg aX]at H;have bM:=decide_eq_false aX;clear aX;have H':=G.m H;clear H;have aq:0<=(ab:Int):=G.da;have au:ab<(aa.length:Int):=G.da;obtain⟨aL,aI,al,am⟩:=zbJ aB.out ab aq au;cases aI;replace al:=G.hx HB al;replace am:=G.hx HB am;replace aq:=eq_true aq;replace au:=eq_true au
          go_wp2_with (first|((with_reducible refine G.h 4 rfl ?_);refine G.be 4 #[.int .i64 0,.int .i64 0] 59 ?_;intro ai hg bS hbox hb;have aC:=G.m (hbox);have a6:=G.m (zgc:w.heap.size<=ai);have a7:=G.m (zgc:w.heap.size<=ai);replace HB:=G.bs HB hb;have aj:=G.m (zo7:ao≠ai);have ap:=G.m (zo9:ai≠ao);replace ac:=G.bb ac hb;clear hb hbox hg;have cT:=ap.out;have cU:=aj.out;have⟨ci,cj,ck,cl⟩:=G.d2 (w:=bS) aC;have⟨cm,cn,co,cp⟩:=G.d2 (w:=bS) ac))
          go_roundg k2
          case measure=>have:=bP.out;have:=bQ.out;omega
          case rel=>exact⟨(wrap64 (ab+1)),(znh),H',⟨by have:=bP.out;have:=bQ.out;omega⟩,⟨G.bw ac.out⟩,⟨G.cB HB.out⟩⟩
      ·rw[if_neg c9]at H;have bW:=decide_eq_false c9;clear c9;obtain⟨a4,cA,H⟩:=G.bi H;(try dsimp only at H);obtain rfl:=Option.some.inj H;have⟨cq,cr,ct,cu⟩:=G.d2 (w:=wr) ac
       go_wp2_with (first|((with_reducible refine G.f 88 rfl ?_);refine G.gL 40 Try.func88 #[.slice aw aa.length av] ?_;(with_reducible refine(zaJ.calls k2 _ _ aa a4 _ ?side1 ?side2 cA.out).mono ?_);(case side1=>exact G.cC (zay aB.out HB.out));(case side2=>exact a5.out);rintro e dg ⟨rfl,hb⟩;refine⟨_,rfl,?_⟩;replace ac:=G.bb ac hb;replace HB:=G.bs HB hb;(try clear hb)))
       go_ret
       exact⟨zlj,G.cB HB.out⟩
def zce.f (a0:Int) (a1:Int):Option (Int×Int):=some (mn a0 a1,mx a0 a1)
theorem zce.calls (a0:Int) (a1:Int) (r1:Int) (r2:Int) (w:World) (h:zce.f a0 a1=some (r1,r2)):
  Calls Try.prog 53 #[.int .i64 a0,.int .i64 a1] w fun e w'=>e=.returned (.agg #[.int .i64 r1,.int .i64 r2])/\Below w.heap.size w w':=by
 have bo:=Try.underlying59;have HB:=G.m (Below.refl w.heap.size w);unfold zce.f at h;have H:=h;clear h;obtain⟨bl,a8⟩:∃j_:Int,(mn a0 a1)=j_:=⟨_,rfl⟩;replace H:(some (bl,mx a0 a1))=some (r1,r2):=by first|(rw[a8]at H;exact H)|(simp only[a8]at H⊢;exact H)
 have cW:(if a1<a0 then a1 else a0)=bl:=a8;obtain⟨bJ,a9⟩:∃j_:Int,(mx a0 a1)=j_:=⟨_,rfl⟩;replace H:(some (bl,bJ))=some (r1,r2):=by first|(rw[a9]at H;exact H)|(simp only[a9]at H⊢;exact H)
 have cX:(if a0<a1 then a1 else a0)=bJ:=a9;simp only[Option.some.injEq,Prod.mk.injEq]at H;obtain⟨rfl,rfl⟩:=H
 go_enter Try.func53,Try.ntmps53
 go_wp2_with (first|((with_reducible refine G.h 4 rfl ?_);refine G.be 4 #[.int .i64 0,.int .i64 0] 59 ?_;intro a_ hg w5 hbox hb;have br:=G.m (hbox);have cY:=G.m (zgc:w.heap.size<=a_);have cZ:=G.m (zgc:w.heap.size<=a_);replace HB:=G.bs HB hb;clear hb hbox hg;have⟨bE,bF,bG,bH⟩:=G.d2 (w:=w5) br))
 refine bodyPost_ret (results_cell_row rfl _ _ a_ 59 #[.int .i64 bl,.int .i64 bJ] (0,0) _ rfl (G.bw br.out) Try.underlying59 rfl (by kernel_rfl)) rfl ?_;exact⟨by first|rfl|(simp[za1,za2]<;>rfl)|(simp only[←a8,←a9];first|rfl|(simp[za1,za2]<;>rfl))|(simp[*,za1,za2]<;>rfl),G.cB HB.out⟩
def zaj.l0:Nat->List (S59)->Int->Int->Int->Int->Option (Int)
 |0,_,_,_,_,_=>none
 |k+1,x0,x7,x8,aY,aZ=>if x8<x7 then(if 0<=x8 then(if x8<(x0.length:Int) then(if(aY==((zac x0 x8).f0)&&(aZ==((zac x0 x8).f1)))=true then(some x8) else(zaj.l0 k x0 x7 (wrap64 (x8+1)) aY aZ)) else(none)) else(none)) else(some (-1))
def zaj.f (k:Nat) (l0:List (S59)) (ag:Int) (ah:Int):Option (Int):=zaj.l0 k l0 (l0.length:Int) 0 ag ah
theorem zaj.zcs:∀k,(∀y0 y1 y2 y3 y4,LeO (zaj.l0 k y0 y1 y2 y3 y4) (zaj.l0 (k+1) y0 y1 y2 y3 y4))
 |0=>fun _ _ _ _ _ r h=>by simp[zaj.l0]at h
 |k+1=>by
  have aE:=zaj.zcs k
  ·intro y0 y1 y2 y3 y4;unfold zaj.l0
   repeat' first
   |(with_reducible exact aE _ _ _ _ _)
   |(with_reducible exact LeO.refl _)
   |(with_reducible exact LeO.none _)
   |(with_reducible refine LeO.ite ?_ ?_)
   |(with_reducible refine LeO.bind ?_ (fun _=>?_))
   |exact aE _ _ _ _ _
   |exact LeO.none _
   |refine LeO.ite ?_ ?_
   |refine LeO.bind ?_ (fun _=>?_)
theorem zaj.mono:∀a0 a1 a2 k,LeO (zaj.f k a0 a1 a2) (zaj.f (k+1) a0 a1 a2):=by
 intro a0 a1 a2 k;have aE:=zaj.zcs k;unfold zaj.f
 repeat' with_reducible first|exact aE _ _ _ _ _|exact LeO.refl _|exact LeO.none _|refine LeO.ite ?_ ?_|refine LeO.bind ?_ (fun _=>?_)
theorem zaj.calls (k:Nat) (A0:Option Addr) (c0:Nat) (l0:List (S59)) (ag:Int) (ah:Int) (r:Int) (w:World) (bm:Kd.C k59 w A0 l0.length l0) (bn:l0.length<=c0) (h:zaj.f k l0 ag ah=some r):
  Calls Try.prog 111 #[.slice A0 l0.length c0,.agg #[.int .i64 ag,.int .i64 ah]] w fun e w'=>e=.returned (.int .i64 r)/\Below w.heap.size w w':=by
 have bo:=Try.underlying59;have bu:=G.m bm;have bT:=G.m bn;clear bm bn;have HB:=G.m (Below.refl w.heap.size w);unfold zaj.f at h;have H:=h;clear h;have H':=G.m H;clear H
 go_enter Try.func111,Try.ntmps111
 go_wp2_with (first|((with_reducible refine G.h 3 rfl ?_);refine G.be 3 #[.int .i64 ag,.int .i64 ah] 59 ?_;intro ax hg w3 hbox hb;have aD:=G.m (hbox);have bv:=G.m (zgc:w.heap.size<=ax);have bw:=G.m (zgc:w.heap.size<=ax);replace HB:=G.bs HB hb;clear hb hbox hg))
 repeat(go_quiet (first|((with_reducible refine G.h 3 rfl ?_);refine G.be 3 #[.int .i64 ag,.int .i64 ah] 59 ?_;intro ax hg w3 hbox hb;have aD:=G.m (hbox);have bv:=G.m (zgc:w.heap.size<=ax);have bw:=G.m (zgc:w.heap.size<=ax);replace HB:=G.bs HB hb;clear hb hbox hg));try go_wp2_with (first|((with_reducible refine G.h 3 rfl ?_);refine G.be 3 #[.int .i64 ag,.int .i64 ah] 59 ?_;intro ax hg w3 hbox hb;have aD:=G.m (hbox);have bv:=G.m (zgc:w.heap.size<=ax);have bw:=G.m (zgc:w.heap.size<=ax);replace HB:=G.bs HB hb;clear hb hbox hg)))
 go_loopg [8] k (fun kq v8 w'=>∃ (ae:Int),v8=.int .i64 ae/\zaa (zaj.l0 kq l0 (l0.length:Int) ae ag ah=some r)/\zaa (kq<=k)/\zaa (w'.heap[ax]? =some (.cells #[.int .i64 ag,.int .i64 ah] 59 (0,0)))/\zaa (Below w.heap.size w w'))
 case atStart=>exact⟨(0),(znh),H',⟨Nat.le_refl _⟩,⟨G.cb aD.out⟩,⟨G.cB HB.out⟩⟩
 case round=>
  clear H';obtain⟨ae,rfl,HA,bU,aD,HB⟩:=hrel;cases gk with
  |zero=>exact absurd HA.out (by simp[zaj.l0])
  |succ k1=>
   have H:=HA.out;clear HA;simp only[zaj.l0]at H
   by_cases c4:ae<(l0.length:Int)
   ·rw[if_pos c4]at H;have aH:=decide_eq_true c4;clear c4
    obtain⟨dd,H⟩:=G.dp H
    obtain⟨de,H⟩:=G.dp H
    by_cases c7:(ag==((zac l0 ae).f0)&&(ah==((zac l0 ae).f1)))=true
    ·rw[if_pos c7]at H;have bX:(ag==((zac l0 ae).f0)&&(ah==((zac l0 ae).f1)))=true:=c7;(try(have bY:decide (ag=((zac l0 ae).f0)&&(ah==((zac l0 ae).f1)))=true:=by simpa using c7));(try(have bZ:(ag==((zac l0 ae).f0)&&(ah==((zac l0 ae).f1)))=true:=by simpa using c7));clear c7;obtain rfl:=Option.some.inj H;have⟨bf,bh,bj,bk⟩:=G.d2 (w:=wr) aD;have aJ:0<=(ae:Int):=G.da;have aK:ae<(l0.length:Int):=G.da;obtain⟨bN,bp,az,aA⟩:=zbJ bu.out ae aJ aK;cases bp;replace az:=G.hx HB az;replace aA:=G.hx HB aA;replace aJ:=eq_true aJ;replace aK:=eq_true aK
     go_wp2
     repeat(go_quiet (fail);try go_wp2)
     go_ret
     exact⟨zlj,G.cB HB.out⟩
    ·rw[if_neg c7]at H;have bX:(ag==((zac l0 ae).f0)&&(ah==((zac l0 ae).f1)))=false:=by simpa using c7
     (try(have bY:decide (ag=((zac l0 ae).f0)&&(ah==((zac l0 ae).f1)))=false:=by simpa using c7));(try(have bZ:(ag==((zac l0 ae).f0)&&(ah==((zac l0 ae).f1)))=false:=by simpa using c7));(try(have df:¬ (ag=((zac l0 ae).f0)&&(ah==((zac l0 ae).f1))):=by simpa using c7));clear c7;have H':=G.m H;clear H;have⟨cD,cE,cF,cG⟩:=G.d2 (w:=wr) aD;have aJ:0<=(ae:Int):=G.da;have aK:ae<(l0.length:Int):=G.da;obtain⟨bN,bp,az,aA⟩:=zbJ bu.out ae aJ aK;cases bp;replace az:=G.hx HB az;replace aA:=G.hx HB aA;replace aJ:=eq_true aJ;replace aK:=eq_true aK
     go_wp2
     repeat(go_quiet (fail);try go_wp2)
     go_roundg k1
     case measure=>have:=bU.out;omega
     case rel=>exact⟨(wrap64 (ae+1)),(znh),H',⟨by have:=bU.out;omega⟩,⟨G.cb aD.out⟩,⟨G.cB HB.out⟩⟩
   ·rw[if_neg c4]at H;have aH:=decide_eq_false c4;clear c4;obtain rfl:=Option.some.inj H
    go_wp2
    repeat(go_quiet (fail);try go_wp2)
    go_ret
    exact⟨zlj,G.cB HB.out⟩
def zaO.f (k:Nat) (l0:List (S59)) (ag:Int) (ah:Int):Option (Bool):=(zaj.f k l0 ag ah).bind fun aP=>(some (decide (aP>=0)))
theorem zaO.mono:∀a0 a1 a2 k,LeO (zaO.f k a0 a1 a2) (zaO.f (k+1) a0 a1 a2):=by
 intro a0 a1 a2 k;unfold zaO.f
 repeat' with_reducible first|exact zaj.mono _ _ _ _|exact LeO.refl _|exact LeO.none _|refine LeO.ite ?_ ?_|refine LeO.bind ?_ (fun _=>?_)
theorem zaO.calls (k:Nat) (A0:Option Addr) (c0:Nat) (l0:List (S59)) (ag:Int) (ah:Int) (r:Bool) (w:World) (bm:Kd.C k59 w A0 l0.length l0) (bn:l0.length<=c0) (h:zaO.f k l0 ag ah=some r):
  Calls Try.prog 81 #[.slice A0 l0.length c0,.agg #[.int .i64 ag,.int .i64 ah]] w fun e w'=>e=.returned (.bool r)/\Below w.heap.size w w':=by
 have bo:=Try.underlying59;have bu:=G.m bm;have bT:=G.m bn;clear bm bn;have HB:=G.m (Below.refl w.heap.size w);unfold zaO.f at h;have H:=h;clear h;obtain⟨aP,A3,H⟩:=G.bi H;(try dsimp only at H);obtain rfl:=Option.some.inj H
 go_enter Try.func81,Try.ntmps81
 go_wp2_with (first|((with_reducible refine G.h 3 rfl ?_);refine G.be 3 #[.int .i64 ag,.int .i64 ah] 59 ?_;intro bx hg w4 hbox hb;have aS:=G.m (hbox);have c_:=G.m (zgc:w.heap.size<=bx);have da:=G.m (zgc:w.heap.size<=bx);replace HB:=G.bs HB hb;clear hb hbox hg;have⟨bA,bB,bC,bD⟩:=G.d2 (w:=w4) aS)|((with_reducible refine G.f 111 rfl ?_);refine G.gL 7 Try.func111 #[.slice A0 l0.length c0,.agg #[.int .i64 ag,.int .i64 ah]] ?_;(with_reducible refine(zaj.calls k _ _ l0 ag ah aP _ ?side1 ?side2 A3.out).mono ?_);(case side1=>exact G.cC (zay bu.out HB.out));(case side2=>exact bT.out);rintro e w6 ⟨rfl,hb⟩;refine⟨_,rfl,?_⟩;replace aS:=G.bb aS hb;replace HB:=G.bs HB hb;(try clear hb)))
 go_ret
 exact⟨zlj,G.cB HB.out⟩
def zbw.f (k:Nat) (af:Int) (aa:List (S59)) (a1:Int) (a2:Int):Option (Bool):=(zce.f a1 a2).bind fun aO=>((zaO.f k aa aO.1 aO.2).bind fun aF=>(some aF))
theorem zbw.mono:∀a0 a1 a2 a3 k,LeO (zbw.f k a0 a1 a2 a3) (zbw.f (k+1) a0 a1 a2 a3):=by
 intro a0 a1 a2 a3 k;unfold zbw.f
 repeat' with_reducible first|exact zaO.mono _ _ _ _|exact LeO.refl _|exact LeO.none _|refine LeO.ite ?_ ?_|refine LeO.bind ?_ (fun _=>?_)
theorem zbw.calls (k:Nat) (af:Int) (aw:Option Addr) (av:Nat) (aa:List (S59)) (a1:Int) (a2:Int) (r:Bool) (w:World) (aM:Kd.C k59 w aw aa.length aa) (aN:aa.length<=av) (h:zbw.f k af aa a1 a2=some r):
  Calls Try.prog 65 #[.agg #[.int .i64 af,.slice aw aa.length av],.int .i64 a1,.int .i64 a2] w fun e w'=>e=.returned (.bool r)/\Below w.heap.size w w':=by
 have bV:=Try.underlying31;have aB:=G.m aM;have a5:=G.m aN;clear aM aN;have HB:=G.m (Below.refl w.heap.size w);unfold zbw.f at h;have H:=h;clear h;obtain⟨⟨ba,bc⟩,A4,H⟩:=G.bi H;(try dsimp only at H);obtain⟨aF,A5,H⟩:=G.bi H;(try dsimp only at H);obtain rfl:=Option.some.inj H
 go_enter Try.func65,Try.ntmps65;try go_wp2_with (first|((with_reducible refine G.h 3 rfl ?_);refine G.be 3 #[.int .i64 af,.slice aw aa.length av] 31 ?_;intro aT hg w6 hbox hb;have ak:=G.m (hbox);have db:=G.m (zgc:w.heap.size<=aT);have dc:=G.m (zgc:w.heap.size<=aT);replace HB:=G.bs HB hb;clear hb hbox hg))
 replace ak:=G.m (zan ak.out);replace HB:=G.m (zas HB.out);refine ze5 (n:=7) (S:=fun w'=>w'.cell? ⟨aT,0,none⟩=some (.int .i64 af)/\w'.cell? ⟨aT,1,none⟩=some (.slice aw aa.length av)) (ds:=[]) (G.fl 7 0) (by kernel_rfl) rfl (by kernel_rfl) ⟨G.z ak 0,G.z ak 1⟩ (fun hHeld=>?_);generalize w6.drew=w7 at ak HB hHeld⊢;refine G.pu 0 7 1 ?_;refine G.pu 2 9 5 ?_;refine G.pu 3 10 13 ?_;refine G.ta2 1 8 15 ?_;refine zgj (i:=4) (N:=some 11) (G.fl 7 31) rfl rfl (by kernel_rfl) (by decide) (fun K hK=>?_);refine G.gs Try.func53 #[.int .i64 a1,.int .i64 a2] ?_;with_reducible refine(zce.calls a1 a2 ba bc _ A4.out).mono ?_
 rintro e w8 ⟨rfl,hb⟩;refine⟨_,rfl,?_⟩;replace ak:=G.bb ak hb;replace HB:=G.bs HB hb;(try clear hb);refine hK.out _ _ ⟨G.z ak 0,G.z ak 1⟩ (fun hHeld=>?_);clear hK K;refine G.no 11 ?_;refine zgj (i:=5) (N:=some 12) (G.fl 7 63) rfl rfl (by kernel_rfl) (by decide) (fun K hK=>?_);refine G.gs Try.func81 #[.slice aw aa.length av,.agg #[.int .i64 ba,.int .i64 bc]] ?_;with_reducible refine(zaO.calls k _ _ aa ba bc aF _ ?side1 ?side2 A5.out).mono ?_
 (case side1=>exact G.cC (zay aB.out HB.out));(case side2=>exact a5.out);rintro e w9 ⟨rfl,hb⟩;refine⟨_,rfl,?_⟩;replace ak:=G.bb ak hb;replace HB:=G.bs HB hb;(try clear hb);refine hK.out _ _ ⟨G.z ak 0,G.z ak 1⟩ (fun hHeld=>?_);clear hK K;refine G.no 12 ?_;refine G.pu 6 6 127 ?_;refine zbO (by kernel_rfl) ?_;try go_wp2
 go_ret
 exact⟨zlj,G.cB HB.out⟩
theorem zqb {p:Prop}(h:p:=by(try simp only[List.map_toArray,List.map_cons,List.map_nil]);first|done|(rw[show(l0.take (af:Int).toNat).length=af.toNat from(by rw[List.length_take];have h_:(af:Int)<=(l0.length:Int):=G.da;omega)]<;>rfl)|rfl|(simp only[List.length_drop,List.length_take];rfl)):p:=h
theorem zqq {p:Prop}(h:p:=by(try simp only[List.map_toArray,List.map_cons,List.map_nil]);first|done|(simp only[az];rfl)|rfl|(simp only[List.length_drop,List.length_take];rfl)):p:=h
theorem zoL {p:Prop}(h:p:=by first|rfl|(simp[za1,za2]<;>rfl)|(simp[*,za1,za2]<;>rfl)):p:=h
theorem zje {p:Prop}(h:p:=by first|rfl|(simp;done)|(simp[*];done)):p:=h
theorem znj {p:Prop}(h:p:=by rw[hg];exact(zai (G.cB HB.out))):p:=h
theorem zlJ {p:Prop}(h:p:=by kernel_rfl):p:=h
def zbk.f (ae:Int) (ac:List (S59)) (a1:Int):Option (Bool):=if a1>=0 then(some (decide (a1<ae))) else(some false)
theorem zbk.calls (ae:Int) (aj:Option Addr) (ak:Nat) (ac:List (S59)) (a1:Int) (r:Bool) (w:World) (aK:Kd.C k59 w aj ac.length ac) (aL:ac.length<=ak) (h:zbk.f ae ac a1=some r):
  Calls Try.prog 78 #[.agg #[.int .i64 ae,.slice aj ac.length ak],.int .i64 a1] w fun e w'=>e=.returned (.bool r)/\Below w.heap.size w w':=by
 have bz:=Try.underlying31;have aw:=G.m aK;have ax:=G.m aL;clear aK aL;have HB:=G.m (Below.refl w.heap.size w);unfold zbk.f at h;have H:=h;clear h
 by_cases c3:a1>=0
 ·rw[if_pos c3]at H;have aT:=decide_eq_true c3;clear c3;obtain rfl:=Option.some.inj H
  go_enter Try.func78,Try.ntmps78
  go_wp2_with (first|((with_reducible refine G.h 2 rfl ?_);refine G.be 2 #[.int .i64 ae,.slice aj ac.length ak] 31 ?_;intro aM hg w4 hbox hb;have a8:=G.m (hbox);have bp:=G.m (znj:w.heap.size<=aM);have bq:=G.m (znj:w.heap.size<=aM);replace HB:=G.bs HB hb;clear hb hbox hg;have⟨bC,bD,bE,bF⟩:=G.d2 (w:=w4) a8))
  go_ret
  exact⟨zoL,G.cB HB.out⟩
 ·rw[if_neg c3]at H;have aT:=decide_eq_false c3;clear c3;obtain rfl:=Option.some.inj H
  go_enter Try.func78,Try.ntmps78
  go_wp2_with (first|((with_reducible refine G.h 2 rfl ?_);refine G.be 2 #[.int .i64 ae,.slice aj ac.length ak] 31 ?_;intro aM hg w6 hbox hb;have a8:=G.m (hbox);have bp:=G.m (znj:w.heap.size<=aM);have bq:=G.m (znj:w.heap.size<=aM);replace HB:=G.bs HB hb;clear hb hbox hg))
  go_ret
  exact⟨zoL,G.cB HB.out⟩
def zaF.l0:Nat->List Int->List Int->Int->Int->Int->List (S59)->Option (Bool)
 |0,_,_,_,_,_,_=>none
 |k+1,x1,x7,x8,x9,aA,aB=>if x9<x8 then(if 0<=x9 then(if x9<(x7.length:Int) then((zbk.f aA aB (rd x7 x9)).bind fun aU=>(if aU=true then(if x9>0 then(if 0<=(wrap64 (x9 - 1)) then(if(wrap64 (x9 - 1))<(x1.length:Int) then((zbw.f k aA aB (rd x1 (wrap64 (x9 - 1))) (rd x7 x9)).bind fun av=>(if av=true then(zaF.l0 k x1 x7 x8 (wrap64 (x9+1)) aA aB) else(some false))) else(none)) else(none)) else(zaF.l0 k x1 x7 x8 (wrap64 (x9+1)) aA aB)) else(some false))) else(none)) else(none)) else(some true)
def zaF.f (k:Nat) (ae:Int) (ac:List (S59)) (l1:List Int):Option (Bool):=zaF.l0 k l1 l1 (l1.length:Int) 0 ae ac
theorem zaF.zcs:∀k,(∀y0 y1 y2 y3 y4 y5,LeO (zaF.l0 k y0 y1 y2 y3 y4 y5) (zaF.l0 (k+1) y0 y1 y2 y3 y4 y5))
 |0=>fun _ _ _ _ _ _ r h=>by simp[zaF.l0]at h
 |k+1=>by
  have au:=zaF.zcs k
  ·intro y0 y1 y2 y3 y4 y5;unfold zaF.l0
   repeat' first
   |(with_reducible exact au _ _ _ _ _ _)
   |(with_reducible exact zbw.mono _ _ _ _ _)
   |(with_reducible exact LeO.refl _)
   |(with_reducible exact LeO.none _)
   |(with_reducible refine LeO.ite ?_ ?_)
   |(with_reducible refine LeO.bind ?_ (fun _=>?_))
   |exact au _ _ _ _ _ _
   |exact zbw.mono _ _ _ _ _
   |exact LeO.none _
   |refine LeO.ite ?_ ?_
   |refine LeO.bind ?_ (fun _=>?_)
theorem zaF.mono:∀a0 a1 a2 k,LeO (zaF.f k a0 a1 a2) (zaF.f (k+1) a0 a1 a2):=by
 intro a0 a1 a2 k;have au:=zaF.zcs k;unfold zaF.f
 repeat' with_reducible first|exact au _ _ _ _ _ _|exact zbw.mono _ _ _ _ _|exact LeO.refl _|exact LeO.none _|refine LeO.ite ?_ ?_|refine LeO.bind ?_ (fun _=>?_)
def zaF.T4:Bool×List (List Nat×List Nat):=(true,[([],[]),([],[]),([0,1],[0,1]),([2],[2]),([3,2],[3]),([4],[4]),([5,4],[4,5]),([6,4,4],[4,6]),([7],[7]),([7],[7]),([7],[7]),([10,7],[7,10]),([9,11,7],[7,9,11]),([12,7],[7,12]),([7],[7]),([8,13,14,7,7],[7,8,13,14]),([15,7],[7,15]),([7,16,4],[4,7,16]),([4,17],[4,17])])
def zaF.B4:List Nat:=[0,0,3,7,15,31,63,127,255,255,255,1279,3839,7935,255,32767,65535,131071,262143]
theorem zaF.zku:zc0 .any (opsOf Try.f51 4)=zaF.T4:=by kernel_rfl
theorem zaF.zgm:zby zaF.T4.2 zaF.B4=true:=by kernel_rfl
theorem zaF.calls (k:Nat) (ae:Int) (aj:Option Addr) (ak:Nat) (ac:List (S59)) (A1:Option Addr) (c1:Nat) (l1:List Int) (r:Bool) (w:World) (aK:Kd.C k59 w aj ac.length ac) (aL:ac.length<=ak) (hr1:Kd.C (Kd.int .i64) w A1 l1.length l1) (bu:l1.length<=c1) (h:zaF.f k ae ac l1=some r):
  Calls Try.prog 51 #[.agg #[.int .i64 ae,.slice aj ac.length ak],.slice A1 l1.length c1] w fun e w'=>e=.returned (.bool r)/\Below w.heap.size w w':=by
 have bz:=Try.underlying31;have aw:=G.m aK;have ax:=G.m aL;clear aK aL;have aS:=G.m hr1;have bO:=G.m bu;clear hr1 bu;have HB:=G.m (Below.refl w.heap.size w);unfold zaF.f at h;have H:=h;clear h;have H':=G.m H;clear H
 go_enter Try.func51,Try.ntmps51
 go_wp2_with (first|((with_reducible refine G.h 2 rfl ?_);refine G.be 2 #[.int .i64 ae,.slice aj ac.length ak] 31 ?_;intro ap hg w3 hbox hb;have aa:=G.m (hbox);have bI:=G.m (znj:w.heap.size<=ap);have bJ:=G.m (znj:w.heap.size<=ap);replace HB:=G.bs HB hb;clear hb hbox hg))
 go_loopg [9] k (fun kq v9 w'=>∃ (ab:Int),v9=.int .i64 ab/\zaa (zaF.l0 kq l1 l1 (l1.length:Int) ab ae ac=some r)/\zaa (kq<=k)/\zaa (w'.heap[ap]? =some (.cells #[.int .i64 ae,(.slice aj ac.length ak)] 31 (0,0)))/\zaa (Below w.heap.size w w'))
 case atStart=>exact⟨(0),(zje),H',⟨Nat.le_refl _⟩,⟨G.cb aa.out⟩,⟨G.cB HB.out⟩⟩
 case round=>
  clear H';obtain⟨ab,rfl,HA,aC,aa,HB⟩:=hrel;cases gk with
  |zero=>exact absurd HA.out (by simp[zaF.l0])
  |succ k1=>
   have H:=HA.out;clear HA;simp only[zaF.l0]at H
   by_cases c4:ab<(l1.length:Int)
   ·rw[if_pos c4]at H;have a3:=decide_eq_true c4;clear c4
    obtain⟨bj,H⟩:=G.dp H
    obtain⟨a4,H⟩:=G.dp H;obtain⟨aU,A7,H⟩:=G.bi H;(try dsimp only at H)
    rcases G.bc H with⟨h_,H_⟩|⟨h_,H_⟩<;> (subst h_;clear H;have H:=H_;clear H_)
    ·skip
     by_cases c9:ab>0
     ·rw[if_pos c9]at H;have bA:=decide_eq_true c9;clear c9;obtain⟨ag,az⟩:∃j_:Int,(wrap64 (ab - 1))=j_:=⟨_,rfl⟩;replace H:(if 0<=(ag) then(if(ag)<(l1.length:Int) then((zbw.f k1 ae ac (rd l1 (ag)) (rd l1 ab)).bind fun av=>(if av=true then(zaF.l0 k1 l1 l1 (l1.length:Int) (wrap64 (ab+1)) ae ac) else(some false))) else(none)) else(none))=some r:=by first|(rw[az]at H;exact H)|(simp only[az]at H⊢;exact H)
      (try rw[az]at A7);have bG:(IntKind.i64.wrap (ab - 1))=ag:=(zb4 _).trans az
      obtain⟨bK,H⟩:=G.dp H
      obtain⟨bL,H⟩:=G.dp H;obtain⟨av,bv,H⟩:=G.bi H;(try dsimp only at H)
      rcases G.bc H with⟨h_,H_⟩|⟨h_,H_⟩<;> (subst h_;clear H;have H:=H_;clear H_)
      ·have H':=G.m H;clear H;have am:0<=(ab:Int):=G.da;have ao:ab<(l1.length:Int):=G.da;obtain⟨ay,aD,ai⟩:=zaZ aS.out ab am ao;cases aD;replace ai:=G.hx HB ai;replace am:=eq_true am;replace ao:=eq_true ao;try go_wp2
       replace aa:=G.m (zan aa.out);replace HB:=G.m (zas HB.out);have aE:0<=((ag):Int):=G.da;have aF:(ag)<(l1.length:Int):=G.da;obtain⟨aV,a5,al⟩:=zaZ aS.out (ag) aE aF;have aq:=al;obtain rfl:ay=aV:=(by injection a5);replace al:=G.hx HB al;replace aE:=eq_true aE;replace aF:=eq_true aF;refine G.st 19 (S:=fun w'=>w'.cell? ⟨ap,0,none⟩=some (.int .i64 ae)/\w'.cell? ⟨ap,1,none⟩=some (.slice aj ac.length ak)/\w'.cell? (ay.add ((ag)).toNat)=some (.int .i64 (rd l1 (ag)))) [] ⟨G.z aa 0,G.z aa 1,(G.hx HB aq)⟩ zaF.zku zaF.zgm (fun hHeld HT_ HW_=>?_);generalize wr.drew=bP at aa HB al hHeld⊢;refine G.pu 1 15 2 ?_;refine G.ta3 0 14 3 ?_;refine G.on 2 16 7 (fun K hK=>?_);refine G.gs Try.func78 #[.agg #[.int .i64 ae,.slice aj ac.length ak],.int .i64 (rd l1 ab)] ?_;with_reducible refine(zbk.calls ae _ _ ac (rd l1 ab) true _ ?side1 ?side2 A7.out).mono ?_
       (case side1=>exact G.cC (zay aw.out HB.out));(case side2=>exact ax.out);rintro e bQ ⟨rfl,hb⟩;refine⟨_,rfl,?_⟩;replace aa:=G.bb aa hb;replace HB:=G.bs HB hb;(try clear hb);refine hK.out _ _ ⟨G.z aa 0,G.z aa 1,(G.hx HB aq)⟩ (fun hHeld=>?_);clear hK K;refine G.no 16 ?_;refine G.pu 3 17 15 ?_;refine G.pu 4 18 31 ?_;refine G.pu 5 19 63 ?_;refine G.pu 6 20 127 ?_;refine G.pu 7 21 255 ?_;refine G.pu 9 23 767 ?_;refine G.pu 10 24 1791 ?_;refine G.pu 11 25 3839 ?_;refine G.pu 12 26 7935 ?_;refine G.pu 14 28 24319 ?_;refine G.ta3 8 22 24575 ?_;refine G.ta3 13 27 32767 ?_;refine G.on 15 29 65535 (fun K hK=>?_);refine zdd Try.func65 (zlJ) rfl #[.agg #[.int .i64 ae,.slice aj ac.length ak],.int .i64 (rd l1 (ag)),.int .i64 (rd l1 ab)] (by rfl) rfl rfl (zqq) ?_;with_reducible refine(zbw.calls k1 ae _ _ ac (rd l1 (ag)) (rd l1 ab) true _ ?side1 ?side2 bv.out).mono ?_
       (case side1=>exact G.cC (zay aw.out HB.out));(case side2=>exact ax.out);rintro e bR ⟨rfl,hb⟩;refine⟨_,rfl,?_⟩;replace aa:=G.bb aa hb;replace HB:=G.bs HB hb;(try clear hb);refine hK.out _ _ ⟨G.z aa 0,G.z aa 1,(G.hx HB aq)⟩ (fun hHeld=>?_);clear hK K;refine G.no 29 ?_;refine G.pu 16 30 131071 ?_;refine G.pu 17 31 262143 ?_;refine G.pu 18 32 524287 ?_;refine zbO (zbb HT_.out (zlJ)) ?_;try go_wp2
       go_roundg k1
       case measure=>have:=aC.out;omega
       case rel=>exact⟨(wrap64 (ab+1)),(zje),H',⟨by have:=aC.out;omega⟩,⟨G.cb aa.out⟩,⟨G.cB HB.out⟩⟩
      ·obtain rfl:=Option.some.inj H;have am:0<=(ab:Int):=G.da;have ao:ab<(l1.length:Int):=G.da;obtain⟨ay,aD,ai⟩:=zaZ aS.out ab am ao;cases aD;replace ai:=G.hx HB ai;replace am:=eq_true am;replace ao:=eq_true ao;try go_wp2
       replace aa:=G.m (zan aa.out);replace HB:=G.m (zas HB.out);have aE:0<=((ag):Int):=G.da;have aF:(ag)<(l1.length:Int):=G.da;obtain⟨aV,a5,al⟩:=zaZ aS.out (ag) aE aF;have aq:=al;obtain rfl:ay=aV:=(by injection a5);replace al:=G.hx HB al;replace aE:=eq_true aE;replace aF:=eq_true aF;refine G.st 19 (S:=fun w'=>w'.cell? ⟨ap,0,none⟩=some (.int .i64 ae)/\w'.cell? ⟨ap,1,none⟩=some (.slice aj ac.length ak)/\w'.cell? (ay.add ((ag)).toNat)=some (.int .i64 (rd l1 (ag)))) [] ⟨G.z aa 0,G.z aa 1,(G.hx HB aq)⟩ zaF.zku zaF.zgm (fun hHeld HT_ HW_=>?_);generalize wr.drew=bS at aa HB al hHeld⊢;refine G.pu 1 15 2 ?_;refine G.ta3 0 14 3 ?_;refine G.on 2 16 7 (fun K hK=>?_);refine G.gs Try.func78 #[.agg #[.int .i64 ae,.slice aj ac.length ak],.int .i64 (rd l1 ab)] ?_;with_reducible refine(zbk.calls ae _ _ ac (rd l1 ab) true _ ?side1 ?side2 A7.out).mono ?_
       (case side1=>exact G.cC (zay aw.out HB.out));(case side2=>exact ax.out);rintro e bT ⟨rfl,hb⟩;refine⟨_,rfl,?_⟩;replace aa:=G.bb aa hb;replace HB:=G.bs HB hb;(try clear hb);refine hK.out _ _ ⟨G.z aa 0,G.z aa 1,(G.hx HB aq)⟩ (fun hHeld=>?_);clear hK K;refine G.no 16 ?_;refine G.pu 3 17 15 ?_;refine G.pu 4 18 31 ?_;refine G.pu 5 19 63 ?_;refine G.pu 6 20 127 ?_;refine G.pu 7 21 255 ?_;refine G.pu 9 23 767 ?_;refine G.pu 10 24 1791 ?_;refine G.pu 11 25 3839 ?_;refine G.pu 12 26 7935 ?_;refine G.pu 14 28 24319 ?_;refine G.ta3 8 22 24575 ?_;refine G.ta3 13 27 32767 ?_;refine G.on 15 29 65535 (fun K hK=>?_);refine zdd Try.func65 (zlJ) rfl #[.agg #[.int .i64 ae,.slice aj ac.length ak],.int .i64 (rd l1 (ag)),.int .i64 (rd l1 ab)] (by rfl) rfl rfl (zqq) ?_;with_reducible refine(zbw.calls k1 ae _ _ ac (rd l1 (ag)) (rd l1 ab) false _ ?side1 ?side2 bv.out).mono ?_
       (case side1=>exact G.cC (zay aw.out HB.out));(case side2=>exact ax.out);rintro e bU ⟨rfl,hb⟩;refine⟨_,rfl,?_⟩;replace aa:=G.bb aa hb;replace HB:=G.bs HB hb;(try clear hb);refine hK.out _ _ ⟨G.z aa 0,G.z aa 1,(G.hx HB aq)⟩ (fun hHeld=>?_);clear hK K;refine G.no 29 ?_;refine G.pu 16 30 131071 ?_;refine G.pu 17 31 262143 ?_;refine G.pu 18 32 524287 ?_;refine zbO (zbb HT_.out (zlJ)) ?_;try go_wp2
       go_ret
       exact⟨by first|rfl|(simp[za1,za2]<;>rfl)|(simp only[←az];first|rfl|(simp[za1,za2]<;>rfl))|(simp[*,za1,za2]<;>rfl),G.cB HB.out⟩
     ·rw[if_neg c9]at H;have bA:=decide_eq_false c9;clear c9;have H':=G.m H;clear H;have am:0<=(ab:Int):=G.da;have ao:ab<(l1.length:Int):=G.da;obtain⟨ay,aD,ai⟩:=zaZ aS.out ab am ao;cases aD;replace ai:=G.hx HB ai;replace am:=eq_true am;replace ao:=eq_true ao;try go_wp2
      replace aa:=G.m (zan aa.out);replace HB:=G.m (zas HB.out);refine G.st 19 (S:=fun w'=>w'.cell? ⟨ap,0,none⟩=some (.int .i64 ae)/\w'.cell? ⟨ap,1,none⟩=some (.slice aj ac.length ak)) [] ⟨G.z aa 0,G.z aa 1⟩ zaF.zku zaF.zgm (fun hHeld HT_ HW_=>?_);generalize wr.drew=bV at aa HB hHeld⊢;refine G.pu 1 15 2 ?_;refine G.ta2 0 14 3 ?_;refine G.on 2 16 7 (fun K hK=>?_);refine G.gs Try.func78 #[.agg #[.int .i64 ae,.slice aj ac.length ak],.int .i64 (rd l1 ab)] ?_;with_reducible refine(zbk.calls ae _ _ ac (rd l1 ab) true _ ?side1 ?side2 A7.out).mono ?_
      (case side1=>exact G.cC (zay aw.out HB.out));(case side2=>exact ax.out);rintro e bW ⟨rfl,hb⟩;refine⟨_,rfl,?_⟩;replace aa:=G.bb aa hb;replace HB:=G.bs HB hb;(try clear hb);refine hK.out _ _ ⟨G.z aa 0,G.z aa 1⟩ (fun hHeld=>?_);clear hK K;refine G.no 16 ?_;refine G.pu 3 17 15 ?_;refine G.pu 4 18 31 ?_;refine G.pu 5 19 63 ?_;refine G.pu 6 20 127 ?_;refine G.pu 7 21 255 ?_;refine G.pf 8 22 511 ?_;refine G.pf 9 23 1023 ?_;refine G.pf 10 24 2047 ?_;refine G.pf 11 25 4095 ?_;refine G.pf 12 26 8191 ?_;refine G.pf 13 27 16383 ?_;refine G.pf 14 28 32767 ?_;refine G.pf 15 29 65535 ?_;refine G.pf 16 30 131071 ?_;refine G.pu 17 31 262143 ?_;refine G.pu 18 32 524287 ?_;refine zbO (zbb HT_.out (zlJ)) ?_;try go_wp2
      go_roundg k1
      case measure=>have:=aC.out;omega
      case rel=>exact⟨(wrap64 (ab+1)),(zje),H',⟨by have:=aC.out;omega⟩,⟨G.cb aa.out⟩,⟨G.cB HB.out⟩⟩
    ·obtain rfl:=Option.some.inj H;have am:0<=(ab:Int):=G.da;have ao:ab<(l1.length:Int):=G.da;obtain⟨ay,aD,ai⟩:=zaZ aS.out ab am ao;cases aD;replace ai:=G.hx HB ai;replace am:=eq_true am;replace ao:=eq_true ao;try go_wp2
     replace aa:=G.m (zan aa.out);replace HB:=G.m (zas HB.out);refine G.st 19 (S:=fun w'=>w'.cell? ⟨ap,0,none⟩=some (.int .i64 ae)/\w'.cell? ⟨ap,1,none⟩=some (.slice aj ac.length ak)) [] ⟨G.z aa 0,G.z aa 1⟩ zaF.zku zaF.zgm (fun hHeld HT_ HW_=>?_);generalize wr.drew=bX at aa HB hHeld⊢;refine G.pu 1 15 2 ?_;refine G.ta2 0 14 3 ?_;refine G.on 2 16 7 (fun K hK=>?_);refine G.gs Try.func78 #[.agg #[.int .i64 ae,.slice aj ac.length ak],.int .i64 (rd l1 ab)] ?_;with_reducible refine(zbk.calls ae _ _ ac (rd l1 ab) false _ ?side1 ?side2 A7.out).mono ?_
     (case side1=>exact G.cC (zay aw.out HB.out));(case side2=>exact ax.out);rintro e bY ⟨rfl,hb⟩;refine⟨_,rfl,?_⟩;replace aa:=G.bb aa hb;replace HB:=G.bs HB hb;(try clear hb);refine hK.out _ _ ⟨G.z aa 0,G.z aa 1⟩ (fun hHeld=>?_);clear hK K;refine G.no 16 ?_;refine G.pu 3 17 15 ?_;refine G.pu 4 18 31 ?_;refine G.pf 5 19 63 ?_;refine G.pf 6 20 127 ?_;refine G.pf 7 21 255 ?_;refine G.pf 8 22 511 ?_;refine G.pf 9 23 1023 ?_;refine G.pf 10 24 2047 ?_;refine G.pf 11 25 4095 ?_;refine G.pf 12 26 8191 ?_;refine G.pf 13 27 16383 ?_;refine G.pf 14 28 32767 ?_;refine G.pf 15 29 65535 ?_;refine G.pf 16 30 131071 ?_;refine G.pf 17 31 262143 ?_;refine G.pu 18 32 524287 ?_;refine zbO (zbb HT_.out (zlJ)) ?_;try go_wp2
     go_ret
     exact⟨zoL,G.cB HB.out⟩
   ·rw[if_neg c4]at H;have a3:=decide_eq_false c4;clear c4;obtain rfl:=Option.some.inj H
    go_wp2
    go_ret
    exact⟨zoL,G.cB HB.out⟩
def zaG.l0:Nat->List Int->Int->Int->Int->Option (Int)
 |0,_,_,_,_=>none
 |k+1,x0,x1,x7,x8=>if x8<x7 then(if 0<=x8 then(if x8<(x0.length:Int) then(if x1=(rd x0 x8) then(some x8) else(zaG.l0 k x0 x1 x7 (wrap64 (x8+1)))) else(none)) else(none)) else(some (-1))
def zaG.f (k:Nat) (l0:List Int) (a1:Int):Option (Int):=zaG.l0 k l0 a1 (l0.length:Int) 0
theorem zaG.zcs:∀k,(∀y0 y1 y2 y3,LeO (zaG.l0 k y0 y1 y2 y3) (zaG.l0 (k+1) y0 y1 y2 y3))
 |0=>fun _ _ _ _ r h=>by simp[zaG.l0]at h
 |k+1=>by
  have au:=zaG.zcs k
  ·intro y0 y1 y2 y3;unfold zaG.l0
   repeat' first
   |(with_reducible exact au _ _ _ _)
   |(with_reducible exact LeO.refl _)
   |(with_reducible exact LeO.none _)
   |(with_reducible refine LeO.ite ?_ ?_)
   |(with_reducible refine LeO.bind ?_ (fun _=>?_))
   |exact au _ _ _ _
   |exact LeO.none _
   |refine LeO.ite ?_ ?_
   |refine LeO.bind ?_ (fun _=>?_)
theorem zaG.mono:∀a0 a1 k,LeO (zaG.f k a0 a1) (zaG.f (k+1) a0 a1):=by
 intro a0 a1 k;have au:=zaG.zcs k;unfold zaG.f
 repeat' with_reducible first|exact au _ _ _ _|exact LeO.refl _|exact LeO.none _|refine LeO.ite ?_ ?_|refine LeO.bind ?_ (fun _=>?_)
theorem zaG.calls (k:Nat) (A0:Option Addr) (c0:Nat) (l0:List Int) (a1:Int) (r:Int) (w:World) (aQ:Kd.C (Kd.int .i64) w A0 l0.length l0) (aR:l0.length<=c0) (h:zaG.f k l0 a1=some r):
  Calls Try.prog 114 #[.slice A0 l0.length c0,.int .i64 a1] w fun e w'=>e=.returned (.int .i64 r)/\za_ w w':=by
 have aN:=G.m aQ;have aZ:=G.m aR;clear aQ aR;unfold zaG.f at h;have H:=h;clear h;have H':=G.m H;clear H
 go_enter Try.func114,Try.ntmps114
 go_wp2
 go_loopg [8] k (fun kq v8 w'=>∃ (ah:Int),v8=.int .i64 ah/\zaa (zaG.l0 kq l0 a1 (l0.length:Int) ah=some r)/\zaa (kq<=k)/\za_ w w')
 case atStart=>exact⟨(0),(zje),H',⟨Nat.le_refl _⟩,by repeat(first|exact za_.refl _|apply za_.step)⟩
 case round=>
  clear H';obtain⟨ah,rfl,HA,aC,⟨m1,rfl⟩⟩:=hrel;cases gk with
  |zero=>exact absurd HA.out (by simp[zaG.l0])
  |succ k1=>
   have H:=HA.out;clear HA;simp only[zaG.l0]at H
   by_cases c3:ah<(l0.length:Int)
   ·rw[if_pos c3]at H;have aT:=decide_eq_true c3;clear c3
    obtain⟨a3,H⟩:=G.dp H
    obtain⟨bj,H⟩:=G.dp H
    by_cases c6:a1=(rd l0 ah)
    ·rw[if_pos c6]at H;have a4:=beq_iff_eq.mpr c6;have bk:=bne_eq_false_iff_eq.mpr c6;clear c6;obtain rfl:=Option.some.inj H;have aG:0<=(ah:Int):=G.da;have aH:ah<(l0.length:Int):=G.da;obtain⟨br,a6,bf⟩:=zaZ aN.out ah aG aH;cases a6;replace aG:=eq_true aG;replace aH:=eq_true aH
     go_wp2
     go_ret
     exact⟨zje,by repeat(first|exact za_.refl _|apply za_.step)⟩
    ·rw[if_neg c6]at H;have a4:=beq_eq_false_iff_ne.mpr c6;have bk:=bne_iff_ne.mpr c6;have H':=G.m H;clear H;have aG:0<=(ah:Int):=G.da;have aH:ah<(l0.length:Int):=G.da;obtain⟨br,a6,bf⟩:=zaZ aN.out ah aG aH;cases a6;replace aG:=eq_true aG;replace aH:=eq_true aH
     go_wp2
     go_roundg k1
     case measure=>have:=aC.out;omega
     case rel=>exact⟨(wrap64 (ah+1)),(zje),H',⟨by have:=aC.out;omega⟩,by repeat(first|exact za_.refl _|apply za_.step)⟩
   ·rw[if_neg c3]at H;have aT:=decide_eq_false c3;clear c3;obtain rfl:=Option.some.inj H
    go_wp2
    go_ret
    exact⟨zje,by repeat(first|exact za_.refl _|apply za_.step)⟩
def za3.f (k:Nat) (l0:List Int) (a1:Int):Option (Bool):=(zaG.f k l0 a1).bind fun aP=>(some (decide (aP>=0)))
theorem za3.mono:∀a0 a1 k,LeO (za3.f k a0 a1) (za3.f (k+1) a0 a1):=by
 intro a0 a1 k;unfold za3.f
 repeat' with_reducible first|exact zaG.mono _ _ _|exact LeO.refl _|exact LeO.none _|refine LeO.ite ?_ ?_|refine LeO.bind ?_ (fun _=>?_)
theorem za3.calls (k:Nat) (A0:Option Addr) (c0:Nat) (l0:List Int) (a1:Int) (r:Bool) (w:World) (aQ:Kd.C (Kd.int .i64) w A0 l0.length l0) (aR:l0.length<=c0) (h:za3.f k l0 a1=some r):
  Calls Try.prog 89 #[.slice A0 l0.length c0,.int .i64 a1] w fun e w'=>e=.returned (.bool r)/\za_ w w':=by
 have aN:=G.m aQ;have aZ:=G.m aR;clear aQ aR;unfold za3.f at h;have H:=h;clear h;obtain⟨aP,A3,H⟩:=G.bi H;(try dsimp only at H);obtain rfl:=Option.some.inj H
 go_enter Try.func89,Try.ntmps89
 go_wp2_with (first|((with_reducible refine G.f 114 rfl ?_);refine G.gL 7 Try.func114 #[.slice A0 l0.length c0,.int .i64 a1] ?_;(with_reducible refine(zaG.calls k _ _ l0 a1 aP _ ?side1 ?side2 A3.out).mono ?_);(case side1=>exact G.cC aN.out);(case side2=>exact aZ.out);rintro e w' ⟨rfl,⟨nd,rfl⟩⟩;refine⟨_,rfl,?_⟩))
 go_ret
 exact⟨zje,by repeat(first|exact za_.refl _|apply za_.step)⟩
def zaX.l0:Nat->List Int->List Int->Int->Int->Option (Bool)
 |0,_,_,_,_=>none
 |k+1,x0,x5,x6,x7=>if x7<x6 then(if 0<=x7 then(if x7<(x5.length:Int) then(if x7<=(x0.length:Int) then((za3.f k (x0.take (x7:Int).toNat) (rd x5 x7)).bind fun aW=>(if aW=true then(some false) else(zaX.l0 k x0 x5 x6 (wrap64 (x7+1))))) else(none)) else(none)) else(none)) else(some true)
def zaX.f (k:Nat) (l0:List Int):Option (Bool):=zaX.l0 k l0 l0 (l0.length:Int) 0
theorem zaX.zcs:∀k,(∀y0 y1 y2 y3,LeO (zaX.l0 k y0 y1 y2 y3) (zaX.l0 (k+1) y0 y1 y2 y3))
 |0=>fun _ _ _ _ r h=>by simp[zaX.l0]at h
 |k+1=>by
  have au:=zaX.zcs k
  ·intro y0 y1 y2 y3;unfold zaX.l0
   repeat' first
   |(with_reducible exact au _ _ _ _)
   |(with_reducible exact za3.mono _ _ _)
   |(with_reducible exact LeO.refl _)
   |(with_reducible exact LeO.none _)
   |(with_reducible refine LeO.ite ?_ ?_)
   |(with_reducible refine LeO.bind ?_ (fun _=>?_))
   |exact au _ _ _ _
   |exact za3.mono _ _ _
   |exact LeO.none _
   |refine LeO.ite ?_ ?_
   |refine LeO.bind ?_ (fun _=>?_)
theorem zaX.mono:∀a0 k,LeO (zaX.f k a0) (zaX.f (k+1) a0):=by
 intro a0 k;have au:=zaX.zcs k;unfold zaX.f
 repeat' with_reducible first|exact au _ _ _ _|exact za3.mono _ _ _|exact LeO.refl _|exact LeO.none _|refine LeO.ite ?_ ?_|refine LeO.bind ?_ (fun _=>?_)
theorem zaX.calls (k:Nat) (A0:Option Addr) (c0:Nat) (l0:List Int) (r:Bool) (w:World) (aQ:Kd.C (Kd.int .i64) w A0 l0.length l0) (aR:l0.length<=c0) (h:zaX.f k l0=some r):
  Calls Try.prog 52 #[.slice A0 l0.length c0] w fun e w'=>e=.returned (.bool r)/\za_ w w':=by
 have aN:=G.m aQ;have aZ:=G.m aR;clear aQ aR;unfold zaX.f at h;have H:=h;clear h;have H':=G.m H;clear H
 go_enter Try.func52,Try.ntmps52
 go_wp2
 go_loopg [7] k (fun kq v7 w'=>∃ (af:Int),v7=.int .i64 af/\zaa (zaX.l0 kq l0 l0 (l0.length:Int) af=some r)/\zaa (kq<=k)/\za_ w w')
 case atStart=>exact⟨(0),(zje),H',⟨Nat.le_refl _⟩,by repeat(first|exact za_.refl _|apply za_.step)⟩
 case round=>
  clear H';obtain⟨af,rfl,HA,aC,⟨m1,rfl⟩⟩:=hrel;cases gk with
  |zero=>exact absurd HA.out (by simp[zaX.l0])
  |succ k1=>
   have H:=HA.out;clear HA;simp only[zaX.l0]at H
   by_cases c2:af<(l0.length:Int)
   ·rw[if_pos c2]at H;have bB:=decide_eq_true c2;clear c2
    obtain⟨aT,H⟩:=G.dp H
    obtain⟨a3,H⟩:=G.dp H;have bj:=eq_true (of_decide_eq_true (G.asm):0<=af)
    obtain⟨c6,H⟩:=G.ip H;have a4:=eq_true c6;have bk:=decide_eq_true c6;clear c6;obtain⟨aW,A7,H⟩:=G.bi H;(try dsimp only at H)
    rcases G.bc H with⟨h_,H_⟩|⟨h_,H_⟩<;> (subst h_;clear H;have H:=H_;clear H_)
    ·obtain rfl:=Option.some.inj H;have aI:0<=(af:Int):=G.da;have aJ:af<(l0.length:Int):=G.da;obtain⟨aO,a7,bh⟩:=zaZ aN.out af aI aJ;cases a7;replace aI:=eq_true aI;replace aJ:=eq_true aJ;obtain⟨bZ,bl,_,bm,_⟩:=info_parts info3;obtain⟨bM,bw,bx⟩:=zdt (P:=Try.prog) (Value.int .i64) 0 45 3 .i64 Try.underlying45 bl bm (some aO) c0 l0 af G.da G.da aZ.out;have aX:=G.m (zc7 (h1:=fun _=>rfl) (bw _ (zcT aN.out)));have aY:=G.m bx;clear bw bx bl bm
     go_wp2_with (first|((with_reducible refine zb8 (f:=89) rfl ?_);refine zdL (some 16) rfl rfl Try.func89 (zlJ) rfl #[.slice (some aO) (l0.take (af:Int).toNat).length c0,.int .i64 (rd l0 af)] rfl (zqb) ?_;(with_reducible refine(za3.calls k1 _ _ (l0.take (af:Int).toNat) (rd l0 af) true _ ?side1 ?side2 A7.out).mono ?_);(case side1=>exact G.cC aX.out);(case side2=>exact aY.out);rintro e w' ⟨rfl,⟨nd,rfl⟩⟩;refine⟨_,rfl,?_⟩))
     go_ret
     exact⟨zje,by repeat(first|exact za_.refl _|apply za_.step)⟩
    ·have H':=G.m H;clear H;have aI:0<=(af:Int):=G.da;have aJ:af<(l0.length:Int):=G.da;obtain⟨aO,a7,bh⟩:=zaZ aN.out af aI aJ;cases a7;replace aI:=eq_true aI;replace aJ:=eq_true aJ;obtain⟨bN,bc,_,bd,_⟩:=info_parts info3;obtain⟨bH,bn,bo⟩:=zdt (P:=Try.prog) (Value.int .i64) 0 45 3 .i64 Try.underlying45 bc bd (some aO) c0 l0 af G.da G.da aZ.out;have aX:=G.m (zc7 (h1:=fun _=>rfl) (bn _ (zcT aN.out)));have aY:=G.m bo;clear bn bo bc bd
     go_wp2_with (first|((with_reducible refine zb8 (f:=89) rfl ?_);refine zdL (some 16) rfl rfl Try.func89 (zlJ) rfl #[.slice (some aO) (l0.take (af:Int).toNat).length c0,.int .i64 (rd l0 af)] rfl (zqb) ?_;(with_reducible refine(za3.calls k1 _ _ (l0.take (af:Int).toNat) (rd l0 af) false _ ?side1 ?side2 A7.out).mono ?_);(case side1=>exact G.cC aX.out);(case side2=>exact aY.out);rintro e w' ⟨rfl,⟨nd,rfl⟩⟩;refine⟨_,rfl,?_⟩))
     go_roundg k1
     case measure=>have:=aC.out;omega
     case rel=>exact⟨(wrap64 (af+1)),(zje),H',⟨by have:=aC.out;omega⟩,by repeat(first|exact za_.refl _|apply za_.step)⟩
   ·rw[if_neg c2]at H;have bB:=decide_eq_false c2;clear c2;obtain rfl:=Option.some.inj H
    go_wp2
    go_ret
    exact⟨zje,by repeat(first|exact za_.refl _|apply za_.step)⟩
theorem znw {p:Prop}(h:p:=by first|rfl|(simp;done)|(simp[*];done)):p:=h
def zaA.l0:Nat->List Bool->Bool->Int->Int->Option (Int)
 |0,_,_,_,_=>none
 |k+1,x0,x1,x7,x8=>if x8<x7 then(if 0<=x8 then(if x8<(x0.length:Int) then(if(x1==(zcI false x0 x8))=true then(some x8) else(zaA.l0 k x0 x1 x7 (wrap64 (x8+1)))) else(none)) else(none)) else(some (-1))
def zaA.f (k:Nat) (l0:List Bool) (a1:Bool):Option (Int):=zaA.l0 k l0 a1 (l0.length:Int) 0
theorem zaA.zcs:∀k,(∀y0 y1 y2 y3,LeO (zaA.l0 k y0 y1 y2 y3) (zaA.l0 (k+1) y0 y1 y2 y3))
 |0=>fun _ _ _ _ r h=>by simp[zaA.l0]at h
 |k+1=>by
  have af:=zaA.zcs k
  ·intro y0 y1 y2 y3;unfold zaA.l0
   repeat' first
   |(with_reducible exact af _ _ _ _)
   |(with_reducible exact LeO.refl _)
   |(with_reducible exact LeO.none _)
   |(with_reducible refine LeO.ite ?_ ?_)
   |(with_reducible refine LeO.bind ?_ (fun _=>?_))
   |exact af _ _ _ _
   |exact LeO.none _
   |refine LeO.ite ?_ ?_
   |refine LeO.bind ?_ (fun _=>?_)
theorem zaA.mono:∀a0 a1 k,LeO (zaA.f k a0 a1) (zaA.f (k+1) a0 a1):=by
 intro a0 a1 k;have af:=zaA.zcs k;unfold zaA.f
 repeat' with_reducible first|exact af _ _ _ _|exact LeO.refl _|exact LeO.none _|refine LeO.ite ?_ ?_|refine LeO.bind ?_ (fun _=>?_)
theorem zaA.calls (k:Nat) (A0:Option Addr) (c0:Nat) (l0:List Bool) (a1:Bool) (r:Int) (w:World) (ag:Kd.C Kd.bool w A0 l0.length l0) (ah:l0.length<=c0) (h:zaA.f k l0 a1=some r):
  Calls Try.prog 90 #[.slice A0 l0.length c0,.bool a1] w fun e w'=>e=.returned (.int .i64 r)/\za_ w w':=by
 have aj:=G.m ag;have am:=G.m ah;clear ag ah;unfold zaA.f at h;have H:=h;clear h;have H':=G.m H;clear H
 go_enter Try.func90,Try.ntmps90
 go_wp2
 go_loopg [8] k (fun kq v8 w'=>∃ (aa:Int),v8=.int .i64 aa/\zaa (zaA.l0 kq l0 a1 (l0.length:Int) aa=some r)/\zaa (kq<=k)/\za_ w w')
 case atStart=>exact⟨(0),(znw),H',⟨Nat.le_refl _⟩,by repeat(first|exact za_.refl _|apply za_.step)⟩
 case round=>
  clear H';try clear p2
  obtain⟨aa,rfl,HA,ao,⟨m1,rfl⟩⟩:=hrel;cases gk with
  |zero=>exact absurd HA.out (by simp[zaA.l0])
  |succ k1=>
   have H:=HA.out;clear HA;simp only[zaA.l0]at H
   by_cases c3:aa<(l0.length:Int)
   ·rw[if_pos c3]at H;have ap:=decide_eq_true c3;clear c3
    obtain⟨aw,H⟩:=G.dp H
    obtain⟨ax,H⟩:=G.dp H
    by_cases c6:(a1==(zcI false l0 aa))=true
    ·rw[if_pos c6]at H;have aq:(a1==(zcI false l0 aa))=true:=c6;(try(have au:decide (a1=(zcI false l0 aa))=true:=by simpa using c6));(try(have av:(a1==(zcI false l0 aa))=true:=by simpa using c6));clear c6;obtain rfl:=Option.some.inj H;have ab:0<=(aa:Int):=G.da;have ac:aa<(l0.length:Int):=G.da;obtain⟨al,ai,ak⟩:=zcQ aj.out aa ab ac;cases ai;replace ab:=eq_true ab;replace ac:=eq_true ac
     go_wp2
     go_ret
     exact⟨znw,by repeat(first|exact za_.refl _|apply za_.step)⟩
    ·rw[if_neg c6]at H;have aq:(a1==(zcI false l0 aa))=false:=by simpa using c6
     (try(have au:decide (a1=(zcI false l0 aa))=false:=by simpa using c6));(try(have av:(a1==(zcI false l0 aa))=false:=by simpa using c6));(try(have ay:¬ (a1=(zcI false l0 aa)):=by simpa using c6));clear c6;have H':=G.m H;clear H;have ab:0<=(aa:Int):=G.da;have ac:aa<(l0.length:Int):=G.da;obtain⟨al,ai,ak⟩:=zcQ aj.out aa ab ac;cases ai;replace ab:=eq_true ab;replace ac:=eq_true ac
     go_wp2
     go_roundg k1
     case measure=>have:=ao.out;omega
     case rel=>exact⟨(wrap64 (aa+1)),(znw),H',⟨by have:=ao.out;omega⟩,by repeat(first|exact za_.refl _|apply za_.step)⟩
   ·rw[if_neg c3]at H;have ap:=decide_eq_false c3;clear c3;obtain rfl:=Option.some.inj H
    go_wp2
    go_ret
    exact⟨znw,by repeat(first|exact za_.refl _|apply za_.step)⟩
def za7.f (k:Nat) (l0:List Bool) (a1:Bool):Option (Bool):=(zaA.f k l0 a1).bind fun ae=>(some (decide (ae>=0)))
theorem za7.mono:∀a0 a1 k,LeO (za7.f k a0 a1) (za7.f (k+1) a0 a1):=by
 intro a0 a1 k;unfold za7.f
 repeat' with_reducible first|exact zaA.mono _ _ _|exact LeO.refl _|exact LeO.none _|refine LeO.ite ?_ ?_|refine LeO.bind ?_ (fun _=>?_)
theorem za7.calls (k:Nat) (A0:Option Addr) (c0:Nat) (l0:List Bool) (a1:Bool) (r:Bool) (w:World) (ag:Kd.C Kd.bool w A0 l0.length l0) (ah:l0.length<=c0) (h:za7.f k l0 a1=some r):
  Calls Try.prog 54 #[.slice A0 l0.length c0,.bool a1] w fun e w'=>e=.returned (.bool r)/\za_ w w':=by
 have aj:=G.m ag;have am:=G.m ah;clear ag ah;unfold za7.f at h;have H:=h;clear h;obtain⟨ae,A3,H⟩:=G.bi H;(try dsimp only at H);obtain rfl:=Option.some.inj H
 go_enter Try.func54,Try.ntmps54
 go_wp2_with (first|((with_reducible refine G.f 90 rfl ?_);refine G.gL 7 Try.func90 #[.slice A0 l0.length c0,.bool a1] ?_;(with_reducible refine(zaA.calls k _ _ l0 a1 ae _ ?side1 ?side2 A3.out).mono ?_);(case side1=>exact G.cC aj.out);(case side2=>exact am.out);rintro e w' ⟨rfl,⟨nd,rfl⟩⟩;refine⟨_,rfl,?_⟩))
 go_ret
 exact⟨znw,by repeat(first|exact za_.refl _|apply za_.step)⟩
theorem zn5 {p:Prop}(h:p:=by first|rfl|(simp[za1,za2]<;>rfl)|(simp only[←aZ];first|rfl|(simp[za1,za2]<;>rfl))|(simp[*,za1,za2]<;>rfl)):p:=h
theorem zoM {p:Prop}(h:p:=by(try simp only[List.map_toArray,List.map_cons,List.map_nil]);first|done|(simp only[bK];rfl)|rfl|(simp only[List.length_drop,List.length_take];rfl)):p:=h
theorem zqh {p:Prop}(h:p:=by have:=bl.out;have:=bm.out;have:=ba.out;have:=bj.out;have:=bu.out;have:=b5.out;have:=cU.out;have:=eE.out;omega):p:=h
theorem znu {p:Prop}(h:p:=by rw[hg];exact Nat.ne_of_lt (zbg (g:=az) (o:=.cells #[.int .i64 ag,.slice aN ai.length aO] 31 (0,0)) (G.cb ab.out))):p:=h
theorem zoe {p:Prop}(h:p:=by rw[hg];exact Nat.ne_of_gt (zbg (g:=az) (o:=.cells #[.int .i64 ag,.slice aN ai.length aO] 31 (0,0)) (G.cb ab.out))):p:=h
theorem zo2 {p:Prop}(h:p:=by rw[hg];exact Nat.ne_of_lt (zbg (g:=ax) (o:=zez ao) (G.cb ac.out))):p:=h
theorem zoX {p:Prop}(h:p:=by rw[hg];exact Nat.ne_of_gt (zbg (g:=ax) (o:=zez ao) (G.cb ac.out))):p:=h
theorem zoH {p:Prop}(h:p:=by first|rfl|(simp[za1,za2]<;>rfl)|(simp[*,za1,za2]<;>rfl)):p:=h
theorem znv {p:Prop}(h:p:=by have:=bl.out;have:=bm.out;have:=ba.out;first|omega|exact Nat.le_refl _):p:=h
theorem zh4 {p:Prop}(h:p:=by first|rfl|(simp;done)|(simp[*];done)):p:=h
theorem zfB {p:Prop}(h:p:=by rw[hg];exact(zai (G.cB HB.out))):p:=h
theorem zdn {p:Prop}(h:p:=by kernel_rfl):p:=h
mutual
def zaC.j0:Nat->List (List Int)->List Int->Bool->Int->List (S59)->Option (Bool)
 |0,_,_,_,_,_=>none
 |k+1,x1,x2,gE,ap,ay=>if gE=true then(some false) else(if 0<=ap then(if(ap:Int).toNat<=281474976710656 then(zaC.l0 k x2 (List.replicate (ap:Int).toNat false) x1 (x1.length:Int) 0 ap ay [] 0) else(none)) else(none))
def zaC.l0:Nat->List Int->List Bool->List (List Int)->Int->Int->Int->List (S59)->List (S59)->Int->Option (Bool)
 |0,_,_,_,_,_,_,_,_,_=>none
 |k+1,x2,x6,aM,aQ,aL,ap,ay,aA,aC=>if aL<aQ then(if 0<=aL then(if aL<(aM.length:Int) then(if((zax aM aL).length:Int)<2 then(zaC.j2 k x2 x6 aL (zax aM aL) aM aQ aL true ap ay aA aC) else((zaF.f k ap ay (zax aM aL)).bind fun b6=>(zaC.j2 k x2 x6 aL (zax aM aL) aM aQ aL (!b6) ap ay aA aC))) else(none)) else(none)) else(if(aA.length:Int)=(ay.length:Int) then((za7.f k x6 false).bind fun cu=>(some (!cu))) else(some false))
def zaC.j2:Nat->List Int->List Bool->Int->List Int->List (List Int)->Int->Int->Bool->Int->List (S59)->List (S59)->Int->Option (Bool)
 |0,_,_,_,_,_,_,_,_,_,_,_,_=>none
 |k+1,x2,x6,x7,x8,aM,aQ,aL,gF,ap,ay,aA,aC=>if gF=true then(some false) else(if 0<(x8.length:Int) then(if 0<=(wrap64 ((x8.length:Int) - 1)) then(if(wrap64 ((x8.length:Int) - 1))<(x8.length:Int) then(if(rd x8 0)=(rd x8 (wrap64 ((x8.length:Int) - 1))) then(if(x8.length:Int)<4 then(zaC.j3 k x2 x6 x7 x8 (rd x8 0) (rd x8 (wrap64 ((x8.length:Int) - 1))) aM aQ aL true ap ay aA aC) else(if x7=0 then(zaC.j3 k x2 x6 x7 x8 (rd x8 0) (rd x8 (wrap64 ((x8.length:Int) - 1))) aM aQ aL ((rd x8 0) !=(rd x8 (wrap64 ((x8.length:Int) - 1)))) ap ay aA aC) else(zaC.j3 k x2 x6 x7 x8 (rd x8 0) (rd x8 (wrap64 ((x8.length:Int) - 1))) aM aQ aL false ap ay aA aC))) else(if x7=0 then(zaC.j3 k x2 x6 x7 x8 (rd x8 0) (rd x8 (wrap64 ((x8.length:Int) - 1))) aM aQ aL ((rd x8 0) !=(rd x8 (wrap64 ((x8.length:Int) - 1)))) ap ay aA aC) else(zaC.j3 k x2 x6 x7 x8 (rd x8 0) (rd x8 (wrap64 ((x8.length:Int) - 1))) aM aQ aL false ap ay aA aC))) else(none)) else(none)) else(none))
def zaC.j3:Nat->List Int->List Bool->Int->List Int->Int->Int->List (List Int)->Int->Int->Bool->Int->List (S59)->List (S59)->Int->Option (Bool)
 |0,_,_,_,_,_,_,_,_,_,_,_,_,_,_=>none
 |k+1,x2,x6,x7,x8,x9,eF,aM,aQ,aL,gG,ap,ay,aA,aC=>if gG=true then(some false) else(if 1<=(wrap64 ((x8.length:Int) - 1)) then(if(wrap64 ((x8.length:Int) - 1))<=(x8.length:Int) then(if x7=0 then(if 1<=(x8.length:Int) then(zaC.j4 k x2 x6 x8 (x8.drop 1) aM aQ aL ap ay aA aC) else(none)) else(if 0<=x9 then(if x9<(x6.length:Int) then(if zcI false x6 x9=true then(if 0<=eF then(if eF<(x6.length:Int) then(if zcI false x6 eF=true then(zaC.j4 k x2 x6 x8 ((x8.take (wrap64 ((x8.length:Int) - 1)).toNat).drop 1) aM aQ aL ap ay aA aC) else(some false)) else(none)) else(none)) else(some false)) else(none)) else(none))) else(none)) else(none))
def zaC.j4:Nat->List Int->List Bool->List Int->List Int->List (List Int)->Int->Int->Int->List (S59)->List (S59)->Int->Option (Bool)
 |0,_,_,_,_,_,_,_,_,_,_,_=>none
 |k+1,x2,x6,x8,eG,aM,aQ,aL,ap,ay,aA,aC=>(zaX.f k eG).bind fun cv=>(if cv=true then(zaC.l1 k x2 x6 x8 aM aQ aL eG (eG.length:Int) 0 ap ay aA aC) else(some false))
def zaC.l1:Nat->List Int->List Bool->List Int->List (List Int)->Int->Int->List Int->Int->Int->Int->List (S59)->List (S59)->Int->Option (Bool)
 |0,_,_,_,_,_,_,_,_,_,_,_,_,_=>none
 |k+1,x2,x6,x8,aM,aQ,aL,cW,fD,b7,ap,ay,aA,aC=>if b7<fD then(if 0<=b7 then(if b7<(cW.length:Int) then(if 0<=(rd cW b7) then(if(rd cW b7)<(x6.length:Int) then(if zcI false x6 (rd cW b7)=true then(some false) else(zaC.l1 k x2 x6 x8 aM aQ aL cW fD (wrap64 (b7+1)) ap ay aA aC)) else(none)) else(none)) else(none)) else(none)) else(zaC.l2 k x2 x6 x8 1 aM aQ aL ap ay aA aC)
def zaC.l2:Nat->List Int->List Bool->List Int->Int->List (List Int)->Int->Int->Int->List (S59)->List (S59)->Int->Option (Bool)
 |0,_,_,_,_,_,_,_,_,_,_,_=>none
 |k+1,x2,x6,x8,b8,aM,aQ,aL,ap,ay,aA,aC=>if b8<(x8.length:Int) then(if 0<=(wrap64 (b8 - 1)) then(if(wrap64 (b8 - 1))<(x8.length:Int) then(if 0<=b8 then((zce.f (rd x8 (wrap64 (b8 - 1))) (rd x8 b8)).bind fun a5=>(if zg5 aA a5.1 a5.2=true then(some false) else(zaC.l2 k x2 x6 x8 (wrap64 (b8+1)) aM aQ aL ap ay (aA++[⟨a5.1,a5.2⟩]) aC))) else(none)) else(none)) else(none)) else(zaC.l3 k x2 x6 aM aQ aL x8 (x8.length:Int) 0 ap ay aA aC)
def zaC.l3:Nat->List Int->List Bool->List (List Int)->Int->Int->List Int->Int->Int->Int->List (S59)->List (S59)->Int->Option (Bool)
 |0,_,_,_,_,_,_,_,_,_,_,_,_=>none
 |k+1,x2,x6,aM,aQ,aL,b9,eH,bv,ap,ay,aA,aC=>if bv<eH then(if 0<=bv then(if bv<(b9.length:Int) then(if 0<=(rd b9 bv) then(if(rd b9 bv)<(x6.length:Int) then(zaC.l3 k x2 (x6.set ((rd b9 bv):Int).toNat true) aM aQ aL b9 eH (wrap64 (bv+1)) ap ay aA aC) else(none)) else(none)) else(none)) else(none)) else(zaC.l0 k x2 x6 aM aQ (wrap64 (aL+1)) ap ay aA aC)
end
def zaC.f (k:Nat) (ag:Int) (ai:List (S59)) (l1:List (List Int)) (l2:List Int):Option (Bool):=(zaW.f k ag ai).bind fun bU=>(if bU=true then(zaC.j0 k l1 l2 ((l1.length:Int)==0) ag ai) else(zaC.j0 k l1 l2 true ag ai))
theorem zaC.zcs:∀k,(∀y0 y1 y2 y3 y4,LeO (zaC.j0 k y0 y1 y2 y3 y4) (zaC.j0 (k+1) y0 y1 y2 y3 y4))/\(∀y0 y1 y2 y3 y4 y5 y6 y7 y8,LeO (zaC.l0 k y0 y1 y2 y3 y4 y5 y6 y7 y8) (zaC.l0 (k+1) y0 y1 y2 y3 y4 y5 y6 y7 y8))/\(∀y0 y1 y2 y3 y4 y5 y6 y7 y8 y9 a4 bn,LeO (zaC.j2 k y0 y1 y2 y3 y4 y5 y6 y7 y8 y9 a4 bn) (zaC.j2 (k+1) y0 y1 y2 y3 y4 y5 y6 y7 y8 y9 a4 bn))/\(∀y0 y1 y2 y3 y4 y5 y6 y7 y8 y9 a4 bn cX fE,LeO (zaC.j3 k y0 y1 y2 y3 y4 y5 y6 y7 y8 y9 a4 bn cX fE) (zaC.j3 (k+1) y0 y1 y2 y3 y4 y5 y6 y7 y8 y9 a4 bn cX fE))/\(∀y0 y1 y2 y3 y4 y5 y6 y7 y8 y9 a4,LeO (zaC.j4 k y0 y1 y2 y3 y4 y5 y6 y7 y8 y9 a4) (zaC.j4 (k+1) y0 y1 y2 y3 y4 y5 y6 y7 y8 y9 a4))/\(∀y0 y1 y2 y3 y4 y5 y6 y7 y8 y9 a4 bn cX,LeO (zaC.l1 k y0 y1 y2 y3 y4 y5 y6 y7 y8 y9 a4 bn cX) (zaC.l1 (k+1) y0 y1 y2 y3 y4 y5 y6 y7 y8 y9 a4 bn cX))/\(∀y0 y1 y2 y3 y4 y5 y6 y7 y8 y9 a4,LeO (zaC.l2 k y0 y1 y2 y3 y4 y5 y6 y7 y8 y9 a4) (zaC.l2 (k+1) y0 y1 y2 y3 y4 y5 y6 y7 y8 y9 a4))/\(∀y0 y1 y2 y3 y4 y5 y6 y7 y8 y9 a4 bn,LeO (zaC.l3 k y0 y1 y2 y3 y4 y5 y6 y7 y8 y9 a4 bn) (zaC.l3 (k+1) y0 y1 y2 y3 y4 y5 y6 y7 y8 y9 a4 bn))
 |0=>⟨fun _ _ _ _ _ r h=>by simp[zaC.j0]at h,fun _ _ _ _ _ _ _ _ _ r h=>by simp[zaC.l0]at h,fun _ _ _ _ _ _ _ _ _ _ _ _ r h=>by simp[zaC.j2]at h,fun _ _ _ _ _ _ _ _ _ _ _ _ _ _ r h=>by simp[zaC.j3]at h,fun _ _ _ _ _ _ _ _ _ _ _ r h=>by simp[zaC.j4]at h,fun _ _ _ _ _ _ _ _ _ _ _ _ _ r h=>by simp[zaC.l1]at h,fun _ _ _ _ _ _ _ _ _ _ _ r h=>by simp[zaC.l2]at h,fun _ _ _ _ _ _ _ _ _ _ _ _ r h=>by simp[zaC.l3]at h⟩
 |k+1=>by
  obtain⟨cY,cZ,c_,db,dc,dd,de,df⟩:=zaC.zcs k;refine⟨?_,?_,?_,?_,?_,?_,?_,?_⟩<;>intros
  all_goals first|unfold zaC.j0|unfold zaC.l0|unfold zaC.j2|unfold zaC.j3|unfold zaC.j4|unfold zaC.l1|unfold zaC.l2|unfold zaC.l3
  repeat' with_reducible first|exact cY _ _ _ _ _|exact cZ _ _ _ _ _ _ _ _ _|exact c_ _ _ _ _ _ _ _ _ _ _ _ _|exact db _ _ _ _ _ _ _ _ _ _ _ _ _ _|exact dc _ _ _ _ _ _ _ _ _ _ _|exact dd _ _ _ _ _ _ _ _ _ _ _ _ _|exact de _ _ _ _ _ _ _ _ _ _ _|exact df _ _ _ _ _ _ _ _ _ _ _ _|exact zaW.mono _ _ _|exact zaF.mono _ _ _ _|exact zaX.mono _ _|exact za7.mono _ _ _|exact LeO.refl _|exact LeO.none _|refine LeO.ite ?_ ?_|refine LeO.bind ?_ (fun _=>?_)
theorem zaC.mono:∀a0 a1 a2 a3 k,LeO (zaC.f k a0 a1 a2 a3) (zaC.f (k+1) a0 a1 a2 a3):=by
 intro a0 a1 a2 a3 k;obtain⟨cY,cZ,c_,db,dc,dd,de,df⟩:=zaC.zcs k;unfold zaC.f
 repeat' with_reducible first|exact cY _ _ _ _ _|exact cZ _ _ _ _ _ _ _ _ _|exact c_ _ _ _ _ _ _ _ _ _ _ _ _|exact db _ _ _ _ _ _ _ _ _ _ _ _ _ _|exact dc _ _ _ _ _ _ _ _ _ _ _|exact dd _ _ _ _ _ _ _ _ _ _ _ _ _|exact de _ _ _ _ _ _ _ _ _ _ _|exact df _ _ _ _ _ _ _ _ _ _ _ _|exact zaW.mono _ _ _|exact zaF.mono _ _ _ _|exact zaX.mono _ _|exact za7.mono _ _ _|exact LeO.refl _|exact LeO.none _|refine LeO.ite ?_ ?_|refine LeO.bind ?_ (fun _=>?_)
def zaC.T10:Bool×List (List Nat×List Nat):=(true,[([],[]),([0],[0]),([1],[1]),([],[]),([],[]),([4],[4]),([5],[5]),([3,6],[3,6]),([7],[7]),([2,0,1,2],[2]),([8,9,0,1,2,3,4,5,6,7,8,9],[8])])
def zaC.B10:List Nat:=[0,1,3,0,0,16,48,120,248,7,1023]
theorem zaC.zkA:zc0 .any (opsOf Try.f19 10)=zaC.T10:=by kernel_rfl
theorem zaC.ziE:zby zaC.T10.2 zaC.B10=true:=by kernel_rfl
def zaC.T29:Bool×List (List Nat×List Nat):=(true,[([],[]),([],[]),([1],[1]),([0,2],[0,2]),([3],[3]),([],[]),([],[]),([5,6],[5,6]),([7],[7]),([4,8],[4,8]),([],[]),([10,9,9,0,1,2,3,4,5,6,7,8,9,10],[9,10])])
def zaC.B29:List Nat:=[0,0,2,7,15,0,0,96,224,511,0,2047]
theorem zaC.zn2:zc0 .any (opsOf Try.f19 29)=zaC.T29:=by kernel_rfl
theorem zaC.zlV:zby zaC.T29.2 zaC.B29=true:=by kernel_rfl
theorem zaC.calls (k:Nat) (ag:Int) (aN:Option Addr) (aO:Nat) (ai:List (S59)) (A1:Option Addr) (c1:Nat) (l1:List (List Int)) (l2:List Int) (r:Bool) (w:World) (dS:Kd.C k59 w aN ai.length ai) (dT:ai.length<=aO) (hr1:Kd.C (Kd.slice 3 (Kd.int .i64)) w A1 l1.length l1) (fF:l1.length<=c1) (h:zaC.f k ag ai l1 l2=some r):
  Calls Try.prog 19 #[.agg #[.int .i64 ag,.slice aN ai.length aO],.slice A1 l1.length c1] w fun e w'=>e=.returned (.bool r)/\Below w.heap.size w w':=by
 have iU:=Try.underlying31;have iV:=Try.underlying59;have cw:=G.m dS;have cx:=G.m dT;clear dS dT;have gH:=G.m hr1;have jc:=G.m fF;clear hr1 fF;have HB:=G.m (Below.refl w.heap.size w);unfold zaC.f at h;have H:=h;clear h;have eI:=G.m H;clear H
 go_enter Try.func19,Try.ntmps19
 go_upto_region 1 with(first|((with_reducible refine G.h 2 rfl ?_);(try(refine za6 (by rfl) ?_;dsimp only));refine G.be 2 #[.int .i64 ag,.slice aN ai.length aO] 31 ?_;intro az hg w5 hbox hb;have ab:=G.m (hbox);have hX:=G.m (zfB:w.heap.size<=az);have hY:=G.m (zfB:w.heap.size<=az);replace HB:=G.bs HB hb;clear hb hbox hg))
 (try simp only[Act.put,List.setIfInBounds_toArray,List.set_cons_zero,List.set_cons_succ])
 go_cut [25] (fun gI wc=>∃ (kq:Nat) (bZ:Bool),gI=.bool bZ/\zaa (zaC.j0 kq l1 l2 bZ ag ai=some r)/\zaa (kq<=k)/\zaa (wc.heap[az]? =some (.cells #[.int .i64 ag,(.slice aN ai.length aO)] 31 (0,0)))/\zaa (Below w.heap.size w wc))
 case first=>
  have H:=eI.out;clear eI;obtain⟨bU,A6,H⟩:=G.bi H;(try dsimp only at H)
  rcases G.bc H with⟨h_,H_⟩|⟨h_,H_⟩<;> (subst h_;clear H;have H:=H_;clear H_)
  ·have H':=G.m H;clear H;have⟨gJ,gK,gM,gN⟩:=G.d2 (w:=w5) ab
   go_wp2_with (first|((with_reducible refine zb8 (f:=50) rfl ?_);refine zdL (some 19) rfl rfl Try.func50 (zdn) rfl #[.agg #[.int .i64 ag,.slice aN ai.length aO]] rfl (G.ar) ?_;(with_reducible refine(zaW.calls k ag _ _ ai true _ ?side1 ?side2 A6.out).mono ?_);(case side1=>exact G.cC (zay cw.out HB.out));(case side2=>exact cx.out);rintro e w9 ⟨rfl,hb⟩;refine⟨_,rfl,?_⟩;replace ab:=G.bb ab hb;replace HB:=G.bs HB hb;(try clear hb)))
   go_meet
   case rel=>exact⟨_,(((l1.length:Int)==0)),(zh4),H',⟨by first|omega|exact Nat.le_refl _⟩,⟨G.cb ab.out⟩,⟨G.cB HB.out⟩⟩
  ·have H':=G.m H;clear H;have⟨f3,f4,f5,f6⟩:=G.d2 (w:=w5) ab
   go_wp2_with (first|((with_reducible refine zb8 (f:=50) rfl ?_);refine zdL (some 19) rfl rfl Try.func50 (zdn) rfl #[.agg #[.int .i64 ag,.slice aN ai.length aO]] rfl (G.ar) ?_;(with_reducible refine(zaW.calls k ag _ _ ai false _ ?side1 ?side2 A6.out).mono ?_);(case side1=>exact G.cC (zay cw.out HB.out));(case side2=>exact cx.out);rintro e jd ⟨rfl,hb⟩;refine⟨_,rfl,?_⟩;replace ab:=G.bb ab hb;replace HB:=G.bs HB hb;(try clear hb)))
   go_meet
   case rel=>exact⟨_,(true),(zh4),H',⟨by first|omega|exact Nat.le_refl _⟩,⟨G.cb ab.out⟩,⟨G.cB HB.out⟩⟩
 case rest=>
  clear eI;obtain⟨kq,bZ,rfl,HA,bl,ab,HB⟩:=hcut;cases kq with
  |zero=>exact absurd HA.out (by simp[zaC.j0])
  |succ dU=>
   have H:=HA.out;clear HA;simp only[zaC.j0]at H
   rcases G.bc H with⟨h_,H_⟩|⟨h_,H_⟩<;> (subst h_;clear H;have H:=H_;clear H_)
   ·obtain rfl:=Option.some.inj H
    go_wp2
    go_ret
    exact⟨zoH,G.cB HB.out⟩
   ·skip
    obtain⟨dh,H⟩:=G.ip H;have eU:=eq_true dh;have eV:=decide_eq_true dh;clear dh
    obtain⟨di,H⟩:=G.ip H;have eW:=eq_true di;have eX:=decide_eq_true di;clear di;obtain⟨eJ,bL⟩:∃y_:List Bool,y_=(List.replicate (ag:Int).toNat false):=⟨_,rfl⟩;replace H:(zaC.l0 dU l2 eJ l1 (l1.length:Int) 0 ag ai [] 0)=some r:=G.y0 bL H
    have dV:=G.m bL;clear bL;have H':=G.m H;clear H
    go_wp2_with (first|((with_reducible refine G.h 26 rfl ?_);refine zpq 26 ?_;intro ax hg gO hbox hb;have ac:=G.m (hbox);have hZ:=G.m (zfB:w.heap.size<=ax);have eY:=G.m (zfB:w.heap.size<=ax);replace HB:=G.bs HB hb;have aR:=G.m (znu:az≠ax);have aU:=G.m (zoe:ax≠az);replace ab:=G.bb ab hb;clear hb hbox hg;have ia:=aR.out;have ib:=aU.out;have⟨ez,eA,eB,eC⟩:=G.d2 (w:=gO) ab)|((with_reducible refine G.h 29 rfl ?_);(try(refine za6 (by rfl) ?_;dsimp only));refine zim Kd.bool _ 4 rfl (N:=29) rfl 54 _ _ rfl ag rfl rfl Try.underlying54 (.bool false) 1 zma rfl (by decide) (by omega) false (ok:=fun _=>True) (okp:=fun _=>True) rfl (fun _ hk=>hk) trivial G.da (Nat.le_trans (Nat.mul_le_mul_right _ (of_decide_eq_true (G.asm):ag.toNat<=281474976710656)) (by omega)) (Below.refl _ _) (Nat.le_refl _) ?_;intro a7 je cd hb hg_ hnew_;clear hg_ hnew_;(first|rw[←dV.out]at cd|(simp only[Int.reduceToNat]at cd;rw[←dV.out]at cd));have eZ:=G.m (zaI cd (zai (G.cB HB.out)));replace ab:=G.bb ab hb;replace ac:=G.bb ac hb;replace HB:=G.bs HB hb;clear hb cd))
    go_loopg [32] dU (fun kq gP w'=>∃ (aj:List Bool) (aa:Int) (af:List (S59)),gP=.int .i64 aa/\zaa (zaC.l0 kq l2 aj l1 (l1.length:Int) aa ag ai af 0=some r)/\zaa (kq<=dU)/\zaa (Kd.R Kd.bool 4 w' w.heap.size (fun _=>True) a7 aj)/\zaa (w'.heap[az]? =some (.cells #[.int .i64 ag,(.slice aN ai.length aO)] 31 (0,0)))/\zaa (w'.heap[ax]? =some (zez af))/\zaa (Below w.heap.size w w'))
    case atStart=>exact⟨(eJ),(0),[],(zh4),H',⟨Nat.le_refl _⟩,⟨G.cR eZ.out⟩,⟨G.cb ab.out⟩,⟨G.cb ac.out⟩,⟨G.cB HB.out⟩⟩
    case round=>
     clear H';(try clear dg eU eV eW eX ez eA eB eC);obtain⟨aj,aa,af,rfl,HA,bm,ae,ab,ac,HB⟩:=hrel;cases gk with
     |zero=>exact absurd HA.out (by simp[zaC.l0])
     |succ k2=>
      have H:=HA.out;clear HA;simp only[zaC.l0]at H
      by_cases ck:aa<(l1.length:Int)
      ·rw[if_pos ck]at H;have dW:=decide_eq_true ck;clear ck
       obtain⟨e2,H⟩:=G.dp H
       obtain⟨e3,H⟩:=G.dp H;have dE:=G.m H;clear H;have cy:0<=(aa:Int):=G.da;have cz:aa<(l1.length:Int):=G.da;obtain⟨ic,gQ,bM,fI,bV,cl,cm⟩:=zcR gH.out aa cy cz;cases fI;replace bV:=G.hx HB bV;have aP:=G.m cm;have bW:=G.m cl;clear cm cl;replace cy:=eq_true cy;replace cz:=eq_true cz
       go_upto_region 8 with(fail)
       go_cut [45] (fun gR wc=>∃ (kq:Nat) (bN:Bool),gR=.bool bN/\zaa (zaC.j2 kq l2 aj aa (zax l1 aa) l1 (l1.length:Int) aa bN ag ai af 0=some r)/\zaa (kq<=k2)/\zaa (Kd.R Kd.bool 4 wc w.heap.size (fun _=>True) a7 aj)/\zaa (wc.heap[az]? =some (.cells #[.int .i64 ag,(.slice aN ai.length aO)] 31 (0,0)))/\zaa (wc.heap[ax]? =some (zez af))/\zaa (Below w.heap.size w wc))
       case first=>
        have H:=dE.out;clear dE
        by_cases cn:((zax l1 aa).length:Int)<2
        ·rw[if_pos cn]at H;have bO:=decide_eq_true cn;have e4:decide ((zax l1 aa).length<2)=true:=decide_eq_true (by omega);clear cn;(first|rw[bO]|(simp only[zb4,zcu];rw[bO])|skip);have H':=G.m H;clear H
         go_wp2
         go_meet
         case rel=>exact⟨_,(true),(zh4),H',⟨by have:=bl.out;have:=bm.out;first|omega|exact Nat.le_refl _⟩,⟨G.cR ae.out⟩,⟨G.cb ab.out⟩,⟨G.cb ac.out⟩,⟨G.cB HB.out⟩⟩
        ·rw[if_neg cn]at H;have bO:=decide_eq_false cn;have e4:decide ((zax l1 aa).length<2)=false:=decide_eq_false (by omega);clear cn;(first|rw[bO]|(simp only[zb4,zcu];rw[bO])|skip);obtain⟨b6,gS,H⟩:=G.bi H;(try dsimp only at H);have H':=G.m H;clear H;have ie:=aR.out;have ig:=aU.out;have⟨f7,f8,f9,f_⟩:=G.d2 (w:=wr) ab
         go_wp2_with (first|(go_at_call 51;(with_reducible refine(zaF.calls k2 ag _ _ ai _ _ (zax l1 aa) b6 _ ?side1 ?side2 ?side3 ?side4 gS.out).mono ?_);(case side1=>exact G.cC (zay cw.out HB.out));(case side2=>exact cx.out);(case side3=>exact G.cC (zay aP.out HB.out));(case side4=>exact bW.out);rintro e jf ⟨rfl,hb⟩;replace ae:=G.rb ae hb;replace ab:=G.bb ab hb;replace ac:=G.bb ac hb;replace HB:=G.bs HB hb;(try clear hb)))
         go_meet
         case rel=>exact⟨_,(!b6),(zh4),H',⟨by have:=bl.out;have:=bm.out;first|omega|exact Nat.le_refl _⟩,⟨G.cR ae.out⟩,⟨G.cb ab.out⟩,⟨G.cb ac.out⟩,⟨G.cB HB.out⟩⟩
       case rest=>
        clear dE;(try clear dW e2 e3 bV cy cz);obtain⟨kq,bN,rfl,HA,ba,ae,ab,ac,HB⟩:=hcut;cases kq with
        |zero=>exact absurd HA.out (by simp[zaC.j2])
        |succ a8=>
         have H:=HA.out;clear HA;simp only[zaC.j2]at H
         rcases G.bc H with⟨h_,H_⟩|⟨h_,H_⟩<;> (subst h_;clear H;have H:=H_;clear H_)
         ·obtain rfl:=Option.some.inj H
          go_wp2
          go_ret
          exact⟨zoH,G.cB HB.out⟩
         ·skip
          obtain⟨dZ,H⟩:=G.ip H;have e5:=decide_eq_true dZ;have e6:decide (0<(zax l1 aa).length)=true:=decide_eq_true (by omega);clear dZ;obtain⟨au,aZ⟩:∃j_:Int,(wrap64 (((zax l1 aa).length:Int) - 1))=j_:=⟨_,rfl⟩;replace H:(if 0<=(au) then(if(au)<((zax l1 aa).length:Int) then(if(rd (zax l1 aa) 0)=(rd (zax l1 aa) (au)) then(if((zax l1 aa).length:Int)<4 then(zaC.j3 a8 l2 aj aa (zax l1 aa) (rd (zax l1 aa) 0) (rd (zax l1 aa) (au)) l1 (l1.length:Int) aa true ag ai af 0) else(if aa=0 then(zaC.j3 a8 l2 aj aa (zax l1 aa) (rd (zax l1 aa) 0) (rd (zax l1 aa) (au)) l1 (l1.length:Int) aa ((rd (zax l1 aa) 0) !=(rd (zax l1 aa) (au))) ag ai af 0) else(zaC.j3 a8 l2 aj aa (zax l1 aa) (rd (zax l1 aa) 0) (rd (zax l1 aa) (au)) l1 (l1.length:Int) aa false ag ai af 0))) else(if aa=0 then(zaC.j3 a8 l2 aj aa (zax l1 aa) (rd (zax l1 aa) 0) (rd (zax l1 aa) (au)) l1 (l1.length:Int) aa ((rd (zax l1 aa) 0) !=(rd (zax l1 aa) (au))) ag ai af 0) else(zaC.j3 a8 l2 aj aa (zax l1 aa) (rd (zax l1 aa) 0) (rd (zax l1 aa) (au)) l1 (l1.length:Int) aa false ag ai af 0))) else(none)) else(none))=some r:=by first|(rw[aZ]at H;exact H)|(simp only[aZ]at H⊢;exact H)
          have gT:(IntKind.i64.wrap (((zax l1 aa).length:Int) - 1))=au:=(zb4 _).trans aZ
          obtain⟨e7,H⟩:=G.dp H
          obtain⟨e8,H⟩:=G.dp H;have dF:=G.m H;clear H;try go_wp2
          replace ae:=G.m (zat ae.out);replace ab:=G.m (zan ab.out);replace ac:=G.m (zan ac.out);replace HB:=G.m (zas HB.out);have cA:0<=(0:Int):=(by omega);have cD:0<((zax l1 aa).length:Int):=G.da;obtain⟨aK,fJ,aX⟩:=zaZ aP.out 0 cA cD;have bp:=aX;(try rw[show((0:Int)).toNat=0 from rfl]at bp);(try rw[show 0*1=0 from rfl]at bp);(try rw[Addr.add_zero']at bp);cases fJ;have ii:(0<(zax l1 aa).length)=True:=eq_true (by omega);(try rw[show((0:Int)).toNat=0 from rfl]at aX);(try rw[Addr.add_zero']at aX);replace aX:=G.hx HB aX;replace cA:=eq_true cA;replace cD:=eq_true cD;have cE:0<=((au):Int):=G.da;have cF:(au)<((zax l1 aa).length:Int):=G.da;obtain⟨e9,fK,bd⟩:=zaZ aP.out (au) cE cF;have eD:=bd;obtain rfl:aK=e9:=(by injection fK);replace bd:=G.hx HB bd;replace cE:=eq_true cE;replace cF:=eq_true cF;refine ze5 (n:=11) (S:=fun w'=>w'.cell? aK=some (.int .i64 (rd (zax l1 aa) 0))/\w'.cell? (aK.add ((au)).toNat)=some (.int .i64 (rd (zax l1 aa) (au)))) (ds:=[]) (G.fl 11 0) (zdn) rfl (zdn) ⟨(G.hx HB bp),(G.hx HB eD)⟩ (fun hHeld=>?_);refine zep zaC.zkA zaC.ziE (fun HT_ HW_=>?_);generalize wc.drew=jg at ae ab ac HB aX bd hHeld⊢;refine G.pu 0 46 1 ?_;refine G.pu 1 47 3 ?_;refine G.pu 3 49 11 ?_;refine G.pu 4 50 27 ?_;refine G.pu 5 51 59 ?_;refine G.pu 6 52 123 ?_;refine G.pu 7 53 251 ?_;refine G.ta2 2 48 255 ?_;refine G.pu 9 9 767 ?_;refine G.ta2 8 54 1023 ?_;refine G.pu 10 10 2047 ?_;refine zbO (zbb HT_.out (zdn)) ?_
          go_upto_region 11 with(fail)
          go_cut [71] (fun gU wc=>∃ (kq:Nat) (bP:Bool),gU=.bool bP/\zaa (zaC.j3 kq l2 aj aa (zax l1 aa) (rd (zax l1 aa) 0) (rd (zax l1 aa) (au)) l1 (l1.length:Int) aa bP ag ai af 0=some r)/\zaa (kq<=a8)/\zaa (Kd.R Kd.bool 4 wc w.heap.size (fun _=>True) a7 aj)/\zaa (wc.heap[az]? =some (.cells #[.int .i64 ag,(.slice aN ai.length aO)] 31 (0,0)))/\zaa (wc.heap[ax]? =some (zez af))/\zaa (Below w.heap.size w wc))
          case first=>
           have H:=dF.out;clear dF
           by_cases ce:(rd (zax l1 aa) 0)=(rd (zax l1 aa) (au))
           ·rw[if_pos ce]at H;have bQ:=beq_iff_eq.mpr ce;have fa:=bne_eq_false_iff_eq.mpr ce;clear ce;(first|rw[bQ]|(simp only[zb4,zcu];rw[bQ])|skip)
            by_cases co:((zax l1 aa).length:Int)<4
            ·rw[if_pos co]at H;have fb:=decide_eq_true co;have fc:decide ((zax l1 aa).length<4)=true:=decide_eq_true (by omega);clear co;have H':=G.m H;clear H
             go_wp2
             go_meet
             case rel=>exact⟨_,(true),(zh4),H',⟨znv⟩,⟨G.cR ae.out⟩,⟨G.cb ab.out⟩,⟨G.cb ac.out⟩,⟨G.cB HB.out⟩⟩
            ·rw[if_neg co]at H;have fb:=decide_eq_false co;have fc:decide ((zax l1 aa).length<4)=false:=decide_eq_false (by omega);clear co
             by_cases cf:aa=0
             ·rw[if_pos cf]at H;have fd:=beq_iff_eq.mpr cf;have fe:=bne_eq_false_iff_eq.mpr cf;clear cf;have H':=G.m H;clear H
              go_wp2
              go_meet
              case rel=>exact⟨_,(((rd (zax l1 aa) 0) !=(rd (zax l1 aa) (au)))),(by first|rfl|(simp;done)|(simp[*];done)|(simp only[←aZ];done)|(simp[bne, *];done)),H',⟨znv⟩,⟨G.cR ae.out⟩,⟨G.cb ab.out⟩,⟨G.cb ac.out⟩,⟨G.cB HB.out⟩⟩
             ·rw[if_neg cf]at H;have fd:=beq_eq_false_iff_ne.mpr cf;have fe:=bne_iff_ne.mpr cf;have H':=G.m H;clear H
              go_wp2
              go_meet
              case rel=>exact⟨_,(false),(zh4),H',⟨znv⟩,⟨G.cR ae.out⟩,⟨G.cb ab.out⟩,⟨G.cb ac.out⟩,⟨G.cB HB.out⟩⟩
           ·rw[if_neg ce]at H;have bQ:=beq_eq_false_iff_ne.mpr ce;have fa:=bne_iff_ne.mpr ce;(first|rw[bQ]|(simp only[zb4,zcu];rw[bQ])|skip)
            by_cases cg:aa=0
            ·rw[if_pos cg]at H;have ff:=beq_iff_eq.mpr cg;have fg:=bne_eq_false_iff_eq.mpr cg;clear cg;have H':=G.m H;clear H
             go_wp2
             go_meet
             case rel=>exact⟨_,(((rd (zax l1 aa) 0) !=(rd (zax l1 aa) (au)))),(by first|rfl|(simp;done)|(simp[*];done)|(simp only[←aZ];done)|(simp[bne, *];done)),H',⟨znv⟩,⟨G.cR ae.out⟩,⟨G.cb ab.out⟩,⟨G.cb ac.out⟩,⟨G.cB HB.out⟩⟩
            ·rw[if_neg cg]at H;have ff:=beq_eq_false_iff_ne.mpr cg;have fg:=bne_iff_ne.mpr cg;have H':=G.m H;clear H
             go_wp2
             go_meet
             case rel=>exact⟨_,(false),(zh4),H',⟨znv⟩,⟨G.cR ae.out⟩,⟨G.cb ab.out⟩,⟨G.cb ac.out⟩,⟨G.cB HB.out⟩⟩
          case rest=>
           clear dF;(try clear dj e5 e6 e7 e8 aX bd cA cE cD cF);obtain⟨kq,bP,rfl,HA,bj,ae,ab,ac,HB⟩:=hcut;cases kq with
           |zero=>exact absurd HA.out (by simp[zaC.j3])
           |succ bx=>
            have H:=HA.out;clear HA;simp only[zaC.j3]at H
            rcases G.bc H with⟨h_,H_⟩|⟨h_,H_⟩<;> (subst h_;clear H;have H:=H_;clear H_)
            ·obtain rfl:=Option.some.inj H
             go_wp2
             go_ret
             exact⟨zn5,G.cB HB.out⟩
            ·skip
             obtain⟨dl,H⟩:=G.ip H;have fh:=eq_true dl;have fi:=decide_eq_true dl;clear dl
             obtain⟨dn,H⟩:=G.ip H;have fj:=eq_true dn;have fk:=decide_eq_true dn;clear dn;have dG:=G.m H;clear H;obtain⟨iW,d9,_,d_,_⟩:=info_parts info3;obtain⟨gV,eK,eL,eM⟩:=zhA (P:=Try.prog) (Value.int .i64) 0 45 3 .i64 .i64 Try.underlying45 d9 d_ (some aK) bM (zax l1 aa) 1 (wrap64 (((zax l1 aa).length:Int) - 1)) (by omega) (by first|omega|exact of_decide_eq_true (G.asm)) G.da bW.out;simp only[aZ]at eK;have fm:=G.m (zc7 (h1:=fun _=>rfl) (eL _ (zcT aP.out)));have fo:=G.m eM;clear eL eM d9 d_
             go_upto_if 78 with(fail)
             go_cut [11] (fun gW wc=>∃ (kq:Nat) (ak:List Int) (A2:Option Addr) (c2:Nat),gW=.slice A2 ak.length c2/\zaa (Kd.C (Kd.int .i64) w A2 ak.length ak)/\zaa (ak.length<=c2)/\zaa (zaC.j4 kq l2 aj (zax l1 aa) ak l1 (l1.length:Int) aa ag ai af 0=some r)/\zaa (kq<=bx)/\zaa (Kd.R Kd.bool 4 wc w.heap.size (fun _=>True) a7 aj)/\zaa (wc.heap[az]? =some (.cells #[.int .i64 ag,(.slice aN ai.length aO)] 31 (0,0)))/\zaa (wc.heap[ax]? =some (zez af))/\zaa (Below w.heap.size w wc))
             case first=>
              have H:=dG.out;clear dG
              by_cases ch:aa=0
              ·rw[if_pos ch]at H;have bR:=beq_iff_eq.mpr ch;have fp:=bne_eq_false_iff_eq.mpr ch;clear ch;(first|rw[bR]|(simp only[zb4,zcu];rw[bR])|skip)
               obtain⟨dq,H⟩:=G.ip H;have ij:=eq_true dq;have ik:=decide_eq_true dq;clear dq;have H':=G.m H;clear H;obtain⟨iX,ea,_,eb,_⟩:=info_parts info3;obtain⟨gX,gY,eN,eO⟩:=zgX (P:=Try.prog) (Value.int .i64) 0 45 3 .i64 Try.underlying45 ea eb (some aK) bM (zax l1 aa) 1 (by omega) G.da bW.out;have fq:=G.m (zc7 (h1:=fun _=>rfl) (eN _ (zcT aP.out)));have ft:=G.m eO;clear eN eO ea eb
               go_wp2
               go_meet
               case rel=>exact⟨_,((zax l1 aa).drop 1),gX,bM - 1,(by first|rfl|(simp[List.length_drop,List.length_take];done)|(simp[List.length_drop,List.length_take,←aZ];done)),fq,ft,H',⟨by have:=bl.out;have:=bm.out;have:=ba.out;have:=bj.out;first|omega|exact Nat.le_refl _⟩,⟨G.cR ae.out⟩,⟨G.cb ab.out⟩,⟨G.cb ac.out⟩,⟨G.cB HB.out⟩⟩
              ·rw[if_neg ch]at H;have bR:=beq_eq_false_iff_ne.mpr ch;have fp:=bne_iff_ne.mpr ch;(first|rw[bR]|(simp only[zb4,zcu];rw[bR])|skip)
               obtain⟨il,H⟩:=G.dp H
               obtain⟨im,H⟩:=G.dp H;obtain⟨eP,cG⟩:∃b_:Bool,b_=(zcI false aj (rd (zax l1 aa) 0)):=⟨_,rfl⟩;replace H:(if eP=true then(if 0<=(rd (zax l1 aa) (au)) then(if(rd (zax l1 aa) (au))<(aj.length:Int) then(if zcI false aj (rd (zax l1 aa) (au))=true then(zaC.j4 bx l2 aj (zax l1 aa) (((zax l1 aa).take (wrap64 (((zax l1 aa).length:Int) - 1)).toNat).drop 1) l1 (l1.length:Int) aa ag ai af 0) else(some false)) else(none)) else(none)) else(some false))=some r:=by rw[←cG]at H;exact H
               have bS:=G.m cG;clear cG
               rcases G.bc H with⟨h_,H_⟩|⟨h_,H_⟩<;> (subst h_;clear H;have H:=H_;clear H_)
               ·skip
                obtain⟨io,H⟩:=G.dp H
                obtain⟨iq,H⟩:=G.dp H;obtain⟨eQ,cH⟩:∃b_:Bool,b_=(zcI false aj (rd (zax l1 aa) (au))):=⟨_,rfl⟩;replace H:(if eQ=true then(zaC.j4 bx l2 aj (zax l1 aa) (((zax l1 aa).take (wrap64 (((zax l1 aa).length:Int) - 1)).toNat).drop 1) l1 (l1.length:Int) aa ag ai af 0) else(some false))=some r:=by rw[←cH]at H;exact H
                have b3:=G.m cH;clear cH
                rcases G.bc H with⟨h_,H_⟩|⟨h_,H_⟩<;> (subst h_;clear H;have H:=H_;clear H_)
                ·have H':=G.m H;clear H;obtain⟨iY,iZ,fL⟩:=zau ae.out;subst fL;have a9:0<=((rd (zax l1 aa) 0):Int):=G.da;have a_:(rd (zax l1 aa) 0)<(aj.length:Int):=G.da;obtain⟨b4,ci,aY⟩:=zcQ (zaf ae.out).2.2 (rd (zax l1 aa) 0) a9 a_;(try rw[←bS.out]at aY);(try rw[←b3.out]at aY);cases ci;replace a9:=eq_true a9;replace a_:=eq_true a_;have bz:0<=((rd (zax l1 aa) (au)):Int):=G.da;have bA:(rd (zax l1 aa) (au))<(aj.length:Int):=G.da;obtain⟨cI,dH,bf⟩:=zcQ (zaf ae.out).2.2 (rd (zax l1 aa) (au)) bz bA;(try rw[←bS.out]at bf);(try rw[←b3.out]at bf);obtain rfl:b4=cI:=(by injection dH);replace bz:=eq_true bz;replace bA:=eq_true bA
                 go_wp2
                 go_meet
                 case rel=>exact⟨_,(((zax l1 aa).take (wrap64 (((zax l1 aa).length:Int) - 1)).toNat).drop 1),gV,bM - 1,(by first|rfl|(simp[List.length_drop,List.length_take];done)|(simp[List.length_drop,List.length_take,←aZ];done)),fm,fo,H',⟨by have:=bl.out;have:=bm.out;have:=ba.out;have:=bj.out;first|omega|exact Nat.le_refl _⟩,⟨G.cR ae.out⟩,⟨G.cb ab.out⟩,⟨G.cb ac.out⟩,⟨G.cB HB.out⟩⟩
                ·obtain rfl:=Option.some.inj H;obtain⟨i1,i2,fM⟩:=zau ae.out;subst fM;have a9:0<=((rd (zax l1 aa) 0):Int):=G.da;have a_:(rd (zax l1 aa) 0)<(aj.length:Int):=G.da;obtain⟨b4,ci,aY⟩:=zcQ (zaf ae.out).2.2 (rd (zax l1 aa) 0) a9 a_;(try rw[←bS.out]at aY);(try rw[←b3.out]at aY);cases ci;replace a9:=eq_true a9;replace a_:=eq_true a_;have bz:0<=((rd (zax l1 aa) (au)):Int):=G.da;have bA:(rd (zax l1 aa) (au))<(aj.length:Int):=G.da;obtain⟨cI,dH,bf⟩:=zcQ (zaf ae.out).2.2 (rd (zax l1 aa) (au)) bz bA;(try rw[←bS.out]at bf);(try rw[←b3.out]at bf);obtain rfl:b4=cI:=(by injection dH);replace bz:=eq_true bz;replace bA:=eq_true bA
                 go_wp2
                 go_ret
                 exact⟨zn5,G.cB HB.out⟩
               ·obtain rfl:=Option.some.inj H;obtain⟨i3,i4,fN⟩:=zau ae.out;subst fN;have a9:0<=((rd (zax l1 aa) 0):Int):=G.da;have a_:(rd (zax l1 aa) 0)<(aj.length:Int):=G.da;obtain⟨b4,ci,aY⟩:=zcQ (zaf ae.out).2.2 (rd (zax l1 aa) 0) a9 a_;(try rw[←bS.out]at aY);cases ci;replace a9:=eq_true a9;replace a_:=eq_true a_
                go_wp2
                go_ret
                exact⟨zn5,G.cB HB.out⟩
             case rest=>
              clear dG;(try clear dk fh fi fj fk);obtain⟨kq,ak,A2,c2,rfl,ei,fG,HA,bu,ae,ab,ac,HB⟩:=hcut;cases kq with
              |zero=>exact absurd HA.out (by simp[zaC.j4])
              |succ bX=>
               have H:=HA.out;clear HA;simp only[zaC.j4]at H;obtain⟨cv,fH,H⟩:=G.bi H;(try dsimp only at H)
               rcases G.bc H with⟨h_,H_⟩|⟨h_,H_⟩<;> (subst h_;clear H;have H:=H_;clear H_)
               ·have H':=G.m H;clear H
                go_wp2_with (first|((with_reducible refine zb8 (f:=52) rfl ?_);refine zdL (some 94) rfl rfl Try.func52 (zdn) rfl #[.slice A2 ak.length c2] rfl (G.ar) ?_;(with_reducible refine(zaX.calls bX _ _ ak true _ ?side1 ?side2 fH.out).mono ?_);(case side1=>exact G.cC (zay ei.out HB.out));(case side2=>exact fG.out);rintro e w' ⟨rfl,⟨nd,rfl⟩⟩;refine⟨_,rfl,?_⟩))
                go_loopg [98] bX (fun kq gZ w'=>∃ (aE:Int),gZ=.int .i64 aE/\zaa (zaC.l1 kq l2 aj (zax l1 aa) l1 (l1.length:Int) aa ak (ak.length:Int) aE ag ai af 0=some r)/\zaa (kq<=bX)/\zaa (Kd.R Kd.bool 4 w' w.heap.size (fun _=>True) a7 aj)/\zaa (w'.heap[az]? =some (.cells #[.int .i64 ag,(.slice aN ai.length aO)] 31 (0,0)))/\zaa (w'.heap[ax]? =some (zez af))/\zaa (Below w.heap.size w w'))
                case atStart=>exact⟨(0),(zh4),H',⟨Nat.le_refl _⟩,⟨G.cR ae.out⟩,⟨G.cb ab.out⟩,⟨G.cb ac.out⟩,⟨G.cB HB.out⟩⟩
                case round=>
                 clear H';(try clear c2 dr);obtain⟨aE,rfl,HA,b5,ae,ab,ac,HB⟩:=hrel;cases gk with
                 |zero=>exact absurd HA.out (by simp[zaC.l1])
                 |succ k6=>
                  have H:=HA.out;clear HA;simp only[zaC.l1]at H
                  by_cases cp:aE<(ak.length:Int)
                  ·rw[if_pos cp]at H;have ej:=decide_eq_true cp;clear cp
                   obtain⟨ir,H⟩:=G.dp H
                   obtain⟨iu,H⟩:=G.dp H
                   obtain⟨iv,H⟩:=G.dp H
                   obtain⟨iw,H⟩:=G.dp H;obtain⟨eR,cJ⟩:∃b_:Bool,b_=(zcI false aj (rd ak aE)):=⟨_,rfl⟩;replace H:(if eR=true then(some false) else(zaC.l1 k6 l2 aj (zax l1 aa) l1 (l1.length:Int) aa ak (ak.length:Int) (wrap64 (aE+1)) ag ai af 0))=some r:=by rw[←cJ]at H;exact H
                   have eo:=G.m cJ;clear cJ
                   rcases G.bc H with⟨h_,H_⟩|⟨h_,H_⟩<;> (subst h_;clear H;have H:=H_;clear H_)
                   ·obtain rfl:=Option.some.inj H;have bB:0<=(aE:Int):=G.da;have bC:aE<(ak.length:Int):=G.da;obtain⟨fu,dI,bh⟩:=zaZ ei.out aE bB bC;cases dI;replace bh:=G.hx HB bh;replace bB:=eq_true bB;replace bC:=eq_true bC;obtain⟨i5,i6,fO⟩:=zau ae.out;subst fO;have bD:0<=((rd ak aE):Int):=G.da;have bE:(rd ak aE)<(aj.length:Int):=G.da;obtain⟨fv,dJ,bY⟩:=zcQ (zaf ae.out).2.2 (rd ak aE) bD bE;(try rw[←eo.out]at bY);cases dJ;replace bD:=eq_true bD;replace bE:=eq_true bE
                    go_wp2
                    go_ret
                    exact⟨zn5,G.cB HB.out⟩
                   ·have H':=G.m H;clear H;have bB:0<=(aE:Int):=G.da;have bC:aE<(ak.length:Int):=G.da;obtain⟨fu,dI,bh⟩:=zaZ ei.out aE bB bC;cases dI;replace bh:=G.hx HB bh;replace bB:=eq_true bB;replace bC:=eq_true bC;obtain⟨i7,i8,fP⟩:=zau ae.out;subst fP;have bD:0<=((rd ak aE):Int):=G.da;have bE:(rd ak aE)<(aj.length:Int):=G.da;obtain⟨fv,dJ,bY⟩:=zcQ (zaf ae.out).2.2 (rd ak aE) bD bE;(try rw[←eo.out]at bY);cases dJ;replace bD:=eq_true bD;replace bE:=eq_true bE
                    go_wp2
                    go_roundg k6
                    case measure=>have:=bl.out;have:=bm.out;have:=ba.out;have:=bj.out;have:=bu.out;have:=b5.out;omega
                    case rel=>exact⟨(wrap64 (aE+1)),(zh4),H',⟨by have:=bl.out;have:=bm.out;have:=ba.out;have:=bj.out;have:=bu.out;have:=b5.out;omega⟩,⟨G.cR ae.out⟩,⟨G.cb ab.out⟩,⟨G.cb ac.out⟩,⟨G.cB HB.out⟩⟩
                  ·rw[if_neg cp]at H;have ej:=decide_eq_false cp;clear cp;have H':=G.m H;clear H
                   go_wp2
                   go_loopg [14] k6 (fun kq g0 w'=>∃ (al:Int) (ao:List (S59)),g0=.int .i64 al/\zaa (zaC.l2 kq l2 aj (zax l1 aa) al l1 (l1.length:Int) aa ag ai ao 0=some r)/\zaa (kq<=k6)/\zaa (Kd.R Kd.bool 4 w' w.heap.size (fun _=>True) a7 aj)/\zaa (w'.heap[az]? =some (.cells #[.int .i64 ag,(.slice aN ai.length aO)] 31 (0,0)))/\zaa (w'.heap[ax]? =some (zez ao))/\zaa (Below w.heap.size w w'))
                   case atStart=>exact⟨(1),(af),(zh4),H',⟨Nat.le_refl _⟩,⟨G.cR ae.out⟩,⟨G.cb ab.out⟩,⟨G.cb ac.out⟩,⟨G.cB HB.out⟩⟩
                   case round=>
                    clear H';(try clear ej);obtain⟨al,ao,rfl,HA,cU,ae,ab,ac,HB⟩:=hrel;cases gk with
                    |zero=>exact absurd HA.out (by simp[zaC.l2])
                    |succ k7=>
                     have H:=HA.out;clear HA;simp only[zaC.l2]at H
                     by_cases cq:al<((zax l1 aa).length:Int)
                     ·rw[if_pos cq]at H;have eq:=decide_eq_true cq;clear cq;obtain⟨aH,bK⟩:∃j_:Int,(wrap64 (al - 1))=j_:=⟨_,rfl⟩;replace H:(if 0<=(aH) then(if(aH)<((zax l1 aa).length:Int) then(if 0<=al then((zce.f (rd (zax l1 aa) (aH)) (rd (zax l1 aa) al)).bind fun a5=>(if zg5 ao a5.1 a5.2=true then(some false) else(zaC.l2 k7 l2 aj (zax l1 aa) (wrap64 (al+1)) l1 (l1.length:Int) aa ag ai (ao++[⟨a5.1,a5.2⟩]) 0))) else(none)) else(none)) else(none))=some r:=by first|(rw[bK]at H;exact H)|(simp only[bK]at H⊢;exact H)
                      have g2:(IntKind.i64.wrap (al - 1))=aH:=(zb4 _).trans bK
                      obtain⟨ix,H⟩:=G.dp H
                      obtain⟨iy,H⟩:=G.dp H
                      obtain⟨iz,H⟩:=G.dp H;obtain⟨⟨aV,aW⟩,ev,H⟩:=G.bi H;(try dsimp only at H)
                      by_cases dt:zg5 ao aV aW=true
                      ·rw[if_pos dt]at H;obtain rfl:=Option.some.inj H;try go_wp2
                       replace ae:=G.m (zat ae.out);replace ab:=G.m (zan ab.out);replace ac:=G.m (zan ac.out);replace HB:=G.m (zas HB.out);have bF:0<=((aH):Int):=G.da;have bG:(aH)<((zax l1 aa).length:Int):=G.da;obtain⟨cL,dK,aS⟩:=zaZ aP.out (aH) bF bG;have av:=aS;obtain rfl:aK=cL:=(by injection dK);replace aS:=G.hx HB aS;replace bF:=eq_true bF;replace bG:=eq_true bG;have bH:0<=(al:Int):=G.da;have bI:al<((zax l1 aa).length:Int):=G.da;obtain⟨cM,dL,aT⟩:=zaZ aP.out al bH bI;have aw:=aT;obtain rfl:aK=cM:=(by injection dL);replace aT:=G.hx HB aT;replace bH:=eq_true bH;replace bI:=eq_true bI;refine ze5 (n:=12) (S:=fun w'=>w'.cell? (aK.add ((aH)).toNat)=some (.int .i64 (rd (zax l1 aa) (aH)))/\w'.cell? (aK.add (al).toNat)=some (.int .i64 (rd (zax l1 aa) al))) (ds:=[]) (G.fl 12 0) (zdn) rfl (zdn) ⟨(G.hx HB av),(G.hx HB aw)⟩ (fun hHeld=>?_);refine zep zaC.zn2 zaC.zlV (fun HT_ HW_=>?_);generalize wr.drew=jh at ae ab ac HB aS aT hHeld⊢;refine G.pu 0 113 1 ?_;refine G.pu 1 114 3 ?_;refine G.pu 2 115 7 ?_;refine G.pu 3 116 15 ?_;refine G.pu 5 118 47 ?_;refine G.pu 6 119 111 ?_;refine G.pu 7 120 239 ?_;refine G.ta2 4 117 255 ?_;refine G.ta2 8 121 511 ?_;refine zdX (σ:=Nat) 1 (G.fl 12 2047) (fun s_=>[(122,.agg #[.int .i64 aV,.int .i64 aW]),(15,.pointer (some ⟨s_,0,none⟩))]) (fun s_ w'=>(w'.cell? (aK.add ((aH)).toNat)=some (.int .i64 (rd (zax l1 aa) (aH)))/\w'.cell? (aK.add (al).toNat)=some (.int .i64 (rd (zax l1 aa) al)))/\(Kd.R Kd.bool 4 w' w.heap.size (fun _=>True) a7 aj)/\(w'.heap[az]? =some (.cells #[.int .i64 ag,.slice aN ai.length aO] 31 (0,0)))/\(w'.heap[ax]? =some (zez ao))/\(w'.heap[s_]? =some (.cells #[.int .i64 0,.int .i64 0] 59 (0,0)))/\(w.heap.size<=s_)/\(w.heap.size<=s_)/\(az≠s_)/\(s_≠az)/\(ax≠s_)/\(s_≠ax)/\(Below w.heap.size w w')) ?_ ?_;rotate_left
                       ·intro hCont;refine zgk (i:=9) (j:=10) (Ni:=some 122) (Nj:=some 15) (G.fl 12 1023) (G.fl 12 1535) rfl rfl rfl rfl (zcM HT_.out (zdn)) (by decide) (by decide) (fun K hK=>?_) (fun K hK=>?_)
                        ·skip;refine zdd Try.func53 (zdn) rfl #[.int .i64 (rd (zax l1 aa) (aH)),.int .i64 (rd (zax l1 aa) al)] (by rfl) rfl rfl (zoM) ?_;with_reducible refine(zce.calls (rd (zax l1 aa) (aH)) (rd (zax l1 aa) al) aV aW _ ev.out).mono ?_
                         rintro e g3 ⟨rfl,hb⟩;refine⟨_,rfl,?_⟩;replace ae:=G.rb ae hb;replace ab:=G.bb ab hb;replace ac:=G.bb ac hb;replace HB:=G.bs HB hb;(try clear hb hk);refine hK.out _ _ ⟨(G.hx HB av),(G.hx HB aw)⟩ (fun hHeld=>?_);clear hK K;refine G.no 122 ?_;refine zgj (i:=10) (N:=some 15) (G.fl 12 2047) rfl rfl (zds HT_.out (zdn)) (by decide) (fun K hK=>?_);refine zbF ?hg (N:=15) ?hd (cs:= #[.int .i64 0,.int .i64 0]) (t:=59) ?hr ?_;(case hd=>rfl);(case hg=>rfl);(case hr=>first|(go_simp;done)|(go_simp;rfl));intro ah hg g4 hbox hb;have n0:=G.rb ae hb;have n1:=G.bb ab hb;have n2:=G.bb ac hb;have n3:=G.bs HB hb;have n4:=G.m (hbox);have n5:=G.m (zfB:w.heap.size<=ah);have n6:=G.m (zfB:w.heap.size<=ah);have n7:=G.m (znu:az≠ah);have n8:=G.m (zoe:ah≠az);have n9:=G.m (zo2:ax≠ah);have bo:=G.m (zoX:ah≠ax);clear ae ab ac HB;revert n0 n1 n2 n3 n4 n5 n6 n7 n8 n9 bo;intro ae ab ac HB aI am a6 aB aF aq aG;clear hb hbox hg;refine hK.out _ _ ⟨(G.hx HB av),(G.hx HB aw)⟩ (fun hHeld=>?_);clear hK K;refine G.no 15 ?_;exact zbV (by simp only[zbI,Act.put,List.setIfInBounds_toArray,List.set_cons_zero,List.set_cons_succ]) (hCont (ah) _ ⟨hHeld,(G.cR ae.out),(G.cb ab.out),(G.cb ac.out),(G.cb aI.out),am.out,a6.out,aB.out,aF.out,aq.out,aG.out,(G.cB HB.out)⟩)
                        ·skip;refine zbF ?hg (N:=15) ?hd (cs:= #[.int .i64 0,.int .i64 0]) (t:=59) ?hr ?_;(case hd=>rfl);(case hg=>rfl);(case hr=>first|(go_simp;done)|(go_simp;rfl));intro ah hg g3 hbox hb;have n0:=G.rb ae hb;have n1:=G.bb ab hb;have n2:=G.bb ac hb;have n3:=G.bs HB hb;have n4:=G.m (hbox);have n5:=G.m (zfB:w.heap.size<=ah);have n6:=G.m (zfB:w.heap.size<=ah);have n7:=G.m (znu:az≠ah);have n8:=G.m (zoe:ah≠az);have n9:=G.m (zo2:ax≠ah);have bo:=G.m (zoX:ah≠ax);clear ae ab ac HB;revert n0 n1 n2 n3 n4 n5 n6 n7 n8 n9 bo;intro ae ab ac HB aI am a6 aB aF aq aG;clear hb hbox hg;refine hK.out _ _ ⟨(G.hx HB av),(G.hx HB aw)⟩ (fun hHeld=>?_);clear hK K;refine G.no 15 ?_;refine zgj (i:=9) (N:=some 122) (G.fl 12 2047) rfl rfl (zds HT_.out (zdn)) (by decide) (fun K hK=>?_);refine zdd Try.func53 (zdn) rfl #[.int .i64 (rd (zax l1 aa) (aH)),.int .i64 (rd (zax l1 aa) al)] (by rfl) rfl rfl (zoM) ?_;with_reducible refine(zce.calls (rd (zax l1 aa) (aH)) (rd (zax l1 aa) al) aV aW _ ev.out).mono ?_
                         rintro e g4 ⟨rfl,hb⟩;refine⟨_,rfl,?_⟩;replace ae:=G.rb ae hb;replace ab:=G.bb ab hb;replace ac:=G.bb ac hb;replace aI:=G.bb aI hb;replace HB:=G.bs HB hb;(try clear hb hk);refine hK.out _ _ ⟨(G.hx HB av),(G.hx HB aw)⟩ (fun hHeld=>?_);clear hK K;refine G.no 122 ?_;exact zbV (by simp only[zbI,Act.put,List.setIfInBounds_toArray,List.set_cons_zero,List.set_cons_succ]) (hCont (ah) _ ⟨hHeld,(G.cR ae.out),(G.cb ab.out),(G.cb ac.out),(G.cb aI.out),am.out,a6.out,aB.out,aF.out,aq.out,aG.out,(G.cB HB.out)⟩)
                       rintro ah bq ⟨hS_,du,dv,dw,dx,dy,dz,dA,dB,dC,dD,cj⟩;have n0:zaa (Kd.R Kd.bool 4 bq w.heap.size (fun _=>True) a7 aj):=⟨du⟩;have n1:zaa (bq.heap[az]? =some (.cells #[.int .i64 ag,.slice aN ai.length aO] 31 (0,0))):=⟨dv⟩;have n2:zaa (bq.heap[ax]? =some (zez ao)):=⟨dw⟩;have n3:zaa (bq.heap[ah]? =some (.cells #[.int .i64 0,.int .i64 0] 59 (0,0))):=⟨dx⟩;have n4:zaa (w.heap.size<=ah):=⟨dy⟩;have n5:zaa (w.heap.size<=ah):=⟨dz⟩;have n6:zaa (az≠ah):=⟨dA⟩;have n7:zaa (ah≠az):=⟨dB⟩;have n8:zaa (ax≠ah):=⟨dC⟩;have n9:zaa (ah≠ax):=⟨dD⟩;have bo:zaa (Below w.heap.size w bq):=⟨cj⟩;clear ae ab ac HB;clear du dv dw dx dy dz dA dB dC dD cj;revert n0 n1 n2 n3 n4 n5 n6 n7 n8 n9 bo;intro ae ab ac aI am a6 aB aF aq aG HB;have hHeld:bq.cell? (aK.add ((aH)).toNat)=some (.int .i64 (rd (zax l1 aa) (aH)))/\bq.cell? (aK.add (al).toNat)=some (.int .i64 (rd (zax l1 aa) al)):=hS_;refine zbV (a':= ?_) ?_ ?_;rotate_left
                       ·simp only[zbI,Act.put,List.setIfInBounds_toArray,List.set_cons_zero,List.set_cons_succ];rfl
                       refine zgj (i:=11) (N:=none) (G.fl 12 4095) rfl rfl (zds HT_.out (zdn)) (by decide) (fun K hK=>?_);have i9:bq.cell? ⟨ah,0,none⟩=some (.int .i64 0):=G.z aI 0;have iA:=zaT aI.out 0;have ga:=aB.out;have gb:=aq.out;have gc:=aF.out;have ge:=aG.out;have i_:bq.cell? ⟨ah,1,none⟩=some (.int .i64 0):=G.z aI 1;have iB:=zaT aI.out 1;have gf:=aB.out;have gg:=aq.out;have gh:=aF.out;have gi:=aG.out;refine zdf (w1:= ?_) (by rfl) rfl ?_ ?_;rotate_left
                       ·go_simp
                        rfl
                       refine hK.out _ _ ⟨((cell_far (p:=⟨ah,_,none⟩) (G.nl av am.out) _).trans (((cell_far (p:=⟨ah,_,none⟩) (G.nl av am.out) _).trans (hHeld.1)))),((cell_far (p:=⟨ah,_,none⟩) (G.nl aw am.out) _).trans (((cell_far (p:=⟨ah,_,none⟩) (G.nl aw am.out) _).trans (hHeld.2))))⟩ (fun hHeld=>?_);clear hK K;refine zbO (zbb HT_.out (zdn)) ?_;have iC:=aU.out;have iD:=aR.out;have iE:=aq.out;have iF:=aG.out;have iG:=aF.out;have iH:=aB.out;have⟨gj,gl,gm,gn⟩:=G.d2 (w:=bq) aI
                       go_wp2_with (first|(((with_reducible refine G.h 125 rfl ?_);refine zlB 125 (g:=ax) (l:=ao) (x0:=aV) (x1:=aW) (b:=true) (zno (zno ac.out aq.out _) aq.out _) dt ?_)))
                       go_ret
                       exact⟨by first|rfl|(simp[za1,za2]<;>rfl)|(simp only[←aZ,←bK];first|rfl|(simp[za1,za2]<;>rfl))|(simp[*,za1,za2]<;>rfl),G.cB HB.out⟩
                      ·rw[if_neg dt]at H;have H':=G.m H;clear H;try go_wp2
                       replace ae:=G.m (zat ae.out);replace ab:=G.m (zan ab.out);replace ac:=G.m (zan ac.out);replace HB:=G.m (zas HB.out);have bF:0<=((aH):Int):=G.da;have bG:(aH)<((zax l1 aa).length:Int):=G.da;obtain⟨cL,dK,aS⟩:=zaZ aP.out (aH) bF bG;have av:=aS;obtain rfl:aK=cL:=(by injection dK);replace aS:=G.hx HB aS;replace bF:=eq_true bF;replace bG:=eq_true bG;have bH:0<=(al:Int):=G.da;have bI:al<((zax l1 aa).length:Int):=G.da;obtain⟨cM,dL,aT⟩:=zaZ aP.out al bH bI;have aw:=aT;obtain rfl:aK=cM:=(by injection dL);replace aT:=G.hx HB aT;replace bH:=eq_true bH;replace bI:=eq_true bI;refine ze5 (n:=12) (S:=fun w'=>w'.cell? (aK.add ((aH)).toNat)=some (.int .i64 (rd (zax l1 aa) (aH)))/\w'.cell? (aK.add (al).toNat)=some (.int .i64 (rd (zax l1 aa) al))) (ds:=[]) (G.fl 12 0) (zdn) rfl (zdn) ⟨(G.hx HB av),(G.hx HB aw)⟩ (fun hHeld=>?_);refine zep zaC.zn2 zaC.zlV (fun HT_ HW_=>?_);generalize wr.drew=ji at ae ab ac HB aS aT hHeld⊢;refine G.pu 0 113 1 ?_;refine G.pu 1 114 3 ?_;refine G.pu 2 115 7 ?_;refine G.pu 3 116 15 ?_;refine G.pu 5 118 47 ?_;refine G.pu 6 119 111 ?_;refine G.pu 7 120 239 ?_;refine G.ta2 4 117 255 ?_;refine G.ta2 8 121 511 ?_;refine zdX (σ:=Nat) 1 (G.fl 12 2047) (fun s_=>[(122,.agg #[.int .i64 aV,.int .i64 aW]),(15,.pointer (some ⟨s_,0,none⟩))]) (fun s_ w'=>(w'.cell? (aK.add ((aH)).toNat)=some (.int .i64 (rd (zax l1 aa) (aH)))/\w'.cell? (aK.add (al).toNat)=some (.int .i64 (rd (zax l1 aa) al)))/\(Kd.R Kd.bool 4 w' w.heap.size (fun _=>True) a7 aj)/\(w'.heap[az]? =some (.cells #[.int .i64 ag,.slice aN ai.length aO] 31 (0,0)))/\(w'.heap[ax]? =some (zez ao))/\(w'.heap[s_]? =some (.cells #[.int .i64 0,.int .i64 0] 59 (0,0)))/\(w.heap.size<=s_)/\(w.heap.size<=s_)/\(az≠s_)/\(s_≠az)/\(ax≠s_)/\(s_≠ax)/\(Below w.heap.size w w')) ?_ ?_;rotate_left
                       ·intro hCont;refine zgk (i:=9) (j:=10) (Ni:=some 122) (Nj:=some 15) (G.fl 12 1023) (G.fl 12 1535) rfl rfl rfl rfl (zcM HT_.out (zdn)) (by decide) (by decide) (fun K hK=>?_) (fun K hK=>?_)
                        ·skip;refine zdd Try.func53 (zdn) rfl #[.int .i64 (rd (zax l1 aa) (aH)),.int .i64 (rd (zax l1 aa) al)] (by rfl) rfl rfl (zoM) ?_;with_reducible refine(zce.calls (rd (zax l1 aa) (aH)) (rd (zax l1 aa) al) aV aW _ ev.out).mono ?_
                         rintro e g5 ⟨rfl,hb⟩;refine⟨_,rfl,?_⟩;replace ae:=G.rb ae hb;replace ab:=G.bb ab hb;replace ac:=G.bb ac hb;replace HB:=G.bs HB hb;(try clear hb hk);refine hK.out _ _ ⟨(G.hx HB av),(G.hx HB aw)⟩ (fun hHeld=>?_);clear hK K;refine G.no 122 ?_;refine zgj (i:=10) (N:=some 15) (G.fl 12 2047) rfl rfl (zds HT_.out (zdn)) (by decide) (fun K hK=>?_);refine zbF ?hg (N:=15) ?hd (cs:= #[.int .i64 0,.int .i64 0]) (t:=59) ?hr ?_;(case hd=>rfl);(case hg=>rfl);(case hr=>first|(go_simp;done)|(go_simp;rfl));intro ah hg g6 hbox hb;have n0:=G.rb ae hb;have n1:=G.bb ab hb;have n2:=G.bb ac hb;have n3:=G.bs HB hb;have n4:=G.m (hbox);have n5:=G.m (zfB:w.heap.size<=ah);have n6:=G.m (zfB:w.heap.size<=ah);have n7:=G.m (znu:az≠ah);have n8:=G.m (zoe:ah≠az);have n9:=G.m (zo2:ax≠ah);have bo:=G.m (zoX:ah≠ax);clear ae ab ac HB;revert n0 n1 n2 n3 n4 n5 n6 n7 n8 n9 bo;intro ae ab ac HB aI am a6 aB aF aq aG;clear hb hbox hg;refine hK.out _ _ ⟨(G.hx HB av),(G.hx HB aw)⟩ (fun hHeld=>?_);clear hK K;refine G.no 15 ?_;exact zbV (by simp only[zbI,Act.put,List.setIfInBounds_toArray,List.set_cons_zero,List.set_cons_succ]) (hCont (ah) _ ⟨hHeld,(G.cR ae.out),(G.cb ab.out),(G.cb ac.out),(G.cb aI.out),am.out,a6.out,aB.out,aF.out,aq.out,aG.out,(G.cB HB.out)⟩)
                        ·skip;refine zbF ?hg (N:=15) ?hd (cs:= #[.int .i64 0,.int .i64 0]) (t:=59) ?hr ?_;(case hd=>rfl);(case hg=>rfl);(case hr=>first|(go_simp;done)|(go_simp;rfl));intro ah hg g5 hbox hb;have n0:=G.rb ae hb;have n1:=G.bb ab hb;have n2:=G.bb ac hb;have n3:=G.bs HB hb;have n4:=G.m (hbox);have n5:=G.m (zfB:w.heap.size<=ah);have n6:=G.m (zfB:w.heap.size<=ah);have n7:=G.m (znu:az≠ah);have n8:=G.m (zoe:ah≠az);have n9:=G.m (zo2:ax≠ah);have bo:=G.m (zoX:ah≠ax);clear ae ab ac HB;revert n0 n1 n2 n3 n4 n5 n6 n7 n8 n9 bo;intro ae ab ac HB aI am a6 aB aF aq aG;clear hb hbox hg;refine hK.out _ _ ⟨(G.hx HB av),(G.hx HB aw)⟩ (fun hHeld=>?_);clear hK K;refine G.no 15 ?_;refine zgj (i:=9) (N:=some 122) (G.fl 12 2047) rfl rfl (zds HT_.out (zdn)) (by decide) (fun K hK=>?_);refine zdd Try.func53 (zdn) rfl #[.int .i64 (rd (zax l1 aa) (aH)),.int .i64 (rd (zax l1 aa) al)] (by rfl) rfl rfl (zoM) ?_;with_reducible refine(zce.calls (rd (zax l1 aa) (aH)) (rd (zax l1 aa) al) aV aW _ ev.out).mono ?_
                         rintro e g6 ⟨rfl,hb⟩;refine⟨_,rfl,?_⟩;replace ae:=G.rb ae hb;replace ab:=G.bb ab hb;replace ac:=G.bb ac hb;replace aI:=G.bb aI hb;replace HB:=G.bs HB hb;(try clear hb hk);refine hK.out _ _ ⟨(G.hx HB av),(G.hx HB aw)⟩ (fun hHeld=>?_);clear hK K;refine G.no 122 ?_;exact zbV (by simp only[zbI,Act.put,List.setIfInBounds_toArray,List.set_cons_zero,List.set_cons_succ]) (hCont (ah) _ ⟨hHeld,(G.cR ae.out),(G.cb ab.out),(G.cb ac.out),(G.cb aI.out),am.out,a6.out,aB.out,aF.out,aq.out,aG.out,(G.cB HB.out)⟩)
                       rintro ah br ⟨hS_,du,dv,dw,dx,dy,dz,dA,dB,dC,dD,cj⟩;have n0:zaa (Kd.R Kd.bool 4 br w.heap.size (fun _=>True) a7 aj):=⟨du⟩;have n1:zaa (br.heap[az]? =some (.cells #[.int .i64 ag,.slice aN ai.length aO] 31 (0,0))):=⟨dv⟩;have n2:zaa (br.heap[ax]? =some (zez ao)):=⟨dw⟩;have n3:zaa (br.heap[ah]? =some (.cells #[.int .i64 0,.int .i64 0] 59 (0,0))):=⟨dx⟩;have n4:zaa (w.heap.size<=ah):=⟨dy⟩;have n5:zaa (w.heap.size<=ah):=⟨dz⟩;have n6:zaa (az≠ah):=⟨dA⟩;have n7:zaa (ah≠az):=⟨dB⟩;have n8:zaa (ax≠ah):=⟨dC⟩;have n9:zaa (ah≠ax):=⟨dD⟩;have bo:zaa (Below w.heap.size w br):=⟨cj⟩;clear ae ab ac HB;clear du dv dw dx dy dz dA dB dC dD cj;revert n0 n1 n2 n3 n4 n5 n6 n7 n8 n9 bo;intro ae ab ac aI am a6 aB aF aq aG HB;have hHeld:br.cell? (aK.add ((aH)).toNat)=some (.int .i64 (rd (zax l1 aa) (aH)))/\br.cell? (aK.add (al).toNat)=some (.int .i64 (rd (zax l1 aa) al)):=hS_;refine zbV (a':= ?_) ?_ ?_;rotate_left
                       ·simp only[zbI,Act.put,List.setIfInBounds_toArray,List.set_cons_zero,List.set_cons_succ];rfl
                       refine zgj (i:=11) (N:=none) (G.fl 12 4095) rfl rfl (zds HT_.out (zdn)) (by decide) (fun K hK=>?_);have ja:br.cell? ⟨ah,0,none⟩=some (.int .i64 0):=G.z aI 0;have iI:=zaT aI.out 0;have gp:=aB.out;have gq:=aq.out;have gr:=aF.out;have gt:=aG.out;have jb:br.cell? ⟨ah,1,none⟩=some (.int .i64 0):=G.z aI 1;have iJ:=zaT aI.out 1;have gu:=aB.out;have gv:=aq.out;have gw:=aF.out;have gx:=aG.out;refine zdf (w1:= ?_) (by rfl) rfl ?_ ?_;rotate_left
                       ·go_simp
                        rfl
                       refine hK.out _ _ ⟨((cell_far (p:=⟨ah,_,none⟩) (G.nl av am.out) _).trans (((cell_far (p:=⟨ah,_,none⟩) (G.nl av am.out) _).trans (hHeld.1)))),((cell_far (p:=⟨ah,_,none⟩) (G.nl aw am.out) _).trans (((cell_far (p:=⟨ah,_,none⟩) (G.nl aw am.out) _).trans (hHeld.2))))⟩ (fun hHeld=>?_);clear hK K;refine zbO (zbb HT_.out (zdn)) ?_;have iK:=aU.out;have iL:=aR.out;have iM:=aq.out;have iN:=aG.out;have iO:=aF.out;have iP:=aB.out;have⟨gy,gz,gA,gB⟩:=G.d2 (w:=br) aI
                       go_wp2_with (first|(((with_reducible refine G.h 125 rfl ?_);refine zlB 125 (g:=ax) (l:=ao) (x0:=aV) (x1:=aW) (b:=false) (zno (zno ac.out aq.out _) aq.out _) (Bool.eq_false_iff.mpr dt) ?_))|((at_mapUpdate;refine zpe (g:=ax) (l:=ao) (x0:=aV) (x1:=aW) (zno (zno ac.out aq.out _) aq.out _) (Bool.eq_false_iff.mpr dt) ?_;intro w_m hm_ hgm_;replace ae:=G.m (zam (zmu (zaP (p:=⟨ah,1,none⟩) (zaP (p:=⟨ah,0,none⟩) (zot (zaH ae.out aI.out (by decide)) ac.out) (fun _ hk=>hk.1.2) (.int .i64 aV)) (fun _ hk=>hk.1.2) (.int .i64 aW)) hgm_ (fun k_ hk e_=>hk.2 (Option.some.inj e_))) (fun _ _=>trivial));replace ab:=G.m (zdR (zc6 (zc6 ab.out aB.out _) aB.out _) hgm_ (fun e_=>aR.out (Option.some.inj e_)));replace ac:=G.m hm_;replace HB:=G.m (zn0 (G.cB HB.out) hgm_ eY.out);clear hm_ hgm_)))
                       go_roundg k7
                       case measure=>have:=bl.out;have:=bm.out;have:=ba.out;have:=bj.out;have:=bu.out;have:=b5.out;have:=cU.out;omega
                       case rel=>exact⟨(wrap64 (al+1)),(ao++[⟨aV,aW⟩]),(zh4),H',⟨by have:=bl.out;have:=bm.out;have:=ba.out;have:=bj.out;have:=bu.out;have:=b5.out;have:=cU.out;omega⟩,⟨G.cR ae.out⟩,⟨G.cb ab.out⟩,⟨G.cb ac.out⟩,⟨G.cB HB.out⟩⟩
                     ·rw[if_neg cq]at H;have eq:=decide_eq_false cq;clear cq;have H':=G.m H;clear H
                      go_wp2
                      go_loopg [130] k7 (fun kq fQ w'=>∃ (bk:List Bool) (aD:Int),fQ=.int .i64 aD/\zaa (zaC.l3 kq l2 bk l1 (l1.length:Int) aa (zax l1 aa) ((zax l1 aa).length:Int) aD ag ai ao 0=some r)/\zaa (kq<=k7)/\zaa (Kd.R Kd.bool 4 w' w.heap.size (fun _=>True) a7 bk)/\zaa (w'.heap[az]? =some (.cells #[.int .i64 ag,(.slice aN ai.length aO)] 31 (0,0)))/\zaa (w'.heap[ax]? =some (zez ao))/\zaa (Below w.heap.size w w'))
                      case atStart=>exact⟨(aj),(0),(zh4),H',⟨Nat.le_refl _⟩,⟨G.cR ae.out⟩,⟨G.cb ab.out⟩,⟨G.cb ac.out⟩,⟨G.cB HB.out⟩⟩
                      case round=>
                       clear H';(try clear eq);obtain⟨bk,aD,rfl,HA,eE,ae,ab,ac,HB⟩:=hrel;cases gk with
                       |zero=>exact absurd HA.out (by simp[zaC.l3])
                       |succ k8=>
                        have H:=HA.out;clear HA;simp only[zaC.l3]at H
                        by_cases cr:aD<((zax l1 aa).length:Int)
                        ·rw[if_pos cr]at H;have fw:=decide_eq_true cr;clear cr
                         obtain⟨g7,H⟩:=G.dp H
                         obtain⟨g8,H⟩:=G.dp H
                         obtain⟨g9,H⟩:=G.dp H
                         obtain⟨g_,H⟩:=G.dp H;obtain⟨dM,bT⟩:∃y_:List Bool,y_=(bk.set ((rd (zax l1 aa) aD):Int).toNat true):=⟨_,rfl⟩;replace H:(zaC.l3 k8 l2 dM l1 (l1.length:Int) aa (zax l1 aa) ((zax l1 aa).length:Int) (wrap64 (aD+1)) ag ai ao 0)=some r:=G.y0 bT H
                         have fx:=G.m bT;clear bT;have H':=G.m H;clear H;have dN:0<=(aD:Int):=G.da;have dO:aD<((zax l1 aa).length:Int):=G.da;obtain⟨fy,fR,ct⟩:=zaZ aP.out aD dN dO;obtain rfl:aK=fy:=(by injection fR);replace ct:=G.hx HB ct;replace dN:=eq_true dN;replace dO:=eq_true dO;have dP:0<=((rd (zax l1 aa) aD):Int):=G.da;have dQ:((rd (zax l1 aa) aD):Int)<((bk.length:Int):Int):=G.da;obtain⟨cS,fz,ew,ex,fA,iQ,ey⟩:=ze2 ae.out (by omega);(first|cases ew|(injection ew with ea_ en_ ec_;(first|subst ea_|(injection ea_ with ea_;subst ea_));subst ec_;clear en_));have fB:=G.m ex;have iR:=G.m ey;clear ex fA ey;obtain⟨gC,gD⟩:=zdH false ae.out ((rd (zax l1 aa) aD):Int) dP dQ;replace dP:=eq_true dP;replace dQ:=eq_true dQ;have cT:=zfA ae.out ((rd (zax l1 aa) aD):Int) true
                         go_wp2_with (first|((with_reducible refine zcw (t:=4) (p:=136) rfl ?_);refine zcl (t:=4) (p:=136) (v:= ?vo_w106) (w1:=(wr.setCell ⟨cS,((rd (zax l1 aa) aD):Int).toNat,none⟩ (.bool true))) ?hg ?ho ?hn ?hr ?_;(case ho=>rfl);(case hg=>rfl);(case hn=>rfl);(case hr=>first|(go_simp;done)|(go_simp;rfl));intro dR hw;have hg:wr.grownBy dR (some cS):=(by rw[hw];exact cT.2);have hp_:Kd.R Kd.bool 4 dR w.heap.size (fun _=>True) (.slice (some ⟨cS,0,none⟩) bk.length fz) dM:=(by rw[hw,fx.out];exact cT.1);clear cT;replace ab:=G.bg ab hg (zcf ae.out ab.out (by decide));replace ac:=G.bg ac hg (mNe ae.out ac.out);replace ae:=G.m (hp_);replace HB:=G.m ((by rw[hw];exact zbn (HB.out) fB.out:Below w.heap.size w dR));clear hg hw hp_))
                         go_roundg k8
                         case measure=>have:=bl.out;have:=bm.out;have:=ba.out;have:=bj.out;have:=bu.out;have:=b5.out;have:=cU.out;have:=eE.out;omega
                         case rel=>exact⟨(dM),(wrap64 (aD+1)),(zh4),H',⟨zqh⟩,⟨G.cR ae.out⟩,⟨G.cb ab.out⟩,⟨G.cb ac.out⟩,⟨G.cB HB.out⟩⟩
                        ·rw[if_neg cr]at H;have fw:=decide_eq_false cr;clear cr;have H':=G.m H;clear H
                         go_wp2
                         go_roundg k8
                         case measure=>have:=bl.out;have:=bm.out;have:=ba.out;have:=bj.out;have:=bu.out;have:=b5.out;have:=cU.out;have:=eE.out;omega
                         case rel=>exact⟨(bk),(wrap64 (aa+1)),(ao),(zh4),H',⟨zqh⟩,⟨G.cR ae.out⟩,⟨G.cb ab.out⟩,⟨G.cb ac.out⟩,⟨G.cB HB.out⟩⟩
               ·obtain rfl:=Option.some.inj H
                go_wp2_with (first|((with_reducible refine zb8 (f:=52) rfl ?_);refine zdL (some 94) rfl rfl Try.func52 (zdn) rfl #[.slice A2 ak.length c2] rfl (G.ar) ?_;(with_reducible refine(zaX.calls bX _ _ ak false _ ?side1 ?side2 fH.out).mono ?_);(case side1=>exact G.cC (zay ei.out HB.out));(case side2=>exact fG.out);rintro e w' ⟨rfl,⟨nd,rfl⟩⟩;refine⟨_,rfl,?_⟩))
                go_ret
                exact⟨zn5,G.cB HB.out⟩
      ·rw[if_neg ck]at H;have dW:=decide_eq_false ck;clear ck
       by_cases bJ:(af.length:Int)=(ai.length:Int)
       ·rw[if_pos bJ]at H;have eS:=beq_iff_eq.mpr bJ;have eT:=bne_eq_false_iff_eq.mpr bJ;clear bJ;obtain⟨cu,fS,H⟩:=G.bi H;(try dsimp only at H);obtain rfl:=Option.some.inj H;have hD:=aU.out;have hJ:=aR.out;have⟨fT,fU,fV,fW⟩:=G.d2 (w:=wr) ab;obtain⟨iS,iT,fC⟩:=zau ae.out;subst fC
        go_wp2_with (first|((with_reducible refine G.h 140 rfl ?_);refine zos 140 (g:=ax) (l:=af) ac.out ?_)|(go_at_call 54;(with_reducible refine(za7.calls k2 _ _ aj false cu _ ?side1 ?side2 fS.out).mono ?_);(case side1=>exact G.cC (zaf ae.out).2.2);(case side2=>exact(zaf ae.out).2.1);rintro e w' ⟨rfl,⟨nd,rfl⟩⟩))
        go_ret
        exact⟨zoH,G.cB HB.out⟩
       ·rw[if_neg bJ]at H;have eS:=beq_eq_false_iff_ne.mpr bJ;have eT:=bne_iff_ne.mpr bJ;obtain rfl:=Option.some.inj H;have hU:=aU.out;have hV:=aR.out;have⟨fX,fY,fZ,f2⟩:=G.d2 (w:=wr) ab
        go_wp2_with (first|((with_reducible refine G.h 140 rfl ?_);refine zos 140 (g:=ax) (l:=af) ac.out ?_))
        go_ret
        exact⟨zoH,G.cB HB.out⟩
def zcD.f (k:Nat) (ab:Int) (aa:List (S59)) (l1:List (List Int)):Option (Bool):=zaC.f k ab aa l1 []
theorem zcD.calls (k:Nat) (ab:Int) (ac:Option Addr) (ae:Nat) (aa:List (S59)) (A1:Option Addr) (c1:Nat) (l1:List (List Int)) (r:Bool) (w:World) (af:Kd.C k59 w ac aa.length aa) (ag:aa.length<=ae) (hr1:Kd.C (Kd.slice 3 (Kd.int .i64)) w A1 l1.length l1) (ah:l1.length<=c1) (h:zcD.f k ab aa l1=some r):
 Calls Try.prog 19 #[.agg #[.int .i64 ab,.slice ac aa.length ae],.slice A1 l1.length c1] w fun e w'=>e=.returned (.bool r)/\Below w.heap.size w w':=zaC.calls k ab ac ae aa A1 c1 l1 [] r w af ag hr1 ah h
def zbD.f (l0:List Int):Option (Bool):=if(l0.length:Int)>0 then(if 0<(l0.length:Int) then(if 0<=(wrap64 ((l0.length:Int) - 1)) then(if(wrap64 ((l0.length:Int) - 1))<(l0.length:Int) then(some ((rd l0 0) !=(rd l0 (wrap64 ((l0.length:Int) - 1))))) else(none)) else(none)) else(none)) else(some false)
theorem zbD.calls (A0:Option Addr) (c0:Nat) (l0:List Int) (r:Bool) (w:World) (ak:Kd.C (Kd.int .i64) w A0 l0.length l0) (al:l0.length<=c0) (h:zbD.f l0=some r):
  Calls Try.prog 83 #[.slice A0 l0.length c0] w fun e w'=>e=.returned (.bool r)/\za_ w w':=by
 have am:=G.m ak;have aC:=G.m al;clear ak al;unfold zbD.f at h;have H:=h;clear h
 by_cases c2:(l0.length:Int)>0
 ·rw[if_pos c2]at H;have ao:=decide_eq_true c2;have ap:decide (0<l0.length)=true:=decide_eq_true (by omega);clear c2
  obtain⟨c3,H⟩:=G.ip H;have ay:=decide_eq_true c3;have az:decide (0<l0.length)=true:=decide_eq_true (by omega);clear c3;obtain⟨aa,ac⟩:∃j_:Int,(wrap64 ((l0.length:Int) - 1))=j_:=⟨_,rfl⟩;replace H:(if 0<=(aa) then(if(aa)<(l0.length:Int) then(some ((rd l0 0) !=(rd l0 (aa)))) else(none)) else(none))=some r:=by first|(rw[ac]at H;exact H)|(simp only[ac]at H⊢;exact H)
  have aw:(IntKind.i64.wrap ((l0.length:Int) - 1))=aa:=(zb4 _).trans ac
  obtain⟨aA,H⟩:=G.dp H
  obtain⟨aB,H⟩:=G.dp H;obtain rfl:=Option.some.inj H;have ae:0<=(0:Int):=(by omega);have af:0<(l0.length:Int):=G.da;obtain⟨ai,aq,ab⟩:=zaZ am.out 0 ae af;cases aq;have ax:(0<l0.length)=True:=eq_true (by omega);(try rw[show((0:Int)).toNat=0 from rfl]at ab);(try rw[Addr.add_zero']at ab);replace ae:=eq_true ae;replace af:=eq_true af;have ag:0<=((aa):Int):=G.da;have ah:(aa)<(l0.length:Int):=G.da;obtain⟨aj,au,av⟩:=zaZ am.out (aa) ag ah;obtain rfl:ai=aj:=(by injection au);replace ag:=eq_true ag;replace ah:=eq_true ah
  go_enter Try.func83,Try.ntmps83
  go_wp2
  repeat(go_quiet (fail);try go_wp2)
  go_ret
  exact⟨by first|rfl|(simp;done)|(simp only[←ac]<;> (first|rfl|simp))|(simp[*];done),by repeat(first|exact za_.refl _|apply za_.step)⟩
 ·rw[if_neg c2]at H;have ao:=decide_eq_false c2;have ap:decide (0<l0.length)=false:=decide_eq_false (by omega);clear c2;obtain rfl:=Option.some.inj H
  go_enter Try.func83,Try.ntmps83
  go_wp2
  repeat(go_quiet (fail);try go_wp2)
  go_ret
  exact⟨by first|rfl|(simp;done)|(simp[*];done),by repeat(first|exact za_.refl _|apply za_.step)⟩
theorem zqA {p:Prop}(h:p:=by(try simp only[List.map_toArray,List.map_cons,List.map_nil]);first|done|(simp only[a_];rfl)|rfl|(simp only[List.length_drop,List.length_take];rfl)):p:=h
theorem zqB {p:Prop}(h:p:=by(try simp only[List.map_toArray,List.map_cons,List.map_nil]);first|done|(simp only[bH];rfl)|rfl|(simp only[List.length_drop,List.length_take];rfl)):p:=h
theorem zpW {p:Prop}(h:p:=by first|rfl|(simp[za1,za2]<;>rfl)|(simp[*,za1,za2]<;>rfl)):p:=h
theorem zoF {p:Prop}(h:p:=by have:=bI.out;have:=bJ.out;have:=bv.out;first|omega|exact Nat.le_refl _):p:=h
theorem zgK {p:Prop}(h:p:=by first|rfl|(simp;done)|(simp[*];done)):p:=h
theorem zkD {p:Prop}(h:p:=by first|omega|exact Nat.le_refl _):p:=h
theorem ziV {p:Prop}(h:p:=by kernel_rfl):p:=h
attribute [local go_sem high] zkX
mutual
def zae.j0:Nat->List (S59)->List Int->List Int->Bool->Int->List (S59)->Option (Bool)
 |0,_,_,_,_,_,_=>none
 |k+1,x1,x2,x3,dP,aj,ak=>if dP=true then(some false) else(zae.l0 k x1 x2 x3 0 aj ak)
def zae.l0:Nat->List (S59)->List Int->List Int->Int->Int->List (S59)->Option (Bool)
 |0,_,_,_,_,_,_=>none
 |k+1,x1,x2,x3,al,aj,ak=>if al<(x3.length:Int) then(if al>0 then(zae.j2 k x1 x2 x3 al (decide ((wrap64 (al+1))<(x3.length:Int))) aj ak) else(zae.j2 k x1 x2 x3 al false aj ak)) else(some true)
def zae.j2:Nat->List (S59)->List Int->List Int->Int->Bool->Int->List (S59)->Option (Bool)
 |0,_,_,_,_,_,_,_=>none
 |k+1,x1,x2,x3,al,dQ,aj,ak=>if 0<=al then(if al<(x3.length:Int) then((za5.f k aj ak (rd x3 al)).bind fun b1=>(if b1=true then(if dQ=true then((zaM.f k x2 (rd x3 al)).bind fun aW=>(if aW=true then(zae.j3 k x1 x2 x3 al true aj ak) else(if al<=(x3.length:Int) then((zaM.f k (x3.take (al:Int).toNat) (rd x3 al)).bind fun aI=>(zae.j3 k x1 x2 x3 al aI aj ak)) else(none)))) else(zae.j3 k x1 x2 x3 al false aj ak)) else(zae.j3 k x1 x2 x3 al true aj ak))) else(none)) else(none)
def zae.j3:Nat->List (S59)->List Int->List Int->Int->Bool->Int->List (S59)->Option (Bool)
 |0,_,_,_,_,_,_,_=>none
 |k+1,x1,x2,x3,al,dL,aj,ak=>if dL=true then(some false) else(if al=0 then(zae.l0 k x1 x2 x3 (wrap64 (al+1)) aj ak) else(if 0<=(wrap64 (al - 1)) then(if(wrap64 (al - 1))<(x3.length:Int) then(if 0<=al then(if al<(x3.length:Int) then((zbU.f k aj ak (rd x3 (wrap64 (al - 1))) (rd x3 al)).bind fun bc=>(if bc=true then(zae.l1 k x1 x2 x3 al 0 aj ak) else(some false))) else(none)) else(none)) else(none)) else(none)))
def zae.l1:Nat->List (S59)->List Int->List Int->Int->Int->Int->List (S59)->Option (Bool)
 |0,_,_,_,_,_,_,_=>none
 |k+1,x1,x2,x3,al,b7,aj,ak=>if b7<(x1.length:Int) then(if 0<=b7 then(if 0<=(wrap64 (al - 1)) then(if(wrap64 (al - 1))<(x3.length:Int) then(if 0<=al then(if al<(x3.length:Int) then((zbt.f (rd x3 (wrap64 (al - 1))) (rd x3 al)).bind fun bK=>(if(((zac x1 b7).f0)==bK.1&&(((zac x1 b7).f1)==bK.2))=true then(some false) else(zae.l1 k x1 x2 x3 al (wrap64 (b7+1)) aj ak))) else(none)) else(none)) else(none)) else(none)) else(none)) else(zae.l0 k x1 x2 x3 (wrap64 (al+1)) aj ak)
end
def zae.f (k:Nat) (ae:Int) (ac:List (S59)) (l1:List (S59)) (l2:List Int) (l3:List Int) (a4:Bool):Option (Bool):=if(l3.length:Int)<2 then(zae.j0 k l1 l2 l3 true ae ac) else(if a4=true then((zbD.f l3).bind fun bd=>(if bd=true then(zae.j0 k l1 l2 l3 true ae ac) else(if(l3.length:Int)<4 then(zae.j0 k l1 l2 l3 true ae ac) else((zbD.f l3).bind fun aQ=>(if aQ=true then(zae.j0 k l1 l2 l3 false ae ac) else(zae.j0 k l1 l2 l3 (decide ((l3.length:Int)<4)) ae ac)))))) else(if 0<(l3.length:Int) then((zaM.f k l2 (rd l3 0)).bind fun bf=>(if bf=true then(if 0<=(wrap64 ((l3.length:Int) - 1)) then(if(wrap64 ((l3.length:Int) - 1))<(l3.length:Int) then((zaM.f k l2 (rd l3 (wrap64 ((l3.length:Int) - 1)))).bind fun aP=>(if aP=true then((zbD.f l3).bind fun aC=>(if aC=true then(zae.j0 k l1 l2 l3 false ae ac) else(zae.j0 k l1 l2 l3 (decide ((l3.length:Int)<4)) ae ac))) else(zae.j0 k l1 l2 l3 true ae ac))) else(none)) else(none)) else(zae.j0 k l1 l2 l3 true ae ac))) else(none)))
def zae.T7:Bool×List (List Nat×List Nat):=(true,[([],[]),([],[]),([],[]),([1,2],[1,2]),([3],[3]),([0,4],[0,4]),([5],[5]),([6,5],[6]),([7],[7]),([8,7,7],[7,8]),([9],[9]),([9],[9]),([9],[9]),([11,12,9],[9,11,12]),([13,9],[9,13]),([10,14,9,9],[9,10,14]),([15,15,9],[9,15]),([16],[16]),([16],[16]),([17,18,16],[16,17,18]),([16],[16]),([16],[16]),([20,21,16],[16,20,21]),([22,16],[16,22]),([19,23,16,16],[16,19,23]),([16,24,9],[9,16,24]),([9,25,7],[7,9,25]),([7,26],[7,26])])
def zae.B7:List Nat:=[0,0,0,6,14,31,63,127,255,511,1023,1023,1023,7167,15359,32767,65535,131071,131071,524287,131071,131071,3276799,7471103,16777215,33554431,67108863,134217727]
theorem zae.zgL:zc0 .any (opsOf Try.f45 7)=zae.T7:=by kernel_rfl
theorem zae.zdU:zby zae.T7.2 zae.B7=true:=by kernel_rfl
def zae.T10:Bool×List (List Nat×List Nat):=(true,[([],[]),([],[]),([],[]),([2],[2]),([1,3],[1,3]),([4],[4]),([],[]),([],[]),([6,7],[6,7]),([8],[8]),([0,5,9],[0,5,9]),([10],[10])])
def zae.B10:List Nat:=[0,0,0,4,14,30,0,0,192,448,1023,2047]
theorem zae.zkA:zc0 .any (opsOf Try.f45 10)=zae.T10:=by kernel_rfl
theorem zae.ziE:zby zae.T10.2 zae.B10=true:=by kernel_rfl
def zae.T15:Bool×List (List Nat×List Nat):=(true,[([],[]),([],[]),([0,1],[0,1]),([2],[2]),([],[]),([],[]),([5],[5]),([4,6],[4,6]),([7],[7]),([],[]),([],[]),([9,10],[9,10]),([11],[11]),([8,12],[8,12]),([3,13],[3,13])])
def zae.B15:List Nat:=[0,0,3,7,0,0,32,112,240,0,0,1536,3584,8176,16383]
theorem zae.zns:zc0 .any (opsOf Try.f45 15)=zae.T15:=by kernel_rfl
theorem zae.zlS:zby zae.T15.2 zae.B15=true:=by kernel_rfl
theorem zae.calls (k:Nat) (ae:Int) (av:Option Addr) (aw:Nat) (ac:List (S59)) (A1:Option Addr) (c1:Nat) (l1:List (S59)) (A2:Option Addr) (c2:Nat) (l2:List Int) (A3:Option Addr) (c3:Nat) (l3:List Int) (a4:Bool) (r:Bool) (w:World) (cu:Kd.C k59 w av ac.length ac) (cv:ac.length<=aw) (hr1:Kd.C k59 w A1 l1.length l1) (dB:l1.length<=c1) (hr2:Kd.C (Kd.int .i64) w A2 l2.length l2) (dC:l2.length<=c2) (dD:Kd.C (Kd.int .i64) w A3 l3.length l3) (dE:l3.length<=c3) (h:zae.f k ae ac l1 l2 l3 a4=some r):
  Calls Try.prog 45 #[.agg #[.int .i64 ae,.slice av ac.length aw],.slice A1 l1.length c1,.slice A2 l2.length c2,.slice A3 l3.length c3,.bool a4] w fun e w'=>e=.returned (.bool r)/\Below w.heap.size w w':=by
 have el:=Try.underlying31;have em:=Try.underlying59;have bn:=G.m cu;have bo:=G.m cv;clear cu cv;have dF:=G.m hr1;have eo:=G.m dB;clear hr1 dB;have bL:=G.m hr2;have bM:=G.m dC;clear hr2 dC;have ap:=G.m dD;have bN:=G.m dE;clear dD dE;have HB:=G.m (Below.refl w.heap.size w);unfold zae.f at h;have H:=h;clear h;have df:=G.m H;clear H
 go_enter Try.func45,Try.ntmps45
 go_upto_region 1 with(first|((with_reducible refine G.h 5 rfl ?_);(try(refine za6 (by rfl) ?_;dsimp only));refine G.be 5 #[.int .i64 ae,.slice av ac.length aw] 31 ?_;intro ao hg w7 hbox hb;have ab:=G.m (hbox);have dZ:=G.m ((by rw[hg];exact(zai (G.cB HB.out)):w.heap.size<=ao));have d7:=G.m ((by rw[hg];exact(zai (G.cB HB.out)):w.heap.size<=ao));replace HB:=G.bs HB hb;clear hb hbox hg))
 (try simp only[Act.put,List.setIfInBounds_toArray,List.set_cons_zero,List.set_cons_succ])
 go_cut [61] (fun dR wc=>∃ (kq:Nat) (bS:Bool),dR=.bool bS/\zaa (zae.j0 kq l1 l2 l3 bS ae ac=some r)/\zaa (kq<=k)/\zaa (wc.heap[ao]? =some (.cells #[.int .i64 ae,(.slice av ac.length aw)] 31 (0,0)))/\zaa (Below w.heap.size w wc))
 case first=>
  have H:=df.out;clear df
  by_cases c8:(l3.length:Int)<2
  ·rw[if_pos c8]at H;have bU:=decide_eq_true c8;have dM:decide (l3.length<2)=true:=decide_eq_true (by omega);clear c8;(first|rw[bU]|(simp only[zb4,zcu];rw[bU])|skip);have H':=G.m H;clear H
   go_wp2
   go_meet
   case rel=>exact⟨_,(true),(zgK),H',⟨zkD⟩,⟨G.cb ab.out⟩,⟨G.cB HB.out⟩⟩
  ·rw[if_neg c8]at H;have bU:=decide_eq_false c8;have dM:decide (l3.length<2)=false:=decide_eq_false (by omega);clear c8;(first|rw[bU]|(simp only[zb4,zcu];rw[bU])|skip)
   rcases G.bc H with⟨h_,H_⟩|⟨h_,H_⟩<;> (subst h_;clear H;have H:=H_;clear H_)
   ·obtain⟨bd,cw,H⟩:=G.bi H;(try dsimp only at H)
    rcases G.bc H with⟨h_,H_⟩|⟨h_,H_⟩<;> (subst h_;clear H;have H:=H_;clear H_)
    ·have H':=G.m H;clear H
     go_wp2_with (first|(go_at_call 83;(with_reducible refine(zbD.calls _ _ l3 true _ ?side1 ?side2 cw.out).mono ?_);(case side1=>exact G.cC (zay ap.out HB.out));(case side2=>exact bN.out);rintro e w' ⟨rfl,⟨nd,rfl⟩⟩))
     go_meet
     case rel=>exact⟨_,(true),(zgK),H',⟨zkD⟩,⟨G.cb ab.out⟩,⟨G.cB HB.out⟩⟩
    ·skip
     by_cases bW:(l3.length:Int)<4
     ·rw[if_pos bW]at H;have dl:=decide_eq_true bW;have dn:decide (l3.length<4)=true:=decide_eq_true (by omega);clear bW;have H':=G.m H;clear H
      go_wp2_with (first|(go_at_call 83;(with_reducible refine(zbD.calls _ _ l3 false _ ?side1 ?side2 cw.out).mono ?_);(case side1=>exact G.cC (zay ap.out HB.out));(case side2=>exact bN.out);rintro e w' ⟨rfl,⟨nd,rfl⟩⟩))
      go_meet
      case rel=>exact⟨_,(true),(zgK),H',⟨zkD⟩,⟨G.cb ab.out⟩,⟨G.cB HB.out⟩⟩
     ·rw[if_neg bW]at H;have dl:=decide_eq_false bW;have dn:decide (l3.length<4)=false:=decide_eq_false (by omega);clear bW;obtain⟨aQ,dG,H⟩:=G.bi H;(try dsimp only at H)
      rcases G.bc H with⟨h_,H_⟩|⟨h_,H_⟩<;> (subst h_;clear H;have H:=H_;clear H_)
      ·have H':=G.m H;clear H
       go_wp2_with (first|(go_at_call 83;(with_reducible refine(zbD.calls _ _ l3 false _ ?side1 ?side2 cw.out).mono ?_);(case side1=>exact G.cC (zay ap.out HB.out));(case side2=>exact bN.out);rintro e w' ⟨rfl,⟨nd,rfl⟩⟩)|(go_at_call 83;(with_reducible refine(zbD.calls _ _ l3 true _ ?side1 ?side2 dG.out).mono ?_);(case side1=>repeat(first|exact(zay ap.out (G.cB HB.out))|(with_reducible refine zcG ?_ _)|(with_reducible refine zcF ?_ _)|(with_reducible refine zdr ?_)));(case side2=>exact bN.out);rintro e w' ⟨rfl,⟨nd,rfl⟩⟩))
       go_meet
       case rel=>exact⟨_,(false),(zgK),H',⟨zkD⟩,⟨G.cb ab.out⟩,⟨G.cB HB.out⟩⟩
      ·have H':=G.m H;clear H
       go_wp2_with (first|(go_at_call 83;(with_reducible refine(zbD.calls _ _ l3 false _ ?side1 ?side2 cw.out).mono ?_);(case side1=>exact G.cC (zay ap.out HB.out));(case side2=>exact bN.out);rintro e w' ⟨rfl,⟨nd,rfl⟩⟩)|(go_at_call 83;(with_reducible refine(zbD.calls _ _ l3 false _ ?side1 ?side2 dG.out).mono ?_);(case side1=>repeat(first|exact(zay ap.out (G.cB HB.out))|(with_reducible refine zcG ?_ _)|(with_reducible refine zcF ?_ _)|(with_reducible refine zdr ?_)));(case side2=>exact bN.out);rintro e w' ⟨rfl,⟨nd,rfl⟩⟩))
       go_meet
       case rel=>exact⟨_,(decide ((l3.length:Int)<4)),(zgK),H',⟨zkD⟩,⟨G.cb ab.out⟩,⟨G.cB HB.out⟩⟩
   ·skip
    obtain⟨cz,H⟩:=G.ip H;have d8:=decide_eq_true cz;have d9:decide (0<l3.length)=true:=decide_eq_true (by omega);clear cz;obtain⟨bf,ce,H⟩:=G.bi H;(try dsimp only at H)
    rcases G.bc H with⟨h_,H_⟩|⟨h_,H_⟩<;> (subst h_;clear H;have H:=H_;clear H_)
    ·obtain⟨ax,bT⟩:∃j_:Int,(wrap64 ((l3.length:Int) - 1))=j_:=⟨_,rfl⟩;replace H:(if 0<=(ax) then(if(ax)<(l3.length:Int) then((zaM.f k l2 (rd l3 (ax))).bind fun aP=>(if aP=true then((zbD.f l3).bind fun aC=>(if aC=true then(zae.j0 k l1 l2 l3 false ae ac) else(zae.j0 k l1 l2 l3 (decide ((l3.length:Int)<4)) ae ac))) else(zae.j0 k l1 l2 l3 true ae ac))) else(none)) else(none))=some r:=by first|(rw[bT]at H;exact H)|(simp only[bT]at H⊢;exact H)
     (try rw[bT]at ce);have dS:(IntKind.i64.wrap ((l3.length:Int) - 1))=ax:=(zb4 _).trans bT
     obtain⟨d_,H⟩:=G.dp H
     obtain⟨ea,H⟩:=G.dp H;obtain⟨aP,dg,H⟩:=G.bi H;(try dsimp only at H)
     rcases G.bc H with⟨h_,H_⟩|⟨h_,H_⟩<;> (subst h_;clear H;have H:=H_;clear H_)
     ·obtain⟨aC,dH,H⟩:=G.bi H;(try dsimp only at H)
      rcases G.bc H with⟨h_,H_⟩|⟨h_,H_⟩<;> (subst h_;clear H;have H:=H_;clear H_)
      ·have H':=G.m H;clear H;have aJ:0<=(0:Int):=(by omega);have aK:0<(l3.length:Int):=G.da;obtain⟨bp,bw,ag⟩:=zaZ ap.out 0 aJ aK;cases bw;have b2:(0<l3.length)=True:=eq_true (by omega);(try rw[show((0:Int)).toNat=0 from rfl]at ag);(try rw[Addr.add_zero']at ag);replace ag:=G.hx HB ag;replace aJ:=eq_true aJ;replace aK:=eq_true aK
       go_wp2_with (first|(go_at_call 47;(with_reducible refine(zaM.calls k _ _ l2 (rd l3 0) true _ ?side1 ?side2 ce.out).mono ?_);(case side1=>exact G.cC (zay bL.out HB.out));(case side2=>exact bM.out);rintro e w' ⟨rfl,⟨nd,rfl⟩⟩;have aS:0<=((ax):Int):=G.da;have aT:(ax)<(l3.length:Int):=G.da;obtain⟨bO,bV,aN⟩:=zaZ ap.out (ax) aS aT;obtain rfl:bp=bO:=(by injection bV);replace aN:=G.hx HB aN;replace aS:=eq_true aS;replace aT:=eq_true aT)|(go_at_call 47;(with_reducible refine(zaM.calls k _ _ l2 (rd l3 (ax)) true _ ?side1 ?side2 dg.out).mono ?_);(case side1=>repeat(first|exact(zay bL.out (G.cB HB.out))|(with_reducible refine zcG ?_ _)|(with_reducible refine zcF ?_ _)|(with_reducible refine zdr ?_)));(case side2=>exact bM.out);rintro e w' ⟨rfl,⟨nd,rfl⟩⟩)|(go_at_call 83;(with_reducible refine(zbD.calls _ _ l3 true _ ?side1 ?side2 dH.out).mono ?_);(case side1=>repeat(first|exact(zay ap.out (G.cB HB.out))|(with_reducible refine zcG ?_ _)|(with_reducible refine zcF ?_ _)|(with_reducible refine zdr ?_)));(case side2=>exact bN.out);rintro e w' ⟨rfl,⟨nd,rfl⟩⟩))
       go_meet
       case rel=>exact⟨_,(false),(zgK),H',⟨zkD⟩,⟨G.cb ab.out⟩,⟨G.cB HB.out⟩⟩
      ·have H':=G.m H;clear H;have aJ:0<=(0:Int):=(by omega);have aK:0<(l3.length:Int):=G.da;obtain⟨bp,bw,ag⟩:=zaZ ap.out 0 aJ aK;cases bw;have b2:(0<l3.length)=True:=eq_true (by omega);(try rw[show((0:Int)).toNat=0 from rfl]at ag);(try rw[Addr.add_zero']at ag);replace ag:=G.hx HB ag;replace aJ:=eq_true aJ;replace aK:=eq_true aK
       go_wp2_with (first|(go_at_call 47;(with_reducible refine(zaM.calls k _ _ l2 (rd l3 0) true _ ?side1 ?side2 ce.out).mono ?_);(case side1=>exact G.cC (zay bL.out HB.out));(case side2=>exact bM.out);rintro e w' ⟨rfl,⟨nd,rfl⟩⟩;have aS:0<=((ax):Int):=G.da;have aT:(ax)<(l3.length:Int):=G.da;obtain⟨bO,bV,aN⟩:=zaZ ap.out (ax) aS aT;obtain rfl:bp=bO:=(by injection bV);replace aN:=G.hx HB aN;replace aS:=eq_true aS;replace aT:=eq_true aT)|(go_at_call 47;(with_reducible refine(zaM.calls k _ _ l2 (rd l3 (ax)) true _ ?side1 ?side2 dg.out).mono ?_);(case side1=>repeat(first|exact(zay bL.out (G.cB HB.out))|(with_reducible refine zcG ?_ _)|(with_reducible refine zcF ?_ _)|(with_reducible refine zdr ?_)));(case side2=>exact bM.out);rintro e w' ⟨rfl,⟨nd,rfl⟩⟩)|(go_at_call 83;(with_reducible refine(zbD.calls _ _ l3 false _ ?side1 ?side2 dH.out).mono ?_);(case side1=>repeat(first|exact(zay ap.out (G.cB HB.out))|(with_reducible refine zcG ?_ _)|(with_reducible refine zcF ?_ _)|(with_reducible refine zdr ?_)));(case side2=>exact bN.out);rintro e w' ⟨rfl,⟨nd,rfl⟩⟩))
       go_meet
       case rel=>exact⟨_,(decide ((l3.length:Int)<4)),(zgK),H',⟨zkD⟩,⟨G.cb ab.out⟩,⟨G.cB HB.out⟩⟩
     ·have H':=G.m H;clear H;have aJ:0<=(0:Int):=(by omega);have aK:0<(l3.length:Int):=G.da;obtain⟨bp,bw,ag⟩:=zaZ ap.out 0 aJ aK;cases bw;have b2:(0<l3.length)=True:=eq_true (by omega);(try rw[show((0:Int)).toNat=0 from rfl]at ag);(try rw[Addr.add_zero']at ag);replace ag:=G.hx HB ag;replace aJ:=eq_true aJ;replace aK:=eq_true aK
      go_wp2_with (first|(go_at_call 47;(with_reducible refine(zaM.calls k _ _ l2 (rd l3 0) true _ ?side1 ?side2 ce.out).mono ?_);(case side1=>exact G.cC (zay bL.out HB.out));(case side2=>exact bM.out);rintro e w' ⟨rfl,⟨nd,rfl⟩⟩;have aS:0<=((ax):Int):=G.da;have aT:(ax)<(l3.length:Int):=G.da;obtain⟨bO,bV,aN⟩:=zaZ ap.out (ax) aS aT;obtain rfl:bp=bO:=(by injection bV);replace aN:=G.hx HB aN;replace aS:=eq_true aS;replace aT:=eq_true aT)|(go_at_call 47;(with_reducible refine(zaM.calls k _ _ l2 (rd l3 (ax)) false _ ?side1 ?side2 dg.out).mono ?_);(case side1=>repeat(first|exact(zay bL.out (G.cB HB.out))|(with_reducible refine zcG ?_ _)|(with_reducible refine zcF ?_ _)|(with_reducible refine zdr ?_)));(case side2=>exact bM.out);rintro e w' ⟨rfl,⟨nd,rfl⟩⟩))
      go_meet
      case rel=>exact⟨_,(true),(zgK),H',⟨zkD⟩,⟨G.cb ab.out⟩,⟨G.cB HB.out⟩⟩
    ·have H':=G.m H;clear H;have aJ:0<=(0:Int):=(by omega);have aK:0<(l3.length:Int):=G.da;obtain⟨bp,bw,ag⟩:=zaZ ap.out 0 aJ aK;cases bw;have b2:(0<l3.length)=True:=eq_true (by omega);(try rw[show((0:Int)).toNat=0 from rfl]at ag);(try rw[Addr.add_zero']at ag);replace ag:=G.hx HB ag;replace aJ:=eq_true aJ;replace aK:=eq_true aK
     go_wp2_with (first|(go_at_call 47;(with_reducible refine(zaM.calls k _ _ l2 (rd l3 0) false _ ?side1 ?side2 ce.out).mono ?_);(case side1=>exact G.cC (zay bL.out HB.out));(case side2=>exact bM.out);rintro e w' ⟨rfl,⟨nd,rfl⟩⟩))
     go_meet
     case rel=>exact⟨_,(true),(zgK),H',⟨zkD⟩,⟨G.cb ab.out⟩,⟨G.cB HB.out⟩⟩
 case rest=>
  clear df;obtain⟨kq,bS,rfl,HA,bI,ab,HB⟩:=hcut;cases kq with
  |zero=>exact absurd HA.out (by simp[zae.j0])
  |succ dh=>
   have H:=HA.out;clear HA;simp only[zae.j0]at H
   rcases G.bc H with⟨h_,H_⟩|⟨h_,H_⟩<;> (subst h_;clear H;have H:=H_;clear H_)
   ·obtain rfl:=Option.some.inj H
    go_wp2
    go_ret
    exact⟨zpW,G.cB HB.out⟩
   ·have H':=G.m H;clear H
    go_wp2
    go_loopg [11] dh (fun kq dT w'=>∃ (aa:Int),dT=.int .i64 aa/\zaa (zae.l0 kq l1 l2 l3 aa ae ac=some r)/\zaa (kq<=dh)/\zaa (w'.heap[ao]? =some (.cells #[.int .i64 ae,(.slice av ac.length aw)] 31 (0,0)))/\zaa (Below w.heap.size w w'))
    case atStart=>exact⟨(0),(zgK),H',⟨Nat.le_refl _⟩,⟨G.cb ab.out⟩,⟨G.cB HB.out⟩⟩
    case round=>
     clear H';(try clear cf);obtain⟨aa,rfl,HA,bJ,ab,HB⟩:=hrel;cases gk with
     |zero=>exact absurd HA.out (by simp[zae.l0])
     |succ k2=>
      have H:=HA.out;clear HA;simp only[zae.l0]at H
      by_cases bX:aa<(l3.length:Int)
      ·rw[if_pos bX]at H;have cH:=decide_eq_true bX;clear bX;have cj:=G.m H;clear H
       go_upto_region 6 with(fail)
       go_cut [12] (fun dU wc=>∃ (kq:Nat) (aX:Bool),dU=.bool aX/\zaa (zae.j2 kq l1 l2 l3 aa aX ae ac=some r)/\zaa (kq<=k2)/\zaa (wc.heap[ao]? =some (.cells #[.int .i64 ae,(.slice av ac.length aw)] 31 (0,0)))/\zaa (Below w.heap.size w wc))
       case first=>
        have H:=cj.out;clear cj
        by_cases bY:aa>0
        ·rw[if_pos bY]at H;have bP:=decide_eq_true bY;clear bY;(first|rw[bP]|(simp only[zb4,zcu];rw[bP])|skip);have H':=G.m H;clear H
         go_wp2
         go_meet
         case rel=>exact⟨_,(decide ((wrap64 (aa+1))<(l3.length:Int))),(zgK),H',⟨by have:=bI.out;have:=bJ.out;first|omega|exact Nat.le_refl _⟩,⟨G.cb ab.out⟩,⟨G.cB HB.out⟩⟩
        ·rw[if_neg bY]at H;have bP:=decide_eq_false bY;clear bY;(first|rw[bP]|(simp only[zb4,zcu];rw[bP])|skip);have H':=G.m H;clear H
         go_wp2
         go_meet
         case rel=>exact⟨_,(false),(zgK),H',⟨by have:=bI.out;have:=bJ.out;first|omega|exact Nat.le_refl _⟩,⟨G.cb ab.out⟩,⟨G.cB HB.out⟩⟩
       case rest=>
        clear cj;(try clear cH);obtain⟨kq,aX,rfl,HA,bv,ab,HB⟩:=hcut;cases kq with
        |zero=>exact absurd HA.out (by simp[zae.j2])
        |succ ai=>
         have H:=HA.out;clear HA;simp only[zae.j2]at H;have ck:=G.m H;clear H
         go_upto_region 7 with(fail)
         go_cut [104] (fun dN wc=>∃ (kq:Nat) (bq:Bool),dN=.bool bq/\zaa (zae.j3 kq l1 l2 l3 aa bq ae ac=some r)/\zaa (kq<=ai)/\zaa (wc.heap[ao]? =some (.cells #[.int .i64 ae,(.slice av ac.length aw)] 31 (0,0)))/\zaa (Below w.heap.size w wc))
         case first=>
          have H:=ck.out;clear ck
          obtain⟨cJ,H⟩:=G.dp H;(first|rw[cJ]|(simp only[zb4,zcu];rw[cJ])|skip)
          obtain⟨eb,H⟩:=G.dp H;obtain⟨b1,cM,H⟩:=G.bi H;(try dsimp only at H)
          rcases G.bc H with⟨h_,H_⟩|⟨h_,H_⟩<;> (subst h_;clear H;have H:=H_;clear H_)
          ·skip
           rcases G.bc H with⟨h_,H_⟩|⟨h_,H_⟩<;> (subst h_;clear H;have H:=H_;clear H_)
           ·obtain⟨aW,dI,H⟩:=G.bi H;(try dsimp only at H)
            rcases G.bc H with⟨h_,H_⟩|⟨h_,H_⟩<;> (subst h_;clear H;have H:=H_;clear H_)
            ·have H':=G.m H;clear H;try go_wp2
             replace ab:=G.m (zan ab.out);replace HB:=G.m (zas HB.out);have aL:0<=(aa:Int):=G.da;have aM:aa<(l3.length:Int):=G.da;obtain⟨ay,bx,ah⟩:=zaZ ap.out aa aL aM;have am:=ah;cases bx;replace ah:=G.hx HB ah;replace aL:=eq_true aL;replace aM:=eq_true aM;have bz:0<=(aa:Int):=G.da;have bA:aa<(l3.length:Int):=G.da;obtain⟨b3,cl,aD⟩:=zaZ ap.out aa bz bA;have aO:=aD;obtain rfl:ay=b3:=(by injection cl);replace aD:=G.hx HB aD;replace bz:=eq_true bz;replace bA:=eq_true bA;refine G.st 28 (S:=fun w'=>w'.cell? ⟨ao,0,none⟩=some (.int .i64 ae)/\w'.cell? ⟨ao,1,none⟩=some (.slice av ac.length aw)/\w'.cell? (ay.add (aa).toNat)=some (.int .i64 (rd l3 aa))/\w'.cell? (ay.add (aa).toNat)=some (.int .i64 (rd l3 aa))) [] ⟨G.z ab 0,G.z ab 1,(G.hx HB am),(G.hx HB aO)⟩ zae.zgL zae.zdU (fun hHeld HT_ HW_=>?_);generalize wc.drew=ep at ab HB ah aD hHeld⊢;refine G.pu 1 78 2 ?_;refine G.pu 2 79 6 ?_;refine G.pu 3 80 14 ?_;refine G.ta4 0 77 15 ?_;refine G.ta4 4 81 31 ?_;refine G.on 5 82 63 (fun K hK=>?_);refine G.gs Try.func85 #[.agg #[.int .i64 ae,.slice av ac.length aw],.int .i64 (rd l3 aa)] ?_;with_reducible refine(za5.calls ai ae _ _ ac (rd l3 aa) true _ ?side1 ?side2 cM.out).mono ?_
             (case side1=>exact G.cC (zay bn.out HB.out));(case side2=>exact bo.out);rintro e eq ⟨rfl,hb⟩;refine⟨_,rfl,?_⟩;replace ab:=G.bb ab hb;replace HB:=G.bs HB hb;(try clear hb);refine hK.out _ _ ⟨G.z ab 0,G.z ab 1,(G.hx HB am),(G.hx HB aO)⟩ (fun hHeld=>?_);clear hK K;refine G.no 82 ?_;refine G.pu 6 83 127 ?_;refine G.pu 7 84 255 ?_;refine G.pu 8 85 511 ?_;refine G.pu 9 86 1023 ?_;refine G.pu 10 87 2047 ?_;refine G.pu 11 88 4095 ?_;refine G.pu 12 89 8191 ?_;refine G.pu 13 90 16383 ?_;refine G.ta4 14 91 32767 ?_;refine G.on 15 92 65535 (fun K hK=>?_);refine G.gs Try.func47 #[.slice A2 l2.length c2,.int .i64 (rd l3 aa)] ?_;with_reducible refine(zaM.calls ai _ _ l2 (rd l3 aa) true _ ?side1 ?side2 dI.out).mono ?_
             (case side1=>exact G.cC (zay bL.out HB.out));(case side2=>exact bM.out);rintro e w' ⟨rfl,⟨nd,rfl⟩⟩;refine⟨_,rfl,?_⟩;refine hK.out _ _ ⟨G.z ab 0,G.z ab 1,(G.hx HB am),(G.hx HB aO)⟩ (fun hHeld=>?_);clear hK K;refine G.no 92 ?_;refine G.pu 16 93 131071 ?_;refine G.pf 17 94 262143 ?_;refine G.pf 18 95 524287 ?_;refine G.pf 19 96 1048575 ?_;refine G.pf 20 97 2097151 ?_;refine G.pf 21 98 4194303 ?_;refine G.pf 22 99 8388607 ?_;refine G.pf 23 100 16777215 ?_;refine G.pf 24 101 33554431 ?_;refine G.pu 25 102 67108863 ?_;refine G.pu 26 103 134217727 ?_;refine G.pu 27 104 268435455 ?_;refine zbO (zbb HT_.out (ziV)) ?_;try go_wp2
             go_meet
             case rel=>exact⟨_,(true),(zgK),H',⟨zoF⟩,⟨G.cb ab.out⟩,⟨G.cB HB.out⟩⟩
            ·have ec:=eq_true (of_decide_eq_true (G.asm):0<=aa)
             obtain⟨cg,H⟩:=G.ip H;have ed:=eq_true cg;have ee:=decide_eq_true cg;clear cg;obtain⟨aI,dV,H⟩:=G.bi H;(try dsimp only at H);have H':=G.m H;clear H;try go_wp2
             replace ab:=G.m (zan ab.out);replace HB:=G.m (zas HB.out);have aL:0<=(aa:Int):=G.da;have aM:aa<(l3.length:Int):=G.da;obtain⟨ay,bx,ah⟩:=zaZ ap.out aa aL aM;have am:=ah;cases bx;replace ah:=G.hx HB ah;replace aL:=eq_true aL;replace aM:=eq_true aM;have bz:0<=(aa:Int):=G.da;have bA:aa<(l3.length:Int):=G.da;obtain⟨b3,cl,aD⟩:=zaZ ap.out aa bz bA;have aO:=aD;obtain rfl:ay=b3:=(by injection cl);replace aD:=G.hx HB aD;replace bz:=eq_true bz;replace bA:=eq_true bA;have cm:0<=(aa:Int):=G.da;have cn:aa<(l3.length:Int):=G.da;obtain⟨dp,dO,br⟩:=zaZ ap.out aa cm cn;have bu:=br;obtain rfl:ay=dp:=(by injection dO);replace br:=G.hx HB br;replace cm:=eq_true cm;replace cn:=eq_true cn;refine G.st 28 (S:=fun w'=>w'.cell? ⟨ao,0,none⟩=some (.int .i64 ae)/\w'.cell? ⟨ao,1,none⟩=some (.slice av ac.length aw)/\w'.cell? (ay.add (aa).toNat)=some (.int .i64 (rd l3 aa))/\w'.cell? (ay.add (aa).toNat)=some (.int .i64 (rd l3 aa))/\w'.cell? (ay.add (aa).toNat)=some (.int .i64 (rd l3 aa))) [] ⟨G.z ab 0,G.z ab 1,(G.hx HB am),(G.hx HB aO),(G.hx HB bu)⟩ zae.zgL zae.zdU (fun hHeld HT_ HW_=>?_);generalize wc.drew=er at ab HB ah aD br hHeld⊢;refine G.pu 1 78 2 ?_;refine G.pu 2 79 6 ?_;refine G.pu 3 80 14 ?_;refine G.ta5 0 77 15 ?_;refine G.ta5 4 81 31 ?_;refine G.on 5 82 63 (fun K hK=>?_);refine G.gs Try.func85 #[.agg #[.int .i64 ae,.slice av ac.length aw],.int .i64 (rd l3 aa)] ?_;with_reducible refine(za5.calls ai ae _ _ ac (rd l3 aa) true _ ?side1 ?side2 cM.out).mono ?_
             (case side1=>exact G.cC (zay bn.out HB.out));(case side2=>exact bo.out);rintro e es ⟨rfl,hb⟩;refine⟨_,rfl,?_⟩;replace ab:=G.bb ab hb;replace HB:=G.bs HB hb;(try clear hb);refine hK.out _ _ ⟨G.z ab 0,G.z ab 1,(G.hx HB am),(G.hx HB aO),(G.hx HB bu)⟩ (fun hHeld=>?_);clear hK K;refine G.no 82 ?_;refine G.pu 6 83 127 ?_;refine G.pu 7 84 255 ?_;refine G.pu 8 85 511 ?_;refine G.pu 9 86 1023 ?_;refine G.pu 10 87 2047 ?_;refine G.pu 11 88 4095 ?_;refine G.pu 12 89 8191 ?_;refine G.pu 13 90 16383 ?_;refine G.ta5 14 91 32767 ?_;refine G.on 15 92 65535 (fun K hK=>?_);refine G.gs Try.func47 #[.slice A2 l2.length c2,.int .i64 (rd l3 aa)] ?_;with_reducible refine(zaM.calls ai _ _ l2 (rd l3 aa) false _ ?side1 ?side2 dI.out).mono ?_
             (case side1=>exact G.cC (zay bL.out HB.out));(case side2=>exact bM.out);rintro e w' ⟨rfl,⟨nd,rfl⟩⟩;refine⟨_,rfl,?_⟩;obtain⟨en,cQ,_,cS,_⟩:=info_parts info3;obtain⟨dW,di,dj⟩:=zdt (P:=Try.prog) (Value.int .i64) 0 45 3 .i64 Try.underlying45 cQ cS (some ay) c3 l3 aa G.da G.da bN.out;have dq:=G.m (zc7 (h1:=fun _=>rfl) (di _ (zcT ap.out)));have dr:=G.m dj;clear di dj cQ cS;refine hK.out _ _ ⟨G.z ab 0,G.z ab 1,(G.hx HB am),(G.hx HB aO),(G.hx HB bu)⟩ (fun hHeld=>?_);clear hK K;refine G.no 92 ?_;refine G.pu 16 93 131071 ?_;refine G.pu 17 94 262143 ?_;refine G.pu 18 95 524287 ?_;refine G.pu 19 96 1048575 ?_;refine G.pu 20 97 2097151 ?_;refine G.pu 21 98 4194303 ?_;refine G.pu 22 99 8388607 ?_;refine G.ta5 23 100 16777215 ?_;refine G.on 24 101 33554431 (fun K hK=>?_);refine zdd Try.func47 (ziV) rfl #[.slice (some ay) (l3.take (aa:Int).toNat).length c3,.int .i64 (rd l3 aa)] (by rfl) rfl rfl (by(try simp only[List.map_toArray,List.map_cons,List.map_nil]);first|done|(rw[show(l3.take (aa:Int).toNat).length=aa.toNat from(by rw[List.length_take];have h_:(aa:Int)<=(l3.length:Int):=G.da;omega)]<;>rfl)|rfl|(simp only[List.length_drop,List.length_take];rfl)) ?_;with_reducible refine(zaM.calls ai _ _ (l3.take (aa:Int).toNat) (rd l3 aa) aI _ ?side1 ?side2 dV.out).mono ?_
             (case side1=>repeat(first|exact(zay dq.out (G.cB HB.out))|(with_reducible refine zcG ?_ _)|(with_reducible refine zcF ?_ _)|(with_reducible refine zdr ?_)));(case side2=>exact dr.out);rintro e w' ⟨rfl,⟨nd,rfl⟩⟩;refine⟨_,rfl,?_⟩;refine hK.out _ _ ⟨G.z ab 0,G.z ab 1,(G.hx HB am),(G.hx HB aO),(G.hx HB bu)⟩ (fun hHeld=>?_);clear hK K;refine G.no 101 ?_;refine G.pu 25 102 67108863 ?_;refine G.pu 26 103 134217727 ?_;refine G.pu 27 104 268435455 ?_;refine zbO (zbb HT_.out (ziV)) ?_;try go_wp2
             go_meet
             case rel=>exact⟨_,(aI),(zgK),H',⟨zoF⟩,⟨G.cb ab.out⟩,⟨G.cB HB.out⟩⟩
           ·have H':=G.m H;clear H;try go_wp2
            replace ab:=G.m (zan ab.out);replace HB:=G.m (zas HB.out);have aL:0<=(aa:Int):=G.da;have aM:aa<(l3.length:Int):=G.da;obtain⟨ay,bx,ah⟩:=zaZ ap.out aa aL aM;have am:=ah;cases bx;replace ah:=G.hx HB ah;replace aL:=eq_true aL;replace aM:=eq_true aM;refine G.st 28 (S:=fun w'=>w'.cell? ⟨ao,0,none⟩=some (.int .i64 ae)/\w'.cell? ⟨ao,1,none⟩=some (.slice av ac.length aw)/\w'.cell? (ay.add (aa).toNat)=some (.int .i64 (rd l3 aa))) [] ⟨G.z ab 0,G.z ab 1,(G.hx HB am)⟩ zae.zgL zae.zdU (fun hHeld HT_ HW_=>?_);generalize wc.drew=et at ab HB ah hHeld⊢;refine G.pu 1 78 2 ?_;refine G.pu 2 79 6 ?_;refine G.pu 3 80 14 ?_;refine G.ta3 0 77 15 ?_;refine G.ta3 4 81 31 ?_;refine G.on 5 82 63 (fun K hK=>?_);refine G.gs Try.func85 #[.agg #[.int .i64 ae,.slice av ac.length aw],.int .i64 (rd l3 aa)] ?_;with_reducible refine(za5.calls ai ae _ _ ac (rd l3 aa) true _ ?side1 ?side2 cM.out).mono ?_
            (case side1=>exact G.cC (zay bn.out HB.out));(case side2=>exact bo.out);rintro e eu ⟨rfl,hb⟩;refine⟨_,rfl,?_⟩;replace ab:=G.bb ab hb;replace HB:=G.bs HB hb;(try clear hb);refine hK.out _ _ ⟨G.z ab 0,G.z ab 1,(G.hx HB am)⟩ (fun hHeld=>?_);clear hK K;refine G.no 82 ?_;refine G.pu 6 83 127 ?_;refine G.pu 7 84 255 ?_;refine G.pu 8 85 511 ?_;refine G.pu 9 86 1023 ?_;refine G.pf 10 87 2047 ?_;refine G.pf 11 88 4095 ?_;refine G.pf 12 89 8191 ?_;refine G.pf 13 90 16383 ?_;refine G.pf 14 91 32767 ?_;refine G.pf 15 92 65535 ?_;refine G.pf 16 93 131071 ?_;refine G.pf 17 94 262143 ?_;refine G.pf 18 95 524287 ?_;refine G.pf 19 96 1048575 ?_;refine G.pf 20 97 2097151 ?_;refine G.pf 21 98 4194303 ?_;refine G.pf 22 99 8388607 ?_;refine G.pf 23 100 16777215 ?_;refine G.pf 24 101 33554431 ?_;refine G.pf 25 102 67108863 ?_;refine G.pu 26 103 134217727 ?_;refine G.pu 27 104 268435455 ?_;refine zbO (zbb HT_.out (ziV)) ?_;try go_wp2
            go_meet
            case rel=>exact⟨_,(false),(zgK),H',⟨zoF⟩,⟨G.cb ab.out⟩,⟨G.cB HB.out⟩⟩
          ·have H':=G.m H;clear H;try go_wp2
           replace ab:=G.m (zan ab.out);replace HB:=G.m (zas HB.out);have aL:0<=(aa:Int):=G.da;have aM:aa<(l3.length:Int):=G.da;obtain⟨ay,bx,ah⟩:=zaZ ap.out aa aL aM;have am:=ah;cases bx;replace ah:=G.hx HB ah;replace aL:=eq_true aL;replace aM:=eq_true aM;refine G.st 28 (S:=fun w'=>w'.cell? ⟨ao,0,none⟩=some (.int .i64 ae)/\w'.cell? ⟨ao,1,none⟩=some (.slice av ac.length aw)/\w'.cell? (ay.add (aa).toNat)=some (.int .i64 (rd l3 aa))) [] ⟨G.z ab 0,G.z ab 1,(G.hx HB am)⟩ zae.zgL zae.zdU (fun hHeld HT_ HW_=>?_);generalize wc.drew=ev at ab HB ah hHeld⊢;refine G.pu 1 78 2 ?_;refine G.pu 2 79 6 ?_;refine G.pu 3 80 14 ?_;refine G.ta3 0 77 15 ?_;refine G.ta3 4 81 31 ?_;refine G.on 5 82 63 (fun K hK=>?_);refine G.gs Try.func85 #[.agg #[.int .i64 ae,.slice av ac.length aw],.int .i64 (rd l3 aa)] ?_;with_reducible refine(za5.calls ai ae _ _ ac (rd l3 aa) false _ ?side1 ?side2 cM.out).mono ?_
           (case side1=>exact G.cC (zay bn.out HB.out));(case side2=>exact bo.out);rintro e ew ⟨rfl,hb⟩;refine⟨_,rfl,?_⟩;replace ab:=G.bb ab hb;replace HB:=G.bs HB hb;(try clear hb);refine hK.out _ _ ⟨G.z ab 0,G.z ab 1,(G.hx HB am)⟩ (fun hHeld=>?_);clear hK K;refine G.no 82 ?_;refine G.pu 6 83 127 ?_;refine G.pu 7 84 255 ?_;refine G.pf 8 85 511 ?_;refine G.pf 9 86 1023 ?_;refine G.pf 10 87 2047 ?_;refine G.pf 11 88 4095 ?_;refine G.pf 12 89 8191 ?_;refine G.pf 13 90 16383 ?_;refine G.pf 14 91 32767 ?_;refine G.pf 15 92 65535 ?_;refine G.pf 16 93 131071 ?_;refine G.pf 17 94 262143 ?_;refine G.pf 18 95 524287 ?_;refine G.pf 19 96 1048575 ?_;refine G.pf 20 97 2097151 ?_;refine G.pf 21 98 4194303 ?_;refine G.pf 22 99 8388607 ?_;refine G.pf 23 100 16777215 ?_;refine G.pf 24 101 33554431 ?_;refine G.pf 25 102 67108863 ?_;refine G.pf 26 103 134217727 ?_;refine G.pu 27 104 268435455 ?_;refine zbO (zbb HT_.out (ziV)) ?_;try go_wp2
           go_meet
           case rel=>exact⟨_,(true),(zgK),H',⟨zoF⟩,⟨G.cb ab.out⟩,⟨G.cB HB.out⟩⟩
         case rest=>
          clear ck;obtain⟨kq,bq,rfl,HA,bQ,ab,HB⟩:=hcut;cases kq with
          |zero=>exact absurd HA.out (by simp[zae.j3])
          |succ aR=>
           have H:=HA.out;clear HA;simp only[zae.j3]at H
           rcases G.bc H with⟨h_,H_⟩|⟨h_,H_⟩<;> (subst h_;clear H;have H:=H_;clear H_)
           ·obtain rfl:=Option.some.inj H
            go_wp2
            go_ret
            exact⟨zpW,G.cB HB.out⟩
           ·skip
            by_cases bR:aa=0
            ·rw[if_pos bR]at H;have cT:=beq_iff_eq.mpr bR;have cU:=bne_eq_false_iff_eq.mpr bR;clear bR;have H':=G.m H;clear H
             go_wp2
             go_roundg aR
             case measure=>have:=bI.out;have:=bJ.out;have:=bv.out;have:=bQ.out;omega
             case rel=>exact⟨(wrap64 (aa+1)),(zgK),H',⟨by have:=bI.out;have:=bJ.out;have:=bv.out;have:=bQ.out;omega⟩,⟨G.cb ab.out⟩,⟨G.cB HB.out⟩⟩
            ·rw[if_neg bR]at H;have cT:=beq_eq_false_iff_ne.mpr bR;have cU:=bne_iff_ne.mpr bR;obtain⟨aq,a_⟩:∃j_:Int,(wrap64 (aa - 1))=j_:=⟨_,rfl⟩;replace H:(if 0<=(aq) then(if(aq)<(l3.length:Int) then(if 0<=aa then(if aa<(l3.length:Int) then((zbU.f aR ae ac (rd l3 (aq)) (rd l3 aa)).bind fun bc=>(if bc=true then(zae.l1 aR l1 l2 l3 aa 0 ae ac) else(some false))) else(none)) else(none)) else(none)) else(none))=some r:=by first|(rw[a_]at H;exact H)|(simp only[a_]at H⊢;exact H)
             have dk:(IntKind.i64.wrap (aa - 1))=aq:=(zb4 _).trans a_
             obtain⟨dt,H⟩:=G.dp H
             obtain⟨du,H⟩:=G.dp H
             obtain⟨dv,H⟩:=G.dp H
             obtain⟨dw,H⟩:=G.dp H;obtain⟨bc,dJ,H⟩:=G.bi H;(try dsimp only at H)
             rcases G.bc H with⟨h_,H_⟩|⟨h_,H_⟩<;> (subst h_;clear H;have H:=H_;clear H_)
             ·have H':=G.m H;clear H;try go_wp2
              replace ab:=G.m (zan ab.out);replace HB:=G.m (zas HB.out);have bh:0<=((aq):Int):=G.da;have bj:(aq)<(l3.length:Int):=G.da;obtain⟨az,co,aA⟩:=zaZ ap.out (aq) bh bj;have aY:=aA;cases co;replace aA:=G.hx HB aA;replace bh:=eq_true bh;replace bj:=eq_true bj;have bk:0<=(aa:Int):=G.da;have bl:aa<(l3.length:Int):=G.da;obtain⟨b4,cp,aB⟩:=zaZ ap.out aa bk bl;have aZ:=aB;obtain rfl:az=b4:=(by injection cp);replace aB:=G.hx HB aB;replace bk:=eq_true bk;replace bl:=eq_true bl;refine G.st 12 (S:=fun w'=>w'.cell? ⟨ao,0,none⟩=some (.int .i64 ae)/\w'.cell? ⟨ao,1,none⟩=some (.slice av ac.length aw)/\w'.cell? (az.add ((aq)).toNat)=some (.int .i64 (rd l3 (aq)))/\w'.cell? (az.add (aa).toNat)=some (.int .i64 (rd l3 aa))) [] ⟨G.z ab 0,G.z ab 1,(G.hx HB aY),(G.hx HB aZ)⟩ zae.zkA zae.ziE (fun hHeld HT_ HW_=>?_);generalize wc.drew=ex at ab HB aA aB hHeld⊢;refine G.pu 1 108 2 ?_;refine G.pu 2 109 6 ?_;refine G.pu 3 110 14 ?_;refine G.pu 4 111 30 ?_;refine G.pu 6 113 94 ?_;refine G.pu 7 114 222 ?_;refine G.pu 8 115 478 ?_;refine G.ta4 0 107 479 ?_;refine G.ta4 5 112 511 ?_;refine G.ta4 9 116 1023 ?_;refine G.on 10 117 2047 (fun K hK=>?_);refine zdd Try.func86 (ziV) rfl #[.agg #[.int .i64 ae,.slice av ac.length aw],.int .i64 (rd l3 (aq)),.int .i64 (rd l3 aa)] (by rfl) rfl rfl (zqA) ?_;with_reducible refine(zbU.calls aR ae _ _ ac (rd l3 (aq)) (rd l3 aa) true _ ?side1 ?side2 dJ.out).mono ?_
              (case side1=>exact G.cC (zay bn.out HB.out));(case side2=>exact bo.out);rintro e ey ⟨rfl,hb⟩;refine⟨_,rfl,?_⟩;replace ab:=G.bb ab hb;replace HB:=G.bs HB hb;(try clear hb);refine hK.out _ _ ⟨G.z ab 0,G.z ab 1,(G.hx HB aY),(G.hx HB aZ)⟩ (fun hHeld=>?_);clear hK K;refine G.no 117 ?_;refine G.pu 11 118 4095 ?_;refine zbO (zbb HT_.out (ziV)) ?_;try go_wp2
              go_loopg [13] aR (fun kq dX w'=>∃ (af:Int),dX=.int .i64 af/\zaa (zae.l1 kq l1 l2 l3 aa af ae ac=some r)/\zaa (kq<=aR)/\zaa (w'.heap[ao]? =some (.cells #[.int .i64 ae,(.slice av ac.length aw)] 31 (0,0)))/\zaa (Below w.heap.size w w'))
              case atStart=>exact⟨(0),(zgK),H',⟨Nat.le_refl _⟩,⟨G.cb ab.out⟩,⟨G.cB HB.out⟩⟩
              case round=>
               clear H';(try clear ch bR cT cU dt du dv dw ci aA aB bh bk bj bl);obtain⟨af,rfl,HA,c_,ab,HB⟩:=hrel;cases gk with
               |zero=>exact absurd HA.out (by simp[zae.l1])
               |succ k5=>
                have H:=HA.out;clear HA;simp only[zae.l1]at H
                by_cases bZ:af<(l1.length:Int)
                ·rw[if_pos bZ]at H;have dx:=decide_eq_true bZ;clear bZ
                 obtain⟨ef,H⟩:=G.dp H;obtain⟨au,bH⟩:∃j_:Int,(wrap64 (aa - 1))=j_:=⟨_,rfl⟩;replace H:(if 0<=(au) then(if(au)<(l3.length:Int) then(if 0<=aa then(if aa<(l3.length:Int) then((zbt.f (rd l3 (au)) (rd l3 aa)).bind fun bK=>(if(((zac l1 af).f0)==bK.1&&(((zac l1 af).f1)==bK.2))=true then(some false) else(zae.l1 k5 l1 l2 l3 aa (wrap64 (af+1)) ae ac))) else(none)) else(none)) else(none)) else(none))=some r:=by first|(rw[bH]at H;exact H)|(simp only[bH]at H⊢;exact H)
                 have dY:(IntKind.i64.wrap (aa - 1))=au:=(zb4 _).trans bH;clear a_ dk
                 obtain⟨eg,H⟩:=G.dp H
                 obtain⟨eh,H⟩:=G.dp H
                 obtain⟨ei,H⟩:=G.dp H
                 obtain⟨ej,H⟩:=G.dp H;obtain⟨⟨aU,aV⟩,dK,H⟩:=G.bi H;(try dsimp only at H)
                 by_cases bm:(((zac l1 af).f0)==aU&&(((zac l1 af).f1)==aV))=true
                 ·rw[if_pos bm]at H;have dy:(((zac l1 af).f0)==aU&&(((zac l1 af).f1)==aV))=true:=bm;(try(have dz:decide (((zac l1 af).f0)=aU&&(((zac l1 af).f1)==aV))=true:=by simpa using bm));(try(have dA:(((zac l1 af).f0)==aU&&(((zac l1 af).f1)==aV))=true:=by simpa using bm));clear bm;obtain rfl:=Option.some.inj H;try go_wp2
                  replace ab:=G.m (zan ab.out);replace HB:=G.m (zas HB.out);have bB:0<=(af:Int):=G.da;have bC:af<(l1.length:Int):=G.da;obtain⟨ba,cq,aE,aF⟩:=zbJ dF.out af bB bC;have a6:=aF;have a7:=aE;cases cq;replace aE:=G.hx HB aE;replace aF:=G.hx HB aF;replace bB:=eq_true bB;replace bC:=eq_true bC;have bD:0<=((au):Int):=G.da;have bE:(au)<(l3.length:Int):=G.da;obtain⟨b5,cr,aG⟩:=zaZ ap.out (au) bD bE;have a8:=aG;obtain rfl:az=b5:=(by injection cr);replace aG:=G.hx HB aG;replace bD:=eq_true bD;replace bE:=eq_true bE;have bF:0<=(aa:Int):=G.da;have bG:aa<(l3.length:Int):=G.da;obtain⟨b6,ct,aH⟩:=zaZ ap.out aa bF bG;have a9:=aH;obtain rfl:az=b6:=(by injection ct);replace aH:=G.hx HB aH;replace bF:=eq_true bF;replace bG:=eq_true bG;refine G.st 15 (S:=fun w'=>w'.cell? (ba.add ((af).toNat*2))=some (.int .i64 ((zac l1 af).f0))/\w'.cell? ⟨(ba.add ((af).toNat*2)).block,(ba.add ((af).toNat*2)).off+1,none⟩=some (.int .i64 ((zac l1 af).f1))/\w'.cell? (az.add ((au)).toNat)=some (.int .i64 (rd l3 (au)))/\w'.cell? (az.add (aa).toNat)=some (.int .i64 (rd l3 aa))) [] ⟨(G.hx HB a7),(G.hx HB a6),(G.hx HB a8),(G.hx HB a9)⟩ zae.zns zae.zlS (fun hHeld HT_ HW_=>?_);generalize wr.drew=ez at ab HB aE aF aG aH hHeld⊢;refine G.pu 0 125 1 ?_;refine G.pu 1 126 3 ?_;refine G.pu 2 127 7 ?_;refine G.pu 4 129 23 ?_;refine G.pu 5 130 55 ?_;refine G.pu 6 131 119 ?_;refine G.pu 7 132 247 ?_;refine G.pu 9 134 759 ?_;refine G.pu 10 135 1783 ?_;refine G.pu 11 136 3831 ?_;refine G.ta4 3 128 3839 ?_;refine G.ta4 8 133 4095 ?_;refine G.ta4 12 137 8191 ?_;refine G.on 13 138 16383 (fun K hK=>?_);refine zdd Try.func46 (ziV) rfl #[.int .i64 (rd l3 (au)),.int .i64 (rd l3 aa)] (by rfl) rfl rfl (zqB) ?_;with_reducible refine(zbt.calls (rd l3 (au)) (rd l3 aa) aU aV _ dK.out).mono ?_
                  rintro e eA ⟨rfl,hb⟩;refine⟨_,rfl,?_⟩;replace ab:=G.bb ab hb;replace HB:=G.bs HB hb;(try clear hb);refine hK.out _ _ ⟨(G.hx HB a7),(G.hx HB a6),(G.hx HB a8),(G.hx HB a9)⟩ (fun hHeld=>?_);clear hK K;refine G.no 138 ?_;refine G.pu 14 139 32767 ?_;refine zbO (zbb HT_.out (ziV)) ?_;try go_wp2
                  go_ret
                  exact⟨by first|rfl|(simp[za1,za2]<;>rfl)|(simp only[←a_,←bH];first|rfl|(simp[za1,za2]<;>rfl))|(simp[*,za1,za2]<;>rfl),G.cB HB.out⟩
                 ·rw[if_neg bm]at H;have dy:(((zac l1 af).f0)==aU&&(((zac l1 af).f1)==aV))=false:=by simpa using bm
                  (try(have dz:decide (((zac l1 af).f0)=aU&&(((zac l1 af).f1)==aV))=false:=by simpa using bm));(try(have dA:(((zac l1 af).f0)==aU&&(((zac l1 af).f1)==aV))=false:=by simpa using bm));(try(have ek:¬ (((zac l1 af).f0)=aU&&(((zac l1 af).f1)==aV)):=by simpa using bm));clear bm;have H':=G.m H;clear H;try go_wp2
                  replace ab:=G.m (zan ab.out);replace HB:=G.m (zas HB.out);have bB:0<=(af:Int):=G.da;have bC:af<(l1.length:Int):=G.da;obtain⟨ba,cq,aE,aF⟩:=zbJ dF.out af bB bC;have a6:=aF;have a7:=aE;cases cq;replace aE:=G.hx HB aE;replace aF:=G.hx HB aF;replace bB:=eq_true bB;replace bC:=eq_true bC;have bD:0<=((au):Int):=G.da;have bE:(au)<(l3.length:Int):=G.da;obtain⟨b5,cr,aG⟩:=zaZ ap.out (au) bD bE;have a8:=aG;obtain rfl:az=b5:=(by injection cr);replace aG:=G.hx HB aG;replace bD:=eq_true bD;replace bE:=eq_true bE;have bF:0<=(aa:Int):=G.da;have bG:aa<(l3.length:Int):=G.da;obtain⟨b6,ct,aH⟩:=zaZ ap.out aa bF bG;have a9:=aH;obtain rfl:az=b6:=(by injection ct);replace aH:=G.hx HB aH;replace bF:=eq_true bF;replace bG:=eq_true bG;refine G.st 15 (S:=fun w'=>w'.cell? (ba.add ((af).toNat*2))=some (.int .i64 ((zac l1 af).f0))/\w'.cell? ⟨(ba.add ((af).toNat*2)).block,(ba.add ((af).toNat*2)).off+1,none⟩=some (.int .i64 ((zac l1 af).f1))/\w'.cell? (az.add ((au)).toNat)=some (.int .i64 (rd l3 (au)))/\w'.cell? (az.add (aa).toNat)=some (.int .i64 (rd l3 aa))) [] ⟨(G.hx HB a7),(G.hx HB a6),(G.hx HB a8),(G.hx HB a9)⟩ zae.zns zae.zlS (fun hHeld HT_ HW_=>?_);generalize wr.drew=eB at ab HB aE aF aG aH hHeld⊢;refine G.pu 0 125 1 ?_;refine G.pu 1 126 3 ?_;refine G.pu 2 127 7 ?_;refine G.pu 4 129 23 ?_;refine G.pu 5 130 55 ?_;refine G.pu 6 131 119 ?_;refine G.pu 7 132 247 ?_;refine G.pu 9 134 759 ?_;refine G.pu 10 135 1783 ?_;refine G.pu 11 136 3831 ?_;refine G.ta4 3 128 3839 ?_;refine G.ta4 8 133 4095 ?_;refine G.ta4 12 137 8191 ?_;refine G.on 13 138 16383 (fun K hK=>?_);refine zdd Try.func46 (ziV) rfl #[.int .i64 (rd l3 (au)),.int .i64 (rd l3 aa)] (by rfl) rfl rfl (zqB) ?_;with_reducible refine(zbt.calls (rd l3 (au)) (rd l3 aa) aU aV _ dK.out).mono ?_
                  rintro e eC ⟨rfl,hb⟩;refine⟨_,rfl,?_⟩;replace ab:=G.bb ab hb;replace HB:=G.bs HB hb;(try clear hb);refine hK.out _ _ ⟨(G.hx HB a7),(G.hx HB a6),(G.hx HB a8),(G.hx HB a9)⟩ (fun hHeld=>?_);clear hK K;refine G.no 138 ?_;refine G.pu 14 139 32767 ?_;refine zbO (zbb HT_.out (ziV)) ?_;try go_wp2
                  go_roundg k5
                  case measure=>have:=bI.out;have:=bJ.out;have:=bv.out;have:=bQ.out;have:=c_.out;omega
                  case rel=>exact⟨(wrap64 (af+1)),(zgK),H',⟨by have:=bI.out;have:=bJ.out;have:=bv.out;have:=bQ.out;have:=c_.out;omega⟩,⟨G.cb ab.out⟩,⟨G.cB HB.out⟩⟩
                ·rw[if_neg bZ]at H;have dx:=decide_eq_false bZ;clear bZ;have H':=G.m H;clear H
                 go_wp2
                 go_roundg k5
                 case measure=>have:=bI.out;have:=bJ.out;have:=bv.out;have:=bQ.out;have:=c_.out;omega
                 case rel=>exact⟨(wrap64 (aa+1)),(zgK),H',⟨by have:=bI.out;have:=bJ.out;have:=bv.out;have:=bQ.out;have:=c_.out;omega⟩,⟨G.cb ab.out⟩,⟨G.cB HB.out⟩⟩
             ·obtain rfl:=Option.some.inj H;try go_wp2
              replace ab:=G.m (zan ab.out);replace HB:=G.m (zas HB.out);have bh:0<=((aq):Int):=G.da;have bj:(aq)<(l3.length:Int):=G.da;obtain⟨az,co,aA⟩:=zaZ ap.out (aq) bh bj;have aY:=aA;cases co;replace aA:=G.hx HB aA;replace bh:=eq_true bh;replace bj:=eq_true bj;have bk:0<=(aa:Int):=G.da;have bl:aa<(l3.length:Int):=G.da;obtain⟨b4,cp,aB⟩:=zaZ ap.out aa bk bl;have aZ:=aB;obtain rfl:az=b4:=(by injection cp);replace aB:=G.hx HB aB;replace bk:=eq_true bk;replace bl:=eq_true bl;refine G.st 12 (S:=fun w'=>w'.cell? ⟨ao,0,none⟩=some (.int .i64 ae)/\w'.cell? ⟨ao,1,none⟩=some (.slice av ac.length aw)/\w'.cell? (az.add ((aq)).toNat)=some (.int .i64 (rd l3 (aq)))/\w'.cell? (az.add (aa).toNat)=some (.int .i64 (rd l3 aa))) [] ⟨G.z ab 0,G.z ab 1,(G.hx HB aY),(G.hx HB aZ)⟩ zae.zkA zae.ziE (fun hHeld HT_ HW_=>?_);generalize wc.drew=eD at ab HB aA aB hHeld⊢;refine G.pu 1 108 2 ?_;refine G.pu 2 109 6 ?_;refine G.pu 3 110 14 ?_;refine G.pu 4 111 30 ?_;refine G.pu 6 113 94 ?_;refine G.pu 7 114 222 ?_;refine G.pu 8 115 478 ?_;refine G.ta4 0 107 479 ?_;refine G.ta4 5 112 511 ?_;refine G.ta4 9 116 1023 ?_;refine G.on 10 117 2047 (fun K hK=>?_);refine zdd Try.func86 (ziV) rfl #[.agg #[.int .i64 ae,.slice av ac.length aw],.int .i64 (rd l3 (aq)),.int .i64 (rd l3 aa)] (by rfl) rfl rfl (zqA) ?_;with_reducible refine(zbU.calls aR ae _ _ ac (rd l3 (aq)) (rd l3 aa) false _ ?side1 ?side2 dJ.out).mono ?_
              (case side1=>exact G.cC (zay bn.out HB.out));(case side2=>exact bo.out);rintro e eE ⟨rfl,hb⟩;refine⟨_,rfl,?_⟩;replace ab:=G.bb ab hb;replace HB:=G.bs HB hb;(try clear hb);refine hK.out _ _ ⟨G.z ab 0,G.z ab 1,(G.hx HB aY),(G.hx HB aZ)⟩ (fun hHeld=>?_);clear hK K;refine G.no 117 ?_;refine G.pu 11 118 4095 ?_;refine zbO (zbb HT_.out (ziV)) ?_;try go_wp2
              go_ret
              exact⟨by first|rfl|(simp[za1,za2]<;>rfl)|(simp only[←a_];first|rfl|(simp[za1,za2]<;>rfl))|(simp[*,za1,za2]<;>rfl),G.cB HB.out⟩
      ·rw[if_neg bX]at H;have cH:=decide_eq_false bX;clear bX;obtain rfl:=Option.some.inj H
       go_wp2
       go_ret
       exact⟨zpW,G.cB HB.out⟩
end Go.Proofs.Ytgeonpciodepgaa.P
