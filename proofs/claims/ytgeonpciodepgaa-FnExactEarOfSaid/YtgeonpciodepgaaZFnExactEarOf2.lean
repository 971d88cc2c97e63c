/- The proof's parts ahead of the row: of no condition of their own. -/
import Derived.Test.YtgeonpciodepgaaZFnExactEarOf1
import Derived.Lib.SliceRun
import Derived.Laws.EntriesVeiled
set_option linter.unusedVariables false
set_option linter.unusedSimpArgs false
namespace Go.Proofs.Ytgeonpciodepgaa.P
set_option maxHeartbeats 8000000
set_option maxRecDepth 100000
open Go.RowKit Go.Proofs.YtgeonpciodepgaaW.PrintWords Go.Proofs.YtgeonpciodepgaaW.PrintLast Go.Proofs.YtgeonpciodepgaaW.PrintMore Go.Proofs.YtgeonpciodepgaaW.PrintWords.Kd Go.Proofs.YtgeonpciodepgaaW.PrintMore.Kd
attribute [local go_sem] vQ vU vT vX vS vW vR vV
variable {p:Prop}
theorem BU(h:p:=by rw[hg];exact Nat.ne_of_lt (lq (g:=al) (o:=.cells #[.int .i64 ah,.slice aN ac.length aO] 31 (0,0)) (jZ af.out))):p:=h
theorem BV(h:p:=by rw[hg];exact Nat.ne_of_gt (lq (g:=al) (o:=.cells #[.int .i64 ah,.slice aN ac.length aO] 31 (0,0)) (jZ af.out))):p:=h
theorem BX(h:p:=by rw[hg];exact Nat.ne_of_lt (lq (g:=al) (o:=.cells #[.int .i64 ah,.slice aR ac.length aS] 31 (0,0)) (jZ af.out))):p:=h
theorem BZ(h:p:=by rw[hg];exact Nat.ne_of_gt (lq (g:=al) (o:=.cells #[.int .i64 ah,.slice aR ac.length aS] 31 (0,0)) (jZ af.out))):p:=h
theorem uK(h:p:=by rw[hg];exact Nat.ne_of_lt (lq (g:=ay) (o:=.cells #[.int .i64 aP,.slice aX aE.length aY] 31 (0,0)) (jZ ai.out))):p:=h
theorem uL(h:p:=by rw[hg];exact Nat.ne_of_gt (lq (g:=ay) (o:=.cells #[.int .i64 aP,.slice aX aE.length aY] 31 (0,0)) (jZ ai.out))):p:=h
theorem uk(h:p:=by(with_reducible repeat(first|apply kI|apply kJ|apply kw));exact kz aa.out (fun _ hk=>hk.2)):p:=h
theorem xc(h:p:=by(with_reducible repeat(first|apply kI|apply kJ|apply kw));exact kz aD.out (fun _ hk=>hk.2)):p:=h
theorem vH(h:p:=by rw[hg];exact Nat.ne_of_lt (lq (g:=ax) (o:=.cells #[.int .i64 0,.slice none 0 0] 31 (0,0)) (jZ aj.out))):p:=h
theorem vI(h:p:=by rw[hg];exact Nat.ne_of_gt (lq (g:=ax) (o:=.cells #[.int .i64 0,.slice none 0 0] 31 (0,0)) (jZ aj.out))):p:=h
def mK.l0:Nat->List (S59)->Int->Int->List (S59)->Option (Int× (List (S59)))
 |0,_,_,_,_=>none
 |k+1,x1,x6,bj,bk=>if x6<(x1.length:Int) then(if 0<=x6 then((mf.f k bj bk ((jQ x1 x6).f0) ((jQ x1 x6).f1)).bind fun bB=>(if bB.2.2=true then(mK.l0 k x1 (wrap64 (x6+1)) bB.1 bB.2.1) else(mK.l0 k x1 (wrap64 (x6+1)) bj bk))) else(none)) else(some (bj,bk))
def mK.f (k:Nat) (aP:Int) (aE:List (S59)) (l1:List (S59)):Option (Int× (List (S59))):=(pQ.f aP aE).bind fun bf=>(mK.l0 k l1 0 bf.1 bf.2)
def mK.T5:Bool×List (List Nat×List Nat):=(true,[([],[]),([],[]),([],[]),([1,2],[1,2]),([3],[3]),([4],[4]),([],[]),([],[]),([6,7],[6,7]),([8],[8]),([9],[9]),([0,5,10],[0,5,10]),([11],[11]),([12],[12]),([12],[12]),([],[]),([15,13,11,0,1,2,3,4,5,6,7,8,9,10,11,12,13,15],[13,15]),([14,16,0,1,2,3,4,5,6,7,8,9,10,11,12,13,14,15,16],[14])])
def mK.B5:List Nat:=[0,0,0,6,14,30,0,0,192,448,960,2047,4095,8191,8191,0,49151,131071]
theorem mK.wy:mi .any (opsOf Try.f62 5)=mK.T5:=by kernel_rfl
theorem mK.vB:nY mK.T5.2 mK.B5=true:=by kernel_rfl
theorem mK.calls {k:Nat}{aP:Int}{aX:Option Addr}{aY:Nat}{aE:List (S59)}{A1:Option Addr}{c1:Nat}{l1:List (S59)}{r1:Int}{r2:List (S59)}{w:World}(bU:Kd.C k59 w aX aE.length aE)(bV:aE.length<=aY)(hr1:Kd.C k59 w A1 l1.length l1)(cr:l1.length<=c1)(h:mK.f k aP aE l1=some (r1,r2)):
  Calls Try.prog 62 #[.agg #[.int .i64 aP,.slice aX aE.length aY],.slice A1 l1.length c1] w fun e w'=>∃ct:Value,e=.returned (.agg #[.int .i64 r1,ct])/\Kd.R k59 59 w' w.heap.size (fun _=>True) ct r2/\Below w.heap.size w w':=by
 have ec:=Try.underlying31;have co:=dm bU;have cp:=dm bV;clear bU bV;have bW:=dm hr1;have ek:=dm cr;clear hr1 cr;have HB:=dm (Below.refl w.heap.size w);unfold mK.f at h;have H:=h;clear h;obtain⟨⟨bo,bp⟩,A3,H⟩:=kR H;(try dsimp only at H);have H':=dm H;clear H
 go_enter Try.func62,Try.ntmps62
 go_wp2_with (first|((with_reducible refine ky 2 rfl ?_);refine kS #[.int .i64 aP,.slice aX aE.length aY] 31 ?_;intro ay hg w4 jS hb;have ai:=dm (jS);have dB:=dm (kg:w.heap.size<=ay);have dC:=dm (kg:w.heap.size<=ay);replace HB:=jX HB hb;clear hb jS hg)|((with_reducible refine ky 4 rfl ?_);refine kS #[.int .i64 0,.slice none 0 0] 31 ?_;intro ax hg w5 jS hb;have aj:=dm (jS);have dD:=dm (kg:w.heap.size<=ax);have dE:=dm (kg:w.heap.size<=ax);replace HB:=jX HB hb;have bm:=dm (uK:ay≠ax);have bn:=dm (uL:ax≠ay);replace ai:=jU ai hb;clear hb jS hg;have ed:=bm.out;have ee:=bn.out;have⟨b8,b9,b_,ca⟩:=ko (w:=w5) ai)|((with_reducible refine kQ 59 rfl ?_);refine lL 10 rfl Try.func59 (pQ.calls (kv (kN co.out HB.out)) cp.out A3.out) ?_;rintro e w8 ⟨ef,rfl,aT,hb⟩;refine⟨_,rfl,?_⟩;have bh:=dm (kP aT (kC (jR HB.out)));replace ai:=jU ai hb;replace aj:=jU aj hb;replace HB:=jX HB hb;(try clear hb aT))|((with_reducible refine ky 5 rfl ?_);refine kS #[.int .i64 0,.slice none 0 0] 31 ?_;intro al hg w9 jS hb;have n0:=kD bh hb;have n1:=jU ai hb;have n2:=jU aj hb;have n3:=jX HB hb;have n4:=dm (jS);have n5:=dm (kg:w.heap.size<=al);have n6:=dm (kg:w.heap.size<=al);have n7:=dm (uK:ay≠al);have n8:=dm (uL:al≠ay);have n9:=dm (vH:ax≠al);have a3:=dm (vI:al≠ax);clear bh ai aj HB;revert n0 n1 n2 n3 n4 n5 n6 n7 n8 n9 a3;intro bh ai aj HB af dF dG aF a4 aG a5;clear hb jS hg;have dH:=a4.out;have dI:=aF.out;have dJ:=a5.out;have dK:=aG.out;have⟨b4,b5,b6,b7⟩:=ko (w:=w9) af;obtain⟨cd,ce,cu⟩:=kK bh.out;subst cu))
 go_loopg [6] k (fun kq v6 w'=>∃ (ae:Int) (ah:Int) (ac:List (S59)) (bl:Value),v6=.int .i64 ae/\jP (mK.l0 kq l1 ae ah ac=some (r1,r2))/\jP (kq<=k)/\jP (Kd.R k59 59 w' w.heap.size (fun _=>True) bl ac)/\jP (w'.heap[ay]? =some (.cells #[.int .i64 aP,(.slice aX aE.length aY)] 31 (0,0)))/\jP (w'.heap[ax]? =some (.cells #[.int .i64 0,(.slice none 0 0)] 31 (0,0)))/\jP (w'.heap[al]? =some (.cells #[.int .i64 ah,bl] 31 (0,0)))/\jP (Below w.heap.size w w'))
 case atStart=>exact⟨(0),(bo),(bp),(.slice cd bp.length ce),(by first|rfl|(simp;done)|(simp[*];done)),H',⟨Nat.le_refl _⟩,⟨by(with_reducible repeat(first|apply kI|apply kJ|apply kw));exact kz (lh (p:=⟨al,1,none⟩) (lh (p:=⟨al,0,none⟩) (mr bh.out af.out (by decide)) (fun _ hk=>hk.2) (.int .i64 bo)) (fun _ hk=>hk.2) (.slice cd bp.length ce)) (fun _ hk=>trivial)⟩,⟨lI ai.out⟩,⟨lI aj.out⟩,⟨lI af.out⟩,⟨jR HB.out⟩⟩
 case round=>
  clear H';(try clear b4 b5 b8 b9 b6 b7 b_ ca);obtain⟨ae,ah,ac,bl,rfl,HA,bX,aa,ai,aj,af,HB⟩:=hrel;cases gk with
  |zero=>exact absurd HA.out (by simp[mK.l0])
  |succ k1=>
   have H:=HA.out;clear HA;simp only [mK.l0]at H
   replace H:=lH H;rcases H with⟨cq,H⟩|⟨cq,H⟩
   ·skip
    obtain⟨dL,H⟩:=kX H;obtain⟨⟨aH,aQ,cf⟩,bZ,H⟩:=kR H;(try dsimp only at H)
    rcases lV H with⟨h_,H_⟩|⟨h_,H_⟩<;> (subst h_;clear H;have H:=H_;clear H_)
    ·have H':=dm H;clear H;obtain⟨aN,aO,cv⟩:=kK aa.out;subst cv;try go_wp2
     replace aa:=dm (kw aa.out);replace ai:=dm (kU ai.out);replace aj:=dm (kU aj.out);replace af:=dm (kU af.out);replace HB:=dm (mg HB.out);have a9:0<=(ae:Int):=jT;have a_:ae<(l1.length:Int):=jT;obtain⟨am,bQ,aI,aK⟩:=l7 bW.out ae a9 a_;have ao:=aK;have ap:=aI;cases bQ;replace aI:=j4 HB aI;replace aK:=j4 HB aK;replace a9:=eq_true a9;replace a_:=eq_true a_;have ba:0<=(ae:Int):=jT;have bd:ae<(l1.length:Int):=jT;obtain⟨bC,bR,aL,aM⟩:=l7 bW.out ae ba bd;have aq:=aM;have au:=aL;obtain rfl:am=bC:=(by injection bR);replace aL:=j4 HB aL;replace aM:=j4 HB aM;replace ba:=eq_true ba;replace bd:=eq_true bd;refine nk 18 (S:=fun w'=>w'.cell? ⟨al,0,none⟩=some (.int .i64 ah)/\w'.cell? ⟨al,1,none⟩=some (.slice aN ac.length aO)/\w'.cell? (am.add ((ae).toNat*2))=some (.int .i64 ((jQ l1 ae).f0))/\w'.cell? ⟨(am.add ((ae).toNat*2)).block,(am.add ((ae).toNat*2)).off+1,none⟩=some (.int .i64 ((jQ l1 ae).f1))/\w'.cell? (am.add ((ae).toNat*2))=some (.int .i64 ((jQ l1 ae).f0))/\w'.cell? ⟨(am.add ((ae).toNat*2)).block,(am.add ((ae).toNat*2)).off+1,none⟩=some (.int .i64 ((jQ l1 ae).f1))) [] ⟨jY af 0,jY af 1,(j4 HB ap),(j4 HB ao),(j4 HB au),(j4 HB aq)⟩ mK.wy mK.vB (fun hHeld HT_ HW_=>?_);generalize wr.drew=el at aa ai aj af HB aI aK aL aM hHeld⊢;refine jW 1 19 2 ?_;refine jW 2 20 6 ?_;refine jW 3 21 14 ?_;refine jW 4 22 30 ?_;refine jW 6 24 94 ?_;refine jW 7 25 222 ?_;refine jW 8 26 478 ?_;refine jW 9 27 990 ?_;refine kL 0 18 991 ?_;refine kL 5 23 1023 ?_;refine kL 10 28 2047 ?_;refine qZ (σ:=Value×Nat) 2 (lJ 18 65535) (fun s_=>[(29,.tuple #[.agg #[.int .i64 aH,s_.1],.bool true]),(7,.pointer (some ⟨s_.2,0,none⟩)),(17,.tuple #[.agg #[.int .i64 aH,s_.1],.bool true]),(30,.agg #[.int .i64 aH,s_.1]),(31,.bool true)]) (fun s_ w'=>(w'.cell? ⟨al,0,none⟩=some (.int .i64 ah)/\w'.cell? ⟨al,1,none⟩=some (.slice aN ac.length aO)/\w'.cell? (am.add ((ae).toNat*2))=some (.int .i64 ((jQ l1 ae).f0))/\w'.cell? ⟨(am.add ((ae).toNat*2)).block,(am.add ((ae).toNat*2)).off+1,none⟩=some (.int .i64 ((jQ l1 ae).f1))/\w'.cell? (am.add ((ae).toNat*2))=some (.int .i64 ((jQ l1 ae).f0))/\w'.cell? ⟨(am.add ((ae).toNat*2)).block,(am.add ((ae).toNat*2)).off+1,none⟩=some (.int .i64 ((jQ l1 ae).f1)))/\(Kd.R k59 59 w' w.heap.size (fun k_=>some k_≠(.slice aN ac.length aO:Value).ownBlock) s_.1 aQ)/\(Kd.R k59 59 w' w.heap.size (fun k_=>some k_≠(s_.1:Value).ownBlock) (.slice aN ac.length aO) ac)/\(w'.heap[ay]? =some (.cells #[.int .i64 aP,.slice aX aE.length aY] 31 (0,0)))/\(w'.heap[ax]? =some (.cells #[.int .i64 0,.slice none 0 0] 31 (0,0)))/\(w'.heap[al]? =some (.cells #[.int .i64 ah,.slice aN ac.length aO] 31 (0,0)))/\(w'.heap[s_.2]? =some (.cells #[.int .i64 0,.slice none 0 0] 31 (0,0)))/\(w.heap.size<=s_.2)/\(w.heap.size<=s_.2)/\(ay≠s_.2)/\(s_.2≠ay)/\(ax≠s_.2)/\(s_.2≠ax)/\(al≠s_.2)/\(s_.2≠al)/\(Below w.heap.size w w')) ?_ ?_;rotate_left
     ·intro tC;refine uA (i:=11) (j:=15) (Ni:=some 29) (Nj:=some 7) (lJ 18 4095) (lJ 18 34815) rfl rfl rfl rfl (uB HT_.out (lg)) (by decide) (by decide) (fun K hK=>?_) (fun K hK=>?_)
      ·skip;refine oz Try.func95 (mf.calls (kv (kr aa.out).2.2) ((kr aa.out).2.1) bZ.out) ?_;rintro e dx ⟨aU,rfl,aT,hb⟩;refine⟨_,rfl,?_⟩;have aD:=dm (kP (lF aT (kT (jV aa.out))) (kC (jR HB.out)));replace aa:=lK aa aT hb;replace ai:=jU ai hb;replace aj:=jU aj hb;replace af:=jU af hb;replace HB:=jX HB hb;(try clear hb cg hk hi aT);refine hK.out _ _ ⟨jY af 0,jY af 1,(j4 HB ap),(j4 HB ao),(j4 HB au),(j4 HB aq)⟩ (fun hHeld=>?_);clear hK K;refine ll 29 ?_;refine jW 12 17 8191 ?_;refine jW 13 30 16383 ?_;refine jW 14 31 32767 ?_;refine l6 15 7 65535 (fun K hK=>?_);refine wW ?hg (N:=7) ?hd (cs:= #[.int .i64 0,.slice none 0 0]) (t:=31) ?hr ?_;(case hd=>rfl);(case hg=>rfl);(case hr=>first|(go_simp;done)|(go_simp;rfl));intro ab hg dy jS hb;have n0:=kD aa hb;have n1:=kD aD hb;have n2:=jU ai hb;have n3:=jU aj hb;have n4:=jU af hb;have n5:=jX HB hb;have n6:=dm (jS);have n7:=dm (kg:w.heap.size<=ab);have n8:=dm (kg:w.heap.size<=ab);have n9:=dm (uK:ay≠ab);have a3:=dm (uL:ab≠ay);have a6:=dm (vH:ax≠ab);have a7:=dm (vI:ab≠ax);have a8:=dm (BU:al≠ab);have bq:=dm (BV:ab≠al);clear aa aD ai aj af HB;revert n0 n1 n2 n3 n4 n5 n6 n7 n8 n9 a3 a6 a7 a8 bq;intro aa aD ai aj af HB az ag aW av aA aw aB ak aC;clear hb jS hg;refine hK.out _ _ ⟨jY af 0,jY af 1,(j4 HB ap),(j4 HB ao),(j4 HB au),(j4 HB aq)⟩ (fun hHeld=>?_);clear hK K;refine ll 7 ?_;exact ng (by simp only [oG,Act.put,List.setIfInBounds_toArray,List.set_cons_zero,List.set_cons_succ]) (tC (aU,ab) _ ⟨hHeld,(xc),(uk),(jZ ai.out),(jZ aj.out),(jZ af.out),(jZ az.out),ag.out,aW.out,av.out,aA.out,aw.out,aB.out,ak.out,aC.out,(jR HB.out)⟩)
      skip;refine wW ?hg (N:=7) ?hd (cs:= #[.int .i64 0,.slice none 0 0]) (t:=31) ?hr ?_;(case hd=>rfl);(case hg=>rfl);(case hr=>first|(go_simp;done)|(go_simp;rfl));intro ab hg dx jS hb;have n0:=kD aa hb;have n1:=jU ai hb;have n2:=jU aj hb;have n3:=jU af hb;have n4:=jX HB hb;have n5:=dm (jS);have n6:=dm (kg:w.heap.size<=ab);have n7:=dm (kg:w.heap.size<=ab);have n8:=dm (uK:ay≠ab);have n9:=dm (uL:ab≠ay);have a3:=dm (vH:ax≠ab);have a6:=dm (vI:ab≠ax);have a7:=dm (BU:al≠ab);have a8:=dm (BV:ab≠al);clear aa ai aj af HB;revert n0 n1 n2 n3 n4 n5 n6 n7 n8 n9 a3 a6 a7 a8;intro aa ai aj af HB az ag aW av aA aw aB ak aC;clear hb jS hg;refine hK.out _ _ ⟨jY af 0,jY af 1,(j4 HB ap),(j4 HB ao),(j4 HB au),(j4 HB aq)⟩ (fun hHeld=>?_);clear hK K;refine ll 7 ?_;refine l6 11 29 36863 (fun K hK=>?_);refine oz Try.func95 (mf.calls (kv (kr aa.out).2.2) ((kr aa.out).2.1) bZ.out) ?_;rintro e dy ⟨aU,rfl,aT,hb⟩;refine⟨_,rfl,?_⟩;have aD:=dm (kP (lF aT (kT (jV aa.out))) (kC (jR HB.out)));replace aa:=lK aa aT hb;replace ai:=jU ai hb;replace aj:=jU aj hb;replace af:=jU af hb;replace az:=jU az hb;replace HB:=jX HB hb;(try clear hb cg hk hi aT);refine hK.out _ _ ⟨jY af 0,jY af 1,(j4 HB ap),(j4 HB ao),(j4 HB au),(j4 HB aq)⟩ (fun hHeld=>?_);clear hK K;refine ll 29 ?_;refine jW 12 17 40959 ?_;refine jW 13 30 49151 ?_;refine jW 14 31 65535 ?_;exact ng (by simp only [oG,Act.put,List.setIfInBounds_toArray,List.set_cons_zero,List.set_cons_succ]) (tC (aU,ab) _ ⟨hHeld,(xc),(uk),(jZ ai.out),(jZ aj.out),(jZ af.out),(jZ az.out),ag.out,aW.out,av.out,aA.out,aw.out,aB.out,ak.out,aC.out,(jR HB.out)⟩)
     rintro⟨aU,ab⟩ aV ⟨hS_,bE,bF,bG,bH,bI,bJ,bK,bL,bM,bN,br,bu,bv,bx,bz⟩;have n0:jP (Kd.R k59 59 aV w.heap.size (fun k_=>some k_≠(.slice aN ac.length aO:Value).ownBlock) aU aQ):=⟨bE⟩;have n1:jP (Kd.R k59 59 aV w.heap.size (fun k_=>some k_≠(aU:Value).ownBlock) (.slice aN ac.length aO) ac):=⟨bF⟩;have n2:jP (aV.heap[ay]? =some (.cells #[.int .i64 aP,.slice aX aE.length aY] 31 (0,0))):=⟨bG⟩;have n3:jP (aV.heap[ax]? =some (.cells #[.int .i64 0,.slice none 0 0] 31 (0,0))):=⟨bH⟩;have n4:jP (aV.heap[al]? =some (.cells #[.int .i64 ah,.slice aN ac.length aO] 31 (0,0))):=⟨bI⟩;have n5:jP (aV.heap[ab]? =some (.cells #[.int .i64 0,.slice none 0 0] 31 (0,0))):=⟨bJ⟩;have n6:jP (w.heap.size<=ab):=⟨bK⟩;have n7:jP (w.heap.size<=ab):=⟨bL⟩;have n8:jP (ay≠ab):=⟨bM⟩;have n9:jP (ab≠ay):=⟨bN⟩;have a3:jP (ax≠ab):=⟨br⟩;have a6:jP (ab≠ax):=⟨bu⟩;have a7:jP (al≠ab):=⟨bv⟩;have a8:jP (ab≠al):=⟨bx⟩;have bq:jP (Below w.heap.size w aV):=⟨bz⟩;clear aa ai aj af HB;clear bE bF bG bH bI bJ bK bL bM bN br bu bv bx bz;revert n0 n1 n2 n3 n4 n5 n6 n7 n8 n9 a3 a6 a7 a8 bq;intro aD aa ai aj af az ag aW av aA aw aB ak aC HB;have hHeld:aV.cell? ⟨al,0,none⟩=some (.int .i64 ah)/\aV.cell? ⟨al,1,none⟩=some (.slice aN ac.length aO)/\aV.cell? (am.add ((ae).toNat*2))=some (.int .i64 ((jQ l1 ae).f0))/\aV.cell? ⟨(am.add ((ae).toNat*2)).block,(am.add ((ae).toNat*2)).off+1,none⟩=some (.int .i64 ((jQ l1 ae).f1))/\aV.cell? (am.add ((ae).toNat*2))=some (.int .i64 ((jQ l1 ae).f0))/\aV.cell? ⟨(am.add ((ae).toNat*2)).block,(am.add ((ae).toNat*2)).off+1,none⟩=some (.int .i64 ((jQ l1 ae).f1)):=hS_;obtain⟨bS,bT,ch⟩:=kK aD.out;(first|subst ch|(injection ch with bO ci bP;have cj:=bO.symm;have ck:=bP.symm;clear bO ci bP;subst cj;subst ck));refine ng (a':= ?_) ?_ ?_;rotate_left
     ·simp only [oG,Act.put,List.setIfInBounds_toArray,List.set_cons_zero,List.set_cons_succ];rfl
     refine zu 16 (none) (lJ 18 131071) (fun K hK=>?_);have eg:aV.cell? ⟨ab,0,none⟩=some (.int .i64 0):=jY az 0;have dM:=l8 az.out 0;have cA:=av.out;have cD:=aw.out;have cE:=ak.out;have cF:=aA.out;have cG:=aB.out;have cH:=aC.out;have eh:aV.cell? ⟨ab,1,none⟩=some (.slice none 0 0):=jY az 1;have dN:=l8 az.out 1;have cI:=av.out;have cJ:=aw.out;have cL:=ak.out;have cM:=aA.out;have cN:=aB.out;have cO:=aC.out;refine r_ (w1:= ?_) (by rfl) rfl ?_ ?_;rotate_left
     ·go_simp
      rfl
     refine hK.out _ _ ⟨((cell_far (p:=⟨ab,_,none⟩) ak.out _).trans (((cell_far (p:=⟨ab,_,none⟩) ak.out _).trans (hHeld.1)))),((cell_far (p:=⟨ab,_,none⟩) ak.out _).trans (((cell_far (p:=⟨ab,_,none⟩) ak.out _).trans (hHeld.2.1)))),((cell_far (p:=⟨ab,_,none⟩) (qz ap ag.out) _).trans (((cell_far (p:=⟨ab,_,none⟩) (qz ap ag.out) _).trans (hHeld.2.2.1)))),((cell_far (p:=⟨ab,_,none⟩) (qz ao ag.out) _).trans (((cell_far (p:=⟨ab,_,none⟩) (qz ao ag.out) _).trans (hHeld.2.2.2.1)))),((cell_far (p:=⟨ab,_,none⟩) (qz au ag.out) _).trans (((cell_far (p:=⟨ab,_,none⟩) (qz au ag.out) _).trans (hHeld.2.2.2.2.1)))),((cell_far (p:=⟨ab,_,none⟩) (qz aq ag.out) _).trans (((cell_far (p:=⟨ab,_,none⟩) (qz aq ag.out) _).trans (hHeld.2.2.2.2.2))))⟩ (fun hHeld=>?_)
     clear hK K;refine jW 17 8 262143 ?_;refine mD (mV HT_.out (lg)) ?_;have dO:=aA.out;have dP:=av.out;have dQ:=aB.out;have dR:=aw.out;have dS:=aC.out;have dT:=ak.out;have⟨cP,cQ,cS,cT⟩:=ko (w:=aV) az;have dU:=a4.out;have dV:=aF.out;have dW:=a5.out;have dX:=aG.out;have⟨cU,cW,cX,cY⟩:=ko (w:=aV) af;try go_wp2
     go_roundg k1
     case measure=>have:=bX.out;omega
     case rel=>exact⟨(wrap64 (ae+1)),(aH),(aQ),(.slice bS aQ.length bT),(by first|rfl|(simp;done)|(simp[*];done)),H',⟨by have:=bX.out;omega⟩,⟨by(with_reducible repeat(first|apply kI|apply kJ|apply kw));exact kz (lh (p:=⟨al,1,none⟩) (lh (p:=⟨al,0,none⟩) (lh (p:=⟨ab,1,none⟩) (lh (p:=⟨ab,0,none⟩) (mr (mr aD.out az.out (by decide)) af.out (by decide)) (fun _ hk=>hk.1.2) (.int .i64 aH)) (fun _ hk=>hk.1.2) (.slice bS aQ.length bT)) (fun _ hk=>hk.2) (.int .i64 aH)) (fun _ hk=>hk.2) (.slice bS aQ.length bT)) (fun _ hk=>trivial)⟩,⟨lI ai.out⟩,⟨lI aj.out⟩,⟨lI af.out⟩,⟨jR HB.out⟩⟩
    have H':=dm H;clear H;obtain⟨aR,aS,cw⟩:=kK aa.out;subst cw;try go_wp2
    replace aa:=dm (kw aa.out);replace ai:=dm (kU ai.out);replace aj:=dm (kU aj.out);replace af:=dm (kU af.out);replace HB:=dm (mg HB.out);have a9:0<=(ae:Int):=jT;have a_:ae<(l1.length:Int):=jT;obtain⟨am,bQ,aI,aK⟩:=l7 bW.out ae a9 a_;have ao:=aK;have ap:=aI;cases bQ;replace aI:=j4 HB aI;replace aK:=j4 HB aK;replace a9:=eq_true a9;replace a_:=eq_true a_;have ba:0<=(ae:Int):=jT;have bd:ae<(l1.length:Int):=jT;obtain⟨bC,bR,aL,aM⟩:=l7 bW.out ae ba bd;have aq:=aM;have au:=aL;obtain rfl:am=bC:=(by injection bR);replace aL:=j4 HB aL;replace aM:=j4 HB aM;replace ba:=eq_true ba;replace bd:=eq_true bd;refine nk 18 (S:=fun w'=>w'.cell? ⟨al,0,none⟩=some (.int .i64 ah)/\w'.cell? ⟨al,1,none⟩=some (.slice aR ac.length aS)/\w'.cell? (am.add ((ae).toNat*2))=some (.int .i64 ((jQ l1 ae).f0))/\w'.cell? ⟨(am.add ((ae).toNat*2)).block,(am.add ((ae).toNat*2)).off+1,none⟩=some (.int .i64 ((jQ l1 ae).f1))/\w'.cell? (am.add ((ae).toNat*2))=some (.int .i64 ((jQ l1 ae).f0))/\w'.cell? ⟨(am.add ((ae).toNat*2)).block,(am.add ((ae).toNat*2)).off+1,none⟩=some (.int .i64 ((jQ l1 ae).f1))) [] ⟨jY af 0,jY af 1,(j4 HB ap),(j4 HB ao),(j4 HB au),(j4 HB aq)⟩ mK.wy mK.vB (fun hHeld HT_ HW_=>?_);generalize wr.drew=em at aa ai aj af HB aI aK aL aM hHeld⊢;refine jW 1 19 2 ?_;refine jW 2 20 6 ?_;refine jW 3 21 14 ?_;refine jW 4 22 30 ?_;refine jW 6 24 94 ?_;refine jW 7 25 222 ?_;refine jW 8 26 478 ?_;refine jW 9 27 990 ?_;refine kL 0 18 991 ?_;refine kL 5 23 1023 ?_;refine kL 10 28 2047 ?_;refine qZ (σ:=Value×Nat) 2 (lJ 18 65535) (fun s_=>[(29,.tuple #[.agg #[.int .i64 aH,s_.1],.bool false]),(7,.pointer (some ⟨s_.2,0,none⟩)),(17,.tuple #[.agg #[.int .i64 aH,s_.1],.bool false]),(30,.agg #[.int .i64 aH,s_.1]),(31,.bool false)]) (fun s_ w'=>(w'.cell? ⟨al,0,none⟩=some (.int .i64 ah)/\w'.cell? ⟨al,1,none⟩=some (.slice aR ac.length aS)/\w'.cell? (am.add ((ae).toNat*2))=some (.int .i64 ((jQ l1 ae).f0))/\w'.cell? ⟨(am.add ((ae).toNat*2)).block,(am.add ((ae).toNat*2)).off+1,none⟩=some (.int .i64 ((jQ l1 ae).f1))/\w'.cell? (am.add ((ae).toNat*2))=some (.int .i64 ((jQ l1 ae).f0))/\w'.cell? ⟨(am.add ((ae).toNat*2)).block,(am.add ((ae).toNat*2)).off+1,none⟩=some (.int .i64 ((jQ l1 ae).f1)))/\(Kd.R k59 59 w' w.heap.size (fun k_=>some k_≠(.slice aR ac.length aS:Value).ownBlock) s_.1 aQ)/\(Kd.R k59 59 w' w.heap.size (fun k_=>some k_≠(s_.1:Value).ownBlock) (.slice aR ac.length aS) ac)/\(w'.heap[ay]? =some (.cells #[.int .i64 aP,.slice aX aE.length aY] 31 (0,0)))/\(w'.heap[ax]? =some (.cells #[.int .i64 0,.slice none 0 0] 31 (0,0)))/\(w'.heap[al]? =some (.cells #[.int .i64 ah,.slice aR ac.length aS] 31 (0,0)))/\(w'.heap[s_.2]? =some (.cells #[.int .i64 0,.slice none 0 0] 31 (0,0)))/\(w.heap.size<=s_.2)/\(w.heap.size<=s_.2)/\(ay≠s_.2)/\(s_.2≠ay)/\(ax≠s_.2)/\(s_.2≠ax)/\(al≠s_.2)/\(s_.2≠al)/\(Below w.heap.size w w')) ?_ ?_;rotate_left
    ·intro tC;refine uA (i:=11) (j:=15) (Ni:=some 29) (Nj:=some 7) (lJ 18 4095) (lJ 18 34815) rfl rfl rfl rfl (uB HT_.out (lg)) (by decide) (by decide) (fun K hK=>?_) (fun K hK=>?_)
     ·skip;refine oz Try.func95 (mf.calls (kv (kr aa.out).2.2) ((kr aa.out).2.1) bZ.out) ?_;rintro e dz ⟨aU,rfl,aT,hb⟩;refine⟨_,rfl,?_⟩;have aD:=dm (kP (lF aT (kT (jV aa.out))) (kC (jR HB.out)));replace aa:=lK aa aT hb;replace ai:=jU ai hb;replace aj:=jU aj hb;replace af:=jU af hb;replace HB:=jX HB hb;(try clear hb cg hk hi aT);refine hK.out _ _ ⟨jY af 0,jY af 1,(j4 HB ap),(j4 HB ao),(j4 HB au),(j4 HB aq)⟩ (fun hHeld=>?_);clear hK K;refine ll 29 ?_;refine jW 12 17 8191 ?_;refine jW 13 30 16383 ?_;refine jW 14 31 32767 ?_;refine l6 15 7 65535 (fun K hK=>?_);refine wW ?hg (N:=7) ?hd (cs:= #[.int .i64 0,.slice none 0 0]) (t:=31) ?hr ?_;(case hd=>rfl);(case hg=>rfl);(case hr=>first|(go_simp;done)|(go_simp;rfl));intro ab hg dA jS hb;have n0:=kD aa hb;have n1:=kD aD hb;have n2:=jU ai hb;have n3:=jU aj hb;have n4:=jU af hb;have n5:=jX HB hb;have n6:=dm (jS);have n7:=dm (kg:w.heap.size<=ab);have n8:=dm (kg:w.heap.size<=ab);have n9:=dm (uK:ay≠ab);have a3:=dm (uL:ab≠ay);have a6:=dm (vH:ax≠ab);have a7:=dm (vI:ab≠ax);have a8:=dm (BX:al≠ab);have bq:=dm (BZ:ab≠al);clear aa aD ai aj af HB;revert n0 n1 n2 n3 n4 n5 n6 n7 n8 n9 a3 a6 a7 a8 bq;intro aa aD ai aj af HB az ag aW av aA aw aB ak aC;clear hb jS hg;refine hK.out _ _ ⟨jY af 0,jY af 1,(j4 HB ap),(j4 HB ao),(j4 HB au),(j4 HB aq)⟩ (fun hHeld=>?_);clear hK K;refine ll 7 ?_;exact ng (by simp only [oG,Act.put,List.setIfInBounds_toArray,List.set_cons_zero,List.set_cons_succ]) (tC (aU,ab) _ ⟨hHeld,(xc),(uk),(jZ ai.out),(jZ aj.out),(jZ af.out),(jZ az.out),ag.out,aW.out,av.out,aA.out,aw.out,aB.out,ak.out,aC.out,(jR HB.out)⟩)
     skip;refine wW ?hg (N:=7) ?hd (cs:= #[.int .i64 0,.slice none 0 0]) (t:=31) ?hr ?_;(case hd=>rfl);(case hg=>rfl);(case hr=>first|(go_simp;done)|(go_simp;rfl));intro ab hg dz jS hb;have n0:=kD aa hb;have n1:=jU ai hb;have n2:=jU aj hb;have n3:=jU af hb;have n4:=jX HB hb;have n5:=dm (jS);have n6:=dm (kg:w.heap.size<=ab);have n7:=dm (kg:w.heap.size<=ab);have n8:=dm (uK:ay≠ab);have n9:=dm (uL:ab≠ay);have a3:=dm (vH:ax≠ab);have a6:=dm (vI:ab≠ax);have a7:=dm (BX:al≠ab);have a8:=dm (BZ:ab≠al);clear aa ai aj af HB;revert n0 n1 n2 n3 n4 n5 n6 n7 n8 n9 a3 a6 a7 a8;intro aa ai aj af HB az ag aW av aA aw aB ak aC;clear hb jS hg;refine hK.out _ _ ⟨jY af 0,jY af 1,(j4 HB ap),(j4 HB ao),(j4 HB au),(j4 HB aq)⟩ (fun hHeld=>?_);clear hK K;refine ll 7 ?_;refine l6 11 29 36863 (fun K hK=>?_);refine oz Try.func95 (mf.calls (kv (kr aa.out).2.2) ((kr aa.out).2.1) bZ.out) ?_;rintro e dA ⟨aU,rfl,aT,hb⟩;refine⟨_,rfl,?_⟩;have aD:=dm (kP (lF aT (kT (jV aa.out))) (kC (jR HB.out)));replace aa:=lK aa aT hb;replace ai:=jU ai hb;replace aj:=jU aj hb;replace af:=jU af hb;replace az:=jU az hb;replace HB:=jX HB hb;(try clear hb cg hk hi aT);refine hK.out _ _ ⟨jY af 0,jY af 1,(j4 HB ap),(j4 HB ao),(j4 HB au),(j4 HB aq)⟩ (fun hHeld=>?_);clear hK K;refine ll 29 ?_;refine jW 12 17 40959 ?_;refine jW 13 30 49151 ?_;refine jW 14 31 65535 ?_;exact ng (by simp only [oG,Act.put,List.setIfInBounds_toArray,List.set_cons_zero,List.set_cons_succ]) (tC (aU,ab) _ ⟨hHeld,(xc),(uk),(jZ ai.out),(jZ aj.out),(jZ af.out),(jZ az.out),ag.out,aW.out,av.out,aA.out,aw.out,aB.out,ak.out,aC.out,(jR HB.out)⟩)
    rintro⟨aU,ab⟩ aZ ⟨hS_,bE,bF,bG,bH,bI,bJ,bK,bL,bM,bN,br,bu,bv,bx,bz⟩;have n0:jP (Kd.R k59 59 aZ w.heap.size (fun k_=>some k_≠(.slice aR ac.length aS:Value).ownBlock) aU aQ):=⟨bE⟩;have n1:jP (Kd.R k59 59 aZ w.heap.size (fun k_=>some k_≠(aU:Value).ownBlock) (.slice aR ac.length aS) ac):=⟨bF⟩;have n2:jP (aZ.heap[ay]? =some (.cells #[.int .i64 aP,.slice aX aE.length aY] 31 (0,0))):=⟨bG⟩;have n3:jP (aZ.heap[ax]? =some (.cells #[.int .i64 0,.slice none 0 0] 31 (0,0))):=⟨bH⟩;have n4:jP (aZ.heap[al]? =some (.cells #[.int .i64 ah,.slice aR ac.length aS] 31 (0,0))):=⟨bI⟩;have n5:jP (aZ.heap[ab]? =some (.cells #[.int .i64 0,.slice none 0 0] 31 (0,0))):=⟨bJ⟩;have n6:jP (w.heap.size<=ab):=⟨bK⟩;have n7:jP (w.heap.size<=ab):=⟨bL⟩;have n8:jP (ay≠ab):=⟨bM⟩;have n9:jP (ab≠ay):=⟨bN⟩;have a3:jP (ax≠ab):=⟨br⟩;have a6:jP (ab≠ax):=⟨bu⟩;have a7:jP (al≠ab):=⟨bv⟩;have a8:jP (ab≠al):=⟨bx⟩;have bq:jP (Below w.heap.size w aZ):=⟨bz⟩;clear aa ai aj af HB;clear bE bF bG bH bI bJ bK bL bM bN br bu bv bx bz;revert n0 n1 n2 n3 n4 n5 n6 n7 n8 n9 a3 a6 a7 a8 bq;intro aD aa ai aj af az ag aW av aA aw aB ak aC HB;have hHeld:aZ.cell? ⟨al,0,none⟩=some (.int .i64 ah)/\aZ.cell? ⟨al,1,none⟩=some (.slice aR ac.length aS)/\aZ.cell? (am.add ((ae).toNat*2))=some (.int .i64 ((jQ l1 ae).f0))/\aZ.cell? ⟨(am.add ((ae).toNat*2)).block,(am.add ((ae).toNat*2)).off+1,none⟩=some (.int .i64 ((jQ l1 ae).f1))/\aZ.cell? (am.add ((ae).toNat*2))=some (.int .i64 ((jQ l1 ae).f0))/\aZ.cell? ⟨(am.add ((ae).toNat*2)).block,(am.add ((ae).toNat*2)).off+1,none⟩=some (.int .i64 ((jQ l1 ae).f1)):=hS_;obtain⟨cx,cy,cl⟩:=kK aD.out;(first|subst cl|(injection cl with bO ci bP;have cj:=bO.symm;have ck:=bP.symm;clear bO ci bP;subst cj;subst ck));refine ng (a':= ?_) ?_ ?_;rotate_left
    ·simp only [oG,Act.put,List.setIfInBounds_toArray,List.set_cons_zero,List.set_cons_succ];rfl
    refine zu 16 (none) (lJ 18 131071) (fun K hK=>?_);have ei:aZ.cell? ⟨ab,0,none⟩=some (.int .i64 0):=jY az 0;have dY:=l8 az.out 0;have cZ:=av.out;have c_:=aw.out;have db:=ak.out;have dc:=aA.out;have dd:=aB.out;have de:=aC.out;have ej:aZ.cell? ⟨ab,1,none⟩=some (.slice none 0 0):=jY az 1;have dZ:=l8 az.out 1;have df:=av.out;have dg:=aw.out;have dh:=ak.out;have di:=aA.out;have dj:=aB.out;have dk:=aC.out;refine r_ (w1:= ?_) (by rfl) rfl ?_ ?_;rotate_left
    ·go_simp
     rfl
    refine hK.out _ _ ⟨((cell_far (p:=⟨ab,_,none⟩) ak.out _).trans (((cell_far (p:=⟨ab,_,none⟩) ak.out _).trans (hHeld.1)))),((cell_far (p:=⟨ab,_,none⟩) ak.out _).trans (((cell_far (p:=⟨ab,_,none⟩) ak.out _).trans (hHeld.2.1)))),((cell_far (p:=⟨ab,_,none⟩) (qz ap ag.out) _).trans (((cell_far (p:=⟨ab,_,none⟩) (qz ap ag.out) _).trans (hHeld.2.2.1)))),((cell_far (p:=⟨ab,_,none⟩) (qz ao ag.out) _).trans (((cell_far (p:=⟨ab,_,none⟩) (qz ao ag.out) _).trans (hHeld.2.2.2.1)))),((cell_far (p:=⟨ab,_,none⟩) (qz au ag.out) _).trans (((cell_far (p:=⟨ab,_,none⟩) (qz au ag.out) _).trans (hHeld.2.2.2.2.1)))),((cell_far (p:=⟨ab,_,none⟩) (qz aq ag.out) _).trans (((cell_far (p:=⟨ab,_,none⟩) (qz aq ag.out) _).trans (hHeld.2.2.2.2.2))))⟩ (fun hHeld=>?_)
    clear hK K;refine jW 17 8 262143 ?_;refine mD (mV HT_.out (lg)) ?_;try go_wp2
    go_roundg k1
    case measure=>have:=bX.out;omega
    case rel=>exact⟨(wrap64 (ae+1)),(ah),(ac),(.slice aR ac.length aS),(by first|rfl|(simp;done)|(simp[*];done)),H',⟨by have:=bX.out;omega⟩,⟨by(with_reducible repeat(first|apply kI|apply kJ|apply kw));exact kz (lh (p:=⟨ab,1,none⟩) (lh (p:=⟨ab,0,none⟩) (mr aa.out az.out (by decide)) (fun _ hk=>hk.2) (.int .i64 aH)) (fun _ hk=>hk.2) (.slice cx aQ.length cy)) (fun _ hk=>trivial)⟩,⟨lI ai.out⟩,⟨lI aj.out⟩,⟨lI af.out⟩,⟨jR HB.out⟩⟩
   simp only [Option.some.injEq,Prod.mk.injEq]at H;obtain⟨rfl,rfl⟩:=H;have d7:=a4.out;have d8:=aF.out;have d9:=a5.out;have d_:=aG.out;have⟨dl,dn,dq,dr⟩:=ko (w:=wr) af;have ea:=bn.out;have eb:=bm.out;have⟨dt,du,dv,dw⟩:=ko (w:=wr) aj;obtain⟨cm,cn,cz⟩:=kK aa.out;subst cz
   go_wp2;refine bodyPost_ret (results_cell_row rfl _ _ ax 31 #[.int .i64 ah,.slice cm ac.length cn] (0,0) _ rfl (lI aj.out) Try.underlying31 rfl (lg)) rfl ?_;exact⟨_,mW,by(with_reducible repeat(first|apply kI|apply kJ|apply kw));exact kz (lh (p:=⟨ax,1,none⟩) (lh (p:=⟨ax,0,none⟩) (mr aa.out aj.out (by decide)) (fun _ hk=>hk.2) (.int .i64 ah)) (fun _ hk=>hk.2) (.slice cm ac.length cn)) (fun _ hk=>trivial),jR HB.out⟩
theorem B_(h:p:=by exact lI ab.out):p:=h
theorem Ca(h:p:=by(try simp only [List.map_toArray,List.map_cons,List.map_nil]);first|done|(simp only [bY];rfl)|rfl|(simp only [List.length_drop,List.length_take];rfl)):p:=h
theorem Cb(h:p:=by(with_reducible repeat(first|apply kI|apply kJ|apply kw));exact kz aa.out (fun _ hk=>⟨trivial,hk⟩)):p:=h
theorem Cc(h:p:=by(with_reducible repeat(first|apply kI|apply kJ|apply kw));exact kz ao.out (fun _ hk=>⟨trivial,hk⟩)):p:=h
theorem sF(h:p:=by(with_reducible repeat(first|apply ny|apply nz|apply mE));exact nW al.out (fun _ hk=>⟨hk.2,hk.1⟩)):p:=h
theorem BA(h:p:=by(with_reducible repeat(first|apply kI|apply kJ|apply kw));exact kz ao.out (fun _ hk=>hk.2)):p:=h
theorem rC(h:p:=by(with_reducible repeat(first|apply ny|apply nz|apply mE));exact aK.out):p:=h
theorem lU(h:p:=by(with_reducible repeat(first|apply ny|apply nz|apply mE));exact al.out):p:=h
theorem vJ(h:p:=by have:=bm.out;have:=bn.out;have:=bU.out;have:=b8.out;omega):p:=h
theorem kW(h:p:=by decide):p:=h
mutual
def kM.j0:Nat->List (List Int)->Bool->Int->List (S59)->Option ((List (List Int))×Bool)
 |0,_,_,_,_=>none
 |k+1,x4,gi,av,ax=>if gi=true then(some (x4,false)) else((pQ.f av ax).bind fun bH=>(kM.l0 k x4 (([0]:List Int)) av ax bH.1 bH.2))
def kM.l0:Nat->List (List Int)->List Int->Int->List (S59)->Int->List (S59)->Option ((List (List Int))×Bool)
 |0,_,_,_,_,_,_=>none
 |k+1,x4,x6,av,ax,aA,ay=>if(ay.length:Int)>0 then(kM.l1 k x4 x6 0 av ax aA ay) else(some (x4,true))
def kM.j3:Nat->List (List Int)->List Int->Int->Int->List (S59)->Int->List (S59)->Option ((List (List Int))×Bool)
 |0,_,_,_,_,_,_,_=>none
 |k+1,x4,x6,x7,av,ax,aA,ay=>(lM.f k aA ay x6 x7).bind fun cT=>(if cT.2=true then(kM.l2 k x4 x6 cT.1 (([]:List (S59))) 0 av ax aA ay) else(some ((([]:List (List Int))),false)))
def kM.l2:Nat->List (List Int)->List Int->List Int->List (S59)->Int->Int->List (S59)->Int->List (S59)->Option ((List (List Int))×Bool)
 |0,_,_,_,_,_,_,_,_,_=>none
 |k+1,x4,x6,x8,cu,a5,av,ax,aA,ay=>if a5<(x8.length:Int) then(if a5>0 then(if 0<=(wrap64 (a5 - 1)) then(if(wrap64 (a5 - 1))<(x8.length:Int) then(if 0<=a5 then((qA.f (rd x8 (wrap64 (a5 - 1))) (rd x8 a5)).bind fun bI=>(if cu.length<8796093022208 then((some (cu++[(⟨bI.1,bI.2⟩:S59)]:List (S59))).bind fun aM=>((ni.f k x6 (rd x8 a5)).bind fun ba=>(if ba=true then(kM.l2 k x4 x6 x8 aM (wrap64 (a5+1)) av ax aA ay) else(if x6.length<17592186044416 then(kM.l2 k x4 (x6++[rd x8 a5]) x8 aM (wrap64 (a5+1)) av ax aA ay) else(none))))) else(none))) else(none)) else(none)) else(none)) else(if 0<=a5 then((ni.f k x6 (rd x8 a5)).bind fun cj=>(if cj=true then(kM.l2 k x4 x6 x8 cu (wrap64 (a5+1)) av ax aA ay) else(if x6.length<17592186044416 then(kM.l2 k x4 (x6++[rd x8 a5]) x8 cu (wrap64 (a5+1)) av ax aA ay) else(none)))) else(none))) else((mK.f k aA ay cu).bind fun cU=>(if x4.length<5864062014805 then(kM.l0 k (x4++[x8]) x6 av ax cU.1 cU.2) else(none)))
def kM.l1:Nat->List (List Int)->List Int->Int->Int->List (S59)->Int->List (S59)->Option ((List (List Int))×Bool)
 |0,_,_,_,_,_,_,_=>none
 |k+1,x4,x6,x7,av,ax,aA,ay=>if x7<av then((ni.f k x6 x7).bind fun ck=>(if ck=true then((tX.f k aA ay x7).bind fun bo=>(if bo=true then(kM.l1 k x4 x6 (wrap64 (x7+1)) av ax aA ay) else(kM.j3 k x4 x6 x7 av ax aA ay))) else(kM.l1 k x4 x6 (wrap64 (x7+1)) av ax aA ay))) else(kM.j3 k x4 x6 x7 av ax aA ay)
end
def kM.f (k:Nat) (ag:Int) (ai:List (S59)):Option ((List (List Int))×Bool):=(some (([]:List (List Int)):List (List Int))).bind fun aw=>((lG.f k ag ai).bind fun bp=>(if bp=true then(if ag<3 then(kM.j0 k aw true ag ai) else((nJ.f k ag ai).bind fun aN=>(if aN=1 then((mJ.f k ag ai).bind fun a2=>(kM.j0 k aw (decide ((a2.length:Int)>0)) ag ai)) else(kM.j0 k aw true ag ai)))) else(kM.j0 k aw true ag ai)))
def kM.T18:Bool×List (List Nat×List Nat):=(true,[([],[]),([],[]),([],[]),([2],[2]),([1,3],[1,3]),([4],[4]),([],[]),([],[]),([6,7],[6,7]),([8],[8]),([5,9],[5,9]),([10],[10]),([0,11,10],[0,11]),([12,12,0,1,2,3,4,5,6,7,8,9,10,11,12],[0,12])])
def kM.B18:List Nat:=[0,0,0,4,14,30,0,0,192,448,1022,2046,4095,8191]
theorem kM.Ea:mi .any (opsOf Try.f22 18)=kM.T18:=by kernel_rfl
theorem kM.AO:nY kM.T18.2 kM.B18=true:=by kernel_rfl
theorem kM.calls {k:Nat}{ag:Int}{aQ:Option Addr}{aR:Nat}{ai:List (S59)}{r1:List (List Int)}{r2:Bool}{w:World}(cW:Kd.C k59 w aQ ai.length ai)(cX:ai.length<=aR)(h:kM.f k ag ai=some (r1,r2)):
  Calls Try.prog 22 #[.agg #[.int .i64 ag,.slice aQ ai.length aR]] w fun e w'=>∃eu:Value,e=.returned (.tuple #[eu,.bool r2])/\Kd.S (Kd.slice 3 (Kd.int .i64)) 45 w' w.heap.size (fun _=>True) eu r1/\Below w.heap.size w w':=by
 have g7:=Try.underlying31;have a7:=dm cW;have a8:=dm cX;clear cW cX;have HB:=dm (Below.refl w.heap.size w);unfold kM.f at h;have H:=h;clear h;obtain⟨aw,bJ⟩:∃y_:List (List Int),y_=(([]:List (List Int))):=⟨_,rfl⟩;replace H:((lG.f k ag ai).bind fun bp=>(if bp=true then(if ag<3 then(kM.j0 k aw true ag ai) else((nJ.f k ag ai).bind fun aN=>(if aN=1 then((mJ.f k ag ai).bind fun a2=>(kM.j0 k aw (decide ((a2.length:Int)>0)) ag ai)) else(kM.j0 k aw true ag ai)))) else(kM.j0 k aw true ag ai)))=some (r1,r2):=lC bJ H
 have cY:=dm bJ;clear bJ;have dJ:=dm H;clear H
 go_enter Try.func22,Try.ntmps22
 go_upto_region 2 with(first|((with_reducible refine ky 1 rfl ?_);(try(refine mZ (by rfl) ?_;dsimp only));refine qc 1 #[.int .i64 ag,.slice aQ ai.length aR] 31 ?_;intro aW hg w3 jS hb;have ab:=dm (jS);have gH:=dm ((by rw[hg];exact(kC (jR HB.out)):w.heap.size<=aW));have gI:=dm ((by rw[hg];exact(kC (jR HB.out)):w.heap.size<=aW));replace HB:=jX HB hb;clear hb jS hg)|((with_reducible refine ky 12 rfl ?_);(try(refine mZ (by rfl) ?_;dsimp only));refine wP (Kd.slice 3 (Kd.int .i64)) _ 45 ?hg (N:=12) ?hd (xs:=([]:List (List Int))) (inner:=[]) (ok:=fun _=>True) (okp:=fun _=>True) ?hr ?hp (fun _ hk=>hk) trivial (Below.refl _ _) (Nat.le_refl _) (by simp) ?_;(case hd=>rfl);(case hg=>rfl);(case hr=>first|(go_simp;done)|(go_simp;rfl));(case hp=>exact(kF.none _ _));intro eC w4 cA hb hg_ kV;clear hg_ kV;(first|rw[←cY.out]at cA|(simp only [Int.reduceToNat]at cA;rw[←cY.out]at cA));have aK:=dm (uh cA (kC (jR HB.out)));replace ab:=jU ab hb;replace HB:=jX HB hb;clear hb cA))
 (try simp only [Act.put,List.setIfInBounds_toArray,List.set_cons_zero,List.set_cons_succ])
 go_cut [31] (fun gj wc=>∃ (kq:Nat) (bZ:Bool),gj=.bool bZ/\jP (kM.j0 kq aw bZ ag ai=some (r1,r2))/\jP (kq<=k)/\jP (Kd.S (Kd.slice 3 (Kd.int .i64)) 45 wc w.heap.size (fun _=>True) eC aw)/\jP (wc.heap[aW]? =some (.cells #[.int .i64 ag,(.slice aQ ai.length aR)] 31 (0,0)))/\jP (Below w.heap.size w wc))
 case first=>
  have H:=dJ.out;clear dJ;obtain⟨bp,A6,H⟩:=kR H;(try dsimp only at H)
  rcases lV H with⟨h_,H_⟩|⟨h_,H_⟩<;> (subst h_;clear H;have H:=H_;clear H_)
  ·skip
   replace H:=lH H;rcases H with⟨b6,H⟩|⟨b6,H⟩
   ·(first|rw[b6]|(simp only [mh,mP];rw[b6])|skip);have H':=dm H;clear H;have⟨gl,gm,gn,gp⟩:=ko (w:=w4) ab
    go_wp2_with (first|((with_reducible refine kQ 32 rfl ?_);refine nC 14 rfl Try.func32 (lG.calls (kv (kN a7.out HB.out)) a8.out A6.out) ?_;intro gq hb;replace aK:=dm (mo (rC) hb);replace ab:=jU ab hb;replace HB:=jX HB hb;(try clear hb);have⟨fk,fm,fo,fp⟩:=ko (w:=gq) ab))
    go_meet
    case rel=>exact⟨_,(true),(ku),H',⟨by first|omega|exact Nat.le_refl _⟩,⟨rC⟩,⟨jZ ab.out⟩,⟨jR HB.out⟩⟩
   (first|rw[b6]|(simp only [mh,mP];rw[b6])|skip);obtain⟨aN,ev,H⟩:=kR H;(try dsimp only at H)
   by_cases b7:aN=1
   ·rw[if_pos b7]at H;have dX:=beq_iff_eq.mpr b7;have dY:=bne_eq_false_iff_eq.mpr b7;clear b7;obtain⟨a2,gr,H⟩:=kR H;(try dsimp only at H);have H':=dm H;clear H;have⟨fq,ft,fu,fv⟩:=ko (w:=w4) ab
    go_wp2_with (first|((with_reducible refine kQ 32 rfl ?_);refine nC 14 rfl Try.func32 (lG.calls (kv (kN a7.out HB.out)) a8.out A6.out) ?_;intro gt hb;replace aK:=dm (mo (rC) hb);replace ab:=jU ab hb;replace HB:=jX HB hb;(try clear hb);have⟨fw,fx,fy,fz⟩:=ko (w:=gt) ab)|(go_at_call 57;refine(nJ.calls (kv (kN a7.out HB.out)) a8.out ev.out).mono ?_;rintro e gu ⟨rfl,hb⟩;replace aK:=dm (mo (rC) hb);replace ab:=jU ab hb;replace HB:=jX HB hb;(try clear hb);have⟨fA,fB,fC,fD⟩:=ko (w:=gu) ab)|(go_at_call 58;refine(mJ.calls (kv (kN a7.out HB.out)) a8.out gr.out).mono ?_;rintro e iy ⟨g8,rfl,a3,hb⟩;replace aK:=dm (mo (rC) hb);have dZ:=dm (kP a3 (kC (jR HB.out)));replace ab:=jU ab hb;replace HB:=jX HB hb;(try clear hb a3);obtain⟨g9,g_,eD⟩:=kK dZ.out;subst eD))
    go_meet
    case rel=>exact⟨_,(decide ((a2.length:Int)>0)),(ku),H',⟨by first|omega|exact Nat.le_refl _⟩,⟨rC⟩,⟨jZ ab.out⟩,⟨jR HB.out⟩⟩
   rw[if_neg b7]at H;have dX:=beq_eq_false_iff_ne.mpr b7;have dY:=bne_iff_ne.mpr b7;have H':=dm H;clear H;have⟨fE,fF,fG,fH⟩:=ko (w:=w4) ab
   go_wp2_with (first|((with_reducible refine kQ 32 rfl ?_);refine nC 14 rfl Try.func32 (lG.calls (kv (kN a7.out HB.out)) a8.out A6.out) ?_;intro gv hb;replace aK:=dm (mo (rC) hb);replace ab:=jU ab hb;replace HB:=jX HB hb;(try clear hb);have⟨fI,fJ,fK,fL⟩:=ko (w:=gv) ab)|(go_at_call 57;refine(nJ.calls (kv (kN a7.out HB.out)) a8.out ev.out).mono ?_;rintro e iz ⟨rfl,hb⟩;replace aK:=dm (mo (rC) hb);replace ab:=jU ab hb;replace HB:=jX HB hb;(try clear hb)))
   go_meet
   case rel=>exact⟨_,(true),(ku),H',⟨by first|omega|exact Nat.le_refl _⟩,⟨rC⟩,⟨jZ ab.out⟩,⟨jR HB.out⟩⟩
  have H':=dm H;clear H;have⟨fM,fN,fO,fP⟩:=ko (w:=w4) ab
  go_wp2_with (first|((with_reducible refine kQ 32 rfl ?_);refine nC 14 rfl Try.func32 (lG.calls (kv (kN a7.out HB.out)) a8.out A6.out) ?_;intro iA hb;replace aK:=dm (mo (rC) hb);replace ab:=jU ab hb;replace HB:=jX HB hb;(try clear hb)))
  go_meet
  case rel=>exact⟨_,(true),(ku),H',⟨by first|omega|exact Nat.le_refl _⟩,⟨rC⟩,⟨jZ ab.out⟩,⟨jR HB.out⟩⟩
 case rest=>
  clear dJ;obtain⟨kq,bZ,rfl,HA,bm,al,ab,HB⟩:=hcut;cases kq with
  |zero=>exact absurd HA.out (by simp[kM.j0])
  |succ cD=>
   have H:=HA.out;clear HA;simp only [kM.j0]at H
   rcases lV H with⟨h_,H_⟩|⟨h_,H_⟩<;> (subst h_;clear H;have H:=H_;clear H_)
   ·simp only [Option.some.injEq,Prod.mk.injEq]at H;obtain⟨rfl,rfl⟩:=H
    go_wp2
    go_ret2
    exact⟨_,mW,by(with_reducible repeat(first|apply ny|apply nz|apply mE));exact al.out,jR HB.out⟩
   obtain⟨⟨bq,br⟩,gw,H⟩:=kR H;(try dsimp only at H);obtain⟨dK,bK⟩:∃y_:List Int,y_=(([0]:List Int)):=⟨_,rfl⟩;replace H:(kM.l0 cD aw dK ag ai bq br)=some (r1,r2):=lC bK H
   have cZ:=dm bK;clear bK;have H':=dm H;clear H;have⟨dv,dw,dx,dy⟩:=ko (w:=wc) ab
   go_wp2_with (first|((with_reducible refine kQ 59 rfl ?_);refine lL 34 rfl Try.func59 (pQ.calls (kv (kN a7.out HB.out)) a8.out gw.out) ?_;rintro e iB ⟨hD,rfl,a3,hb⟩;refine⟨_,rfl,?_⟩;replace al:=dm (mo (lU) hb);have a9:=dm (kP a3 (kC (jR HB.out)));replace ab:=jU ab hb;replace HB:=jX HB hb;(try clear hb a3))|((with_reducible refine ky 5 rfl ?_);(try(refine mZ (by rfl) ?_;dsimp only));refine qc 5 #[.int .i64 0,.slice none 0 0] 31 ?_;intro au hg gx jS hb;replace al:=dm (mo (lU) hb);replace a9:=kD a9 hb;have ae:=dm (jS);have gJ:=dm ((by rw[hg];exact(kC (jR HB.out)):w.heap.size<=au));have gK:=dm ((by rw[hg];exact(kC (jR HB.out)):w.heap.size<=au));replace HB:=jX HB hb;have aC:=dm ((by rw[hg];exact Nat.ne_of_lt (lq (g:=aW) (o:=.cells #[.int .i64 ag,.slice aQ ai.length aR] 31 (0,0)) (jZ ab.out)):aW≠au));have aG:=dm ((by rw[hg];exact Nat.ne_of_gt (lq (g:=aW) (o:=.cells #[.int .i64 ag,.slice aQ ai.length aR] 31 (0,0)) (jZ ab.out)):au≠aW));replace ab:=jU ab hb;clear hb jS hg;have gM:=aG.out;have gN:=aC.out;have⟨dz,dA,dB,dC⟩:=ko (w:=gx) ae;obtain⟨cl,cm,eE⟩:=kK a9.out;subst eE)|((with_reducible refine ky 35 rfl ?_);(try(refine mZ (by rfl) ?_;dsimp only));refine og (Kd.int .i64) rfl 3 ([0]:List Int) [.int .i64 0] (kF.one (show Kd.M (Kd.int .i64) _ _ _ 0 [.int .i64 0] from rfl) (kF.none _ _)) ?_;intro hJ iC bV hb hg_ kV;clear hg_ kV;(first|rw[←cZ.out]at bV|(simp only [Int.reduceToNat]at bV;rw[←cZ.out]at bV));replace al:=dm (qD (by(with_reducible repeat(first|apply ny|apply nz|apply mE));exact(nW (rJ (p:=⟨au,1,none⟩) (rJ (p:=⟨au,0,none⟩) (vv al.out ae.out (kW)) (fun _ hk=>hk.2) (.int .i64 bq)) (fun _ hk=>hk.2) (.slice cl br.length cm)) (fun _ h_=>h_.1))) (pR bV) hb);replace a9:=dm (o7 (by(with_reducible repeat(first|apply kI|apply kJ|apply kw));exact(kz (lh (p:=⟨au,1,none⟩) (lh (p:=⟨au,0,none⟩) (mr a9.out ae.out (kW)) (fun _ hk=>hk.2) (.int .i64 bq)) (fun _ hk=>hk.2) (.slice cl br.length cm)) (fun _ h_=>h_.1))) hb);have d7:=dm (kP bV (kC (jR HB.out)));replace ab:=dm (nD (g:=aW) (o:=.cells #[.int .i64 ag,.slice aQ ai.length aR] 31 (0,0)) (B_) hb);replace ae:=dm (nD (g:=au) (o:=.cells #[.int .i64 bq,.slice cl br.length cm] 31 (0,0)) (lI ae.out) hb);replace HB:=jX HB hb;clear hb bV))
   go_loopg [4,6] cD (fun kq v4 v6 w'=>∃ (aq:List (List Int)) (aD:List Int) (ah:Int) (ac:List (S59)) (bW:Value),jP (kM.l0 kq aq aD ag ai ah ac=some (r1,r2))/\jP (kq<=cD)/\jP (Kd.S (Kd.slice 3 (Kd.int .i64)) 45 w' w.heap.size (fun k_=>some k_≠(v6:Value).ownBlock) v4 aq)/\jP (Kd.R (Kd.int .i64) 3 w' w.heap.size (fun _=>True) v6 aD)/\jP (Kd.R k59 59 w' w.heap.size (fun _=>True) bW ac)/\jP (w'.heap[aW]? =some (.cells #[.int .i64 ag,(.slice aQ ai.length aR)] 31 (0,0)))/\jP (w'.heap[au]? =some (.cells #[.int .i64 ah,bW] 31 (0,0)))/\jP (Below w.heap.size w w'))
   case atStart=>exact⟨(aw),(dK),(bq),(br),(.slice cl br.length cm),H',⟨Nat.le_refl _⟩,⟨by(with_reducible repeat(first|apply ny|apply nz|apply mE));exact nW al.out (fun _ hk=>hk.2)⟩,⟨jV d7.out⟩,⟨jV a9.out⟩,⟨jZ ab.out⟩,⟨jZ ae.out⟩,⟨jR HB.out⟩⟩
   case round=>
    clear H';(try clear cE dv dw dz dA dx dy dB dC);obtain⟨aq,aD,ah,ac,bW,HA,bn,al,aj,aa,ab,ae,HB⟩:=hrel;cases gk with
    |zero=>exact absurd HA.out (by simp[kM.l0])
    |succ k2=>
     have H:=HA.out;clear HA;simp only [kM.l0]at H
     by_cases b9:(ac.length:Int)>0;rotate_left
     ·rw[if_neg b9]at H;have cn:=decide_eq_false b9;have co:decide (0<ac.length)=false:=decide_eq_false (by omega);clear b9;simp only [Option.some.injEq,Prod.mk.injEq]at H;obtain⟨rfl,rfl⟩:=H;have gF:=aG.out;have gG:=aC.out;have⟨fg,fh,fi,fj⟩:=ko (w:=wr) ae;obtain⟨g5,g6,et⟩:=kK aa.out;subst et
      go_wp2
      go_ret2
      exact⟨_,mW,by(with_reducible repeat(first|apply ny|apply nz|apply mE));exact nW al.out (fun _ hk=>trivial),jR HB.out⟩
     rw[if_pos b9]at H;have cn:=decide_eq_true b9;have co:decide (0<ac.length)=true:=decide_eq_true (by omega);clear b9;have cG:=dm H;clear H;have gO:=aG.out;have gP:=aC.out;have⟨b_,ca,cd,ce⟩:=ko (w:=wr) ae;obtain⟨aT,aU,eF⟩:=kK aa.out;subst eF
     go_upto_block 2 with(fail)
     go_cut [7] (fun v7 wc=>∃ (kq:Nat) (bk:Int),v7=.int .i64 bk/\jP (kM.j3 kq aq aD bk ag ai ah ac=some (r1,r2))/\jP (kq<=k2)/\jP (Kd.S (Kd.slice 3 (Kd.int .i64)) 45 wc w.heap.size (fun k_=>some k_≠(u6:Value).ownBlock) u4 aq)/\jP (Kd.R (Kd.int .i64) 3 wc w.heap.size (fun _=>True) u6 aD)/\jP (Kd.R k59 59 wc w.heap.size (fun _=>True) (.slice aT ac.length aU) ac)/\jP (wc.heap[aW]? =some (.cells #[.int .i64 ag,(.slice aQ ai.length aR)] 31 (0,0)))/\jP (wc.heap[au]? =some (.cells #[.int .i64 ah,(.slice aT ac.length aU)] 31 (0,0)))/\jP (Below w.heap.size w wc))
     case first=>
      have H:=cG.out;clear cG;have H':=dm H;clear H
      go_wp2
      go_loopg [7] k2 (fun kq v7 w'=>∃ (aE:Int),v7=.int .i64 aE/\jP (kM.l1 kq aq aD aE ag ai ah ac=some (r1,r2))/\jP (kq<=k2)/\jP (Kd.S (Kd.slice 3 (Kd.int .i64)) 45 w' w.heap.size (fun k_=>some k_≠(u6:Value).ownBlock) u4 aq)/\jP (Kd.R (Kd.int .i64) 3 w' w.heap.size (fun _=>True) u6 aD)/\jP (Kd.R k59 59 w' w.heap.size (fun _=>True) (.slice aT ac.length aU) ac)/\jP (w'.heap[aW]? =some (.cells #[.int .i64 ag,(.slice aQ ai.length aR)] 31 (0,0)))/\jP (w'.heap[au]? =some (.cells #[.int .i64 ah,(.slice aT ac.length aU)] 31 (0,0)))/\jP (Below w.heap.size w w'))
      case atStart=>exact⟨(0),(ku),H',⟨Nat.le_refl _⟩,⟨lU⟩,⟨jV aj.out⟩,⟨jV aa.out⟩,⟨jZ ab.out⟩,⟨jZ ae.out⟩,⟨jR HB.out⟩⟩
      case round=>
       clear H';(try clear cn co b_ ca cd ce);obtain⟨aE,rfl,HA,cf,al,aj,aa,ab,ae,HB⟩:=hrel;cases gk with
       |zero=>exact absurd HA.out (by simp[kM.l1])
       |succ k3=>
        have H:=HA.out;clear HA;simp only [kM.l1]at H
        replace H:=lH H;rcases H with⟨bL,H⟩|⟨bL,H⟩
        ·(first|rw[bL]|(simp only [mh,mP];rw[bL])|skip);obtain⟨ck,dL,H⟩:=kR H;(try dsimp only at H)
         rcases lV H with⟨h_,H_⟩|⟨h_,H_⟩<;> (subst h_;clear H;have H:=H_;clear H_)
         ·obtain⟨bo,ew,H⟩:=kR H;(try dsimp only at H)
          rcases lV H with⟨h_,H_⟩|⟨h_,H_⟩<;> (subst h_;clear H;have H:=H_;clear H_)
          ·have H':=dm H;clear H;have gQ:=aC.out;have gR:=aG.out;have⟨fQ,fR,fS,fT⟩:=ko (w:=wr) ab;obtain⟨hU,hV,eG⟩:=kK aj.out;subst eG
           go_wp2_with (first|(go_at_call 47;refine(ni.calls (kv (kr aj.out).2.2) ((kr aj.out).2.1) dL.out).mono ?_;rintro e w' ⟨rfl,⟨nd,rfl⟩⟩;have⟨fU,fV,fW,fX⟩:=ko (w:=wr) ae)|(go_at_call 60;refine(tX.calls (kv (kr aa.out).2.2) ((kr aa.out).2.1) ew.out).mono ?_;rintro e iD ⟨rfl,hb⟩;replace al:=dm (mo (lU) hb);replace aj:=kD aj hb;replace aa:=kD aa hb;replace ab:=jU ab hb;replace ae:=jU ae hb;replace HB:=jX HB hb;(try clear hb)))
           go_roundg k3
           case measure=>have:=bm.out;have:=bn.out;have:=cf.out;omega
           case rel=>exact⟨(wrap64 (aE+1)),(ku),H',⟨by have:=bm.out;have:=bn.out;have:=cf.out;omega⟩,⟨lU⟩,⟨jV aj.out⟩,⟨jV aa.out⟩,⟨jZ ab.out⟩,⟨jZ ae.out⟩,⟨jR HB.out⟩⟩
          have H':=dm H;clear H;have gS:=aC.out;have gT:=aG.out;have⟨fY,fZ,f2,f3⟩:=ko (w:=wr) ab;obtain⟨hX,hY,eH⟩:=kK aj.out;subst eH
          go_wp2_with (first|(go_at_call 47;refine(ni.calls (kv (kr aj.out).2.2) ((kr aj.out).2.1) dL.out).mono ?_;rintro e w' ⟨rfl,⟨nd,rfl⟩⟩;have⟨f4,f5,f6,f7⟩:=ko (w:=wr) ae)|(go_at_call 60;refine(tX.calls (kv (kr aa.out).2.2) ((kr aa.out).2.1) ew.out).mono ?_;rintro e iE ⟨rfl,hb⟩;replace al:=dm (mo (lU) hb);replace aj:=kD aj hb;replace aa:=kD aa hb;replace ab:=jU ab hb;replace ae:=jU ae hb;replace HB:=jX HB hb;(try clear hb)))
          go_meet
          case rel=>exact⟨_,(aE),(ku),H',⟨by have:=bm.out;have:=bn.out;have:=cf.out;first|omega|exact Nat.le_refl _⟩,⟨lU⟩,⟨jV aj.out⟩,⟨jV aa.out⟩,⟨jZ ab.out⟩,⟨jZ ae.out⟩,⟨jR HB.out⟩⟩
         have H':=dm H;clear H;have gU:=aC.out;have gV:=aG.out;have⟨f8,f9,f_,ga⟩:=ko (w:=wr) ab;obtain⟨hZ,ia,eI⟩:=kK aj.out;subst eI
         go_wp2_with (first|(go_at_call 47;refine(ni.calls (kv (kr aj.out).2.2) ((kr aj.out).2.1) dL.out).mono ?_;rintro e w' ⟨rfl,⟨nd,rfl⟩⟩))
         go_roundg k3
         case measure=>have:=bm.out;have:=bn.out;have:=cf.out;omega
         case rel=>exact⟨(wrap64 (aE+1)),(ku),H',⟨by have:=bm.out;have:=bn.out;have:=cf.out;omega⟩,⟨lU⟩,⟨jV aj.out⟩,⟨jV aa.out⟩,⟨jZ ab.out⟩,⟨jZ ae.out⟩,⟨jR HB.out⟩⟩
        (first|rw[bL]|(simp only [mh,mP];rw[bL])|skip);have H':=dm H;clear H;have gW:=aC.out;have gX:=aG.out;have⟨gb,gc,ge,gf⟩:=ko (w:=wr) ab
        go_wp2
        go_meet
        case rel=>exact⟨_,(aE),(ku),H',⟨by have:=bm.out;have:=bn.out;have:=cf.out;first|omega|exact Nat.le_refl _⟩,⟨lU⟩,⟨jV aj.out⟩,⟨jV aa.out⟩,⟨jZ ab.out⟩,⟨jZ ae.out⟩,⟨jR HB.out⟩⟩
     case rest=>
      clear cG;(try clear cn co b_ ca cd ce);obtain⟨kq,bk,rfl,HA,bU,al,aj,aa,ab,ae,HB⟩:=hcut;cases kq with
      |zero=>exact absurd HA.out (by simp[kM.j3])
      |succ bx=>
       have H:=HA.out;clear HA;simp only [kM.j3]at H;obtain⟨⟨ak,dM⟩,ex,H⟩:=kR H;(try dsimp only at H)
       rcases lV H with⟨h_,H_⟩|⟨h_,H_⟩<;> (subst h_;clear H;have H:=H_;clear H_)
       ·obtain⟨dN,bM⟩:∃y_:List (S59),y_=(([]:List (S59))):=⟨_,rfl⟩;replace H:(kM.l2 bx aq aD ak dN 0 ag ai ah ac)=some (r1,r2):=lC bM H
        have dc:=dm bM;clear bM;have H':=dm H;clear H;have gY:=aG.out;have gZ:=aC.out;have⟨dD,dE,dF,dG⟩:=ko (w:=wc) ae;obtain⟨eJ,eK,eL⟩:=kK aj.out;subst eL
        go_wp2_with (first|((with_reducible refine kQ 61 rfl ?_);refine lL 61 rfl Try.func61 (lM.calls (kv (kr aa.out).2.2) ((kr aa.out).2.1) (kv (kr aj.out).2.2) ((kr aj.out).2.1) ex.out) ?_;rintro e iF ⟨cp,rfl,a3,hb⟩;refine⟨_,rfl,?_⟩;replace al:=dm (qD (lU) (pR a3) hb);replace aa:=kD aa hb;have a6:=dm (kP (lF a3 (kT (jV aj.out))) (kC (jR HB.out)));replace aj:=lK aj a3 hb;replace ab:=jU ab hb;replace ae:=jU ae hb;replace HB:=jX HB hb;(try clear hb a3))|((with_reducible refine ky 67 rfl ?_);(try(refine mZ (by rfl) ?_;dsimp only));refine og k59 rfl 59 ([]:List (S59)) [] (kF.none _ _) ?_;intro ib iG bX hb hg_ kV;clear hg_ kV;(first|rw[←dc.out]at bX|(simp only [Int.reduceToNat]at bX;rw[←dc.out]at bX));replace al:=dm (mo (lU) hb);replace aj:=kD aj hb;replace a6:=kD a6 hb;have d8:=dm (kP (lF bX (kT (jV aa.out))) (kC (jR HB.out)));replace aa:=lK aa bX hb;replace ab:=jU ab hb;replace ae:=jU ae hb;replace HB:=jX HB hb;clear hb bX))
        go_loopg [6,10,11] bx (fun kq v6 ey gy w'=>∃ (ap:List Int) (az:List (S59)) (af:Int),gy=.int .i64 af/\jP (kM.l2 kq aq ap ak az af ag ai ah ac=some (r1,r2))/\jP (kq<=bx)/\jP (Kd.S (Kd.slice 3 (Kd.int .i64)) 45 w' w.heap.size (fun k_=>some k_≠(v6:Value).ownBlock/\some k_≠(cp:Value).ownBlock) u4 aq)/\jP (Kd.R (Kd.int .i64) 3 w' w.heap.size (fun k_=>some k_≠(cp:Value).ownBlock) v6 ap)/\jP (Kd.R (Kd.int .i64) 3 w' w.heap.size (fun k_=>some k_≠(v6:Value).ownBlock) cp ak)/\jP (Kd.R k59 59 w' w.heap.size (fun k_=>some k_≠((.slice aT ac.length aU):Value).ownBlock) ey az)/\jP (Kd.R k59 59 w' w.heap.size (fun k_=>some k_≠(ey:Value).ownBlock) (.slice aT ac.length aU) ac)/\jP (w'.heap[aW]? =some (.cells #[.int .i64 ag,(.slice aQ ai.length aR)] 31 (0,0)))/\jP (w'.heap[au]? =some (.cells #[.int .i64 ah,(.slice aT ac.length aU)] 31 (0,0)))/\jP (Below w.heap.size w w'))
        case atStart=>exact⟨(aD),(dN),(0),(ku),H',⟨Nat.le_refl _⟩,⟨lU⟩,⟨by(with_reducible repeat(first|apply kI|apply kJ|apply kw));exact kz aj.out (fun _ hk=>hk.2)⟩,⟨by(with_reducible repeat(first|apply kI|apply kJ|apply kw));exact kz a6.out (fun _ hk=>hk.2)⟩,⟨by(with_reducible repeat(first|apply kI|apply kJ|apply kw));exact kz d8.out (fun _ hk=>hk.2)⟩,⟨uk⟩,⟨jZ ab.out⟩,⟨jZ ae.out⟩,⟨jR HB.out⟩⟩
        case round=>
         clear H';(try clear cF dD dE dF dG);obtain⟨ap,az,af,rfl,HA,b8,al,aj,ao,am,aa,ab,ae,HB⟩:=hrel;cases gk with
         |zero=>exact absurd HA.out (by simp[kM.l2])
         |succ k4=>
          have H:=HA.out;clear HA;simp only [kM.l2]at H
          replace H:=lH H;rcases H with⟨d9,H⟩|⟨d9,H⟩
          ·skip
           replace H:=lH H;rcases H with⟨d_,H⟩|⟨d_,H⟩
           ·obtain⟨aI,bY⟩:∃j_:Int,(wrap64 (af - 1))=j_:=⟨_,rfl⟩;replace H:(if 0<=(aI) then(if(aI)<(ak.length:Int) then(if 0<=af then((qA.f (rd ak (aI)) (rd ak af)).bind fun bI=>(if az.length<8796093022208 then((some (az++[(⟨bI.1,bI.2⟩:S59)]:List (S59))).bind fun aM=>((ni.f k4 ap (rd ak af)).bind fun ba=>(if ba=true then(kM.l2 k4 aq ap ak aM (wrap64 (af+1)) ag ai ah ac) else(if ap.length<17592186044416 then(kM.l2 k4 aq (ap++[rd ak af]) ak aM (wrap64 (af+1)) ag ai ah ac) else(none))))) else(none))) else(none)) else(none)) else(none))=some (r1,r2):=by first|(rw[bY]at H;exact H)|(simp only [bY]at H⊢;exact H)
            have gz:(IntKind.i64.wrap (af - 1))=aI:=(mh _).trans bY
            obtain⟨g0,H⟩:=kX H
            obtain⟨g2,H⟩:=kX H
            obtain⟨g3,H⟩:=kX H;obtain⟨⟨bd,bf⟩,ez,H⟩:=kR H;(try dsimp only at H)
            obtain⟨dg,H⟩:=mH H;have dh:=dm dg;clear dg;obtain⟨aM,bN⟩:∃y_:List (S59),y_=(az++[(⟨bd,bf⟩:S59)]):=⟨_,rfl⟩;replace H:((ni.f k4 ap (rd ak af)).bind fun ba=>(if ba=true then(kM.l2 k4 aq ap ak aM (wrap64 (af+1)) ag ai ah ac) else(if ap.length<17592186044416 then(kM.l2 k4 aq (ap++[rd ak af]) ak aM (wrap64 (af+1)) ag ai ah ac) else(none))))=some (r1,r2):=lC bN H
            have di:=dm bN;clear bN;obtain⟨ba,eA,H⟩:=kR H;(try dsimp only at H)
            rcases lV H with⟨h_,H_⟩|⟨h_,H_⟩<;> (subst h_;clear H;have H:=H_;clear H_)
            ·have H':=dm H;clear H;obtain⟨ic,ie,eM⟩:=kK ao.out;subst eM;try go_wp2
             replace al:=dm (mE al.out);replace aj:=dm (kw aj.out);replace ao:=dm (kw ao.out);replace am:=dm (kw am.out);replace aa:=dm (kw aa.out);replace ab:=dm (kU ab.out);replace ae:=dm (kU ae.out);replace HB:=dm (mg HB.out);have bz:0<=((aI):Int):=jT;have bA:(aI)<(ak.length:Int):=jT;obtain⟨aX,cH,bh⟩:=kZ (kr ao.out).2.2 (aI) bz bA;cases cH;replace bz:=eq_true bz;replace bA:=eq_true bA;have bB:0<=(af:Int):=jT;have bC:af<(ak.length:Int):=jT;obtain⟨cq,cI,bj⟩:=kZ (kr ao.out).2.2 af bB bC;obtain rfl:aX=cq:=(by injection cI);replace bB:=eq_true bB;replace bC:=eq_true bC;refine nk 14 (S:=fun w'=>w'.cell? (aX.add ((aI)).toNat)=some (.int .i64 (rd ak (aI)))/\w'.cell? (aX.add (af).toNat)=some (.int .i64 (rd ak af))) [11,12] ⟨bh,bj⟩ kM.Ea kM.AO (fun hHeld HT_ HW_=>?_);generalize wr.drew=iH at al aj ao am aa ab ae HB bh bj hHeld⊢;refine jW 0 76 1 ?_;refine jW 1 77 3 ?_;refine jW 2 78 7 ?_;refine jW 3 79 15 ?_;refine jW 4 80 31 ?_;refine jW 6 82 95 ?_;refine jW 7 83 223 ?_;refine jW 8 84 479 ?_;refine kL 5 81 511 ?_;refine kL 9 85 1023 ?_;refine l6 10 86 2047 (fun K hK=>?_);refine qd Try.func46 (lg) rfl #[.int .i64 (rd ak (aI)),.int .i64 (rd ak af)] (by rfl) rfl rfl (Ca) ?_;refine(qA.calls ez.out).mono ?_;rintro e iI ⟨rfl,hb⟩;have cJ:=(hb.cell (World.block_lt_of_cell? _ _ (hHeld.1))).trans (hHeld.1);have cL:=(hb.cell (World.block_lt_of_cell? _ _ (hHeld.2))).trans (hHeld.2);refine⟨_,rfl,?_⟩;replace al:=dm (mo (lU) hb);replace aj:=kD aj hb;replace ao:=kD ao hb;replace am:=kD am hb;replace aa:=kD aa hb;replace ab:=jU ab hb;replace ae:=jU ae hb;replace HB:=jX HB hb;(try clear hb gA hk hi);refine hK.out _ _ ⟨cJ,cL⟩ (fun hHeld=>?_);clear hK K;refine ll 86 ?_;refine uq 11 (some 87) (lJ 14 4095) (fun K hK=>?_);refine xN (w1:= ?_) (v:= ?_) (by rfl) rfl ?_ ?_;rotate_left 2
             ·go_simp
              constructor
              ·rfl
              rfl
             refine hK.out _ _ ?_;clear hK K;refine ll 87 ?_;refine uq 12 (some 88) (lJ 14 8191) (fun K hK=>?_);refine wJ k59 (w0:=w) w.heap.size (by rfl) (.tmp 76) (.tmp 87) 29 59 (.agg #[(.int .i64 0),(.int .i64 0)]) 16 rfl Try.underlying29 sH rfl (kW) (by omega) u10 az (⟨bd,bf⟩:S59) [.int .i64 bd,.int .i64 bf] (fun k_=>some k_≠(.slice aT ac.length aU:Value).ownBlock) (fun _=>False) rfl rfl ?aP (fun _ hk=>hk.elim) ?aF ?aO ?aB ?aS ?aL ?_;(case aP=>exact qg _ _ _ (⟨bd,bf⟩:S59));(case aB=>exact(jR HB.out));(case aF=>exact(fun k_ hk=>Kd.fresh' (kT (jV aa.out)) k_ hk));(case aO=>exact(jV am.out));(case aS=>exact(kC (jR HB.out)));(case aL=>have:=dh.out;omega);intro eN iJ ho hb hg hat;rw[←di.out]at ho;have n0:=dm (wS (lU) (nV (jV am.out)) (kW) hg);have n1:=dm (nU (jV aj.out) (nV (jV am.out)) (kW) hg);have n2:=dm (nU (jV ao.out) (nV (jV am.out)) (kW) hg);have n3:=dm (nP (ok:=(fun _=>True)) (Cb) hg hat);have n4:=lY ab hg (lS am.out ab.out (kW));have n5:=lY ae hg (lS am.out ae.out (kW));have n6:=dm (hb);have n7:=dm (ho);clear al aj ao aa ab ae HB am;revert n0 n1 n2 n3 n4 n5 n6 n7;intro al aj ao aa ab ae HB bu;clear ho hb hg hat;refine hK.out _ _ ?_;clear hK K;refine ll 88 ?_;refine jW 13 10 16383 ?_;refine mD (mV HT_.out (lg)) ?_;have bD:0<=(af:Int):=jT;have bE:af<(ak.length:Int):=jT;obtain⟨cr,cM,dH⟩:=kZ (kr ao.out).2.2 af bD bE;obtain rfl:aX=cr:=(by injection cM);replace bD:=eq_true bD;replace bE:=eq_true bE;obtain⟨eO,eP,eQ⟩:=kK aj.out;subst eQ;try go_wp2_with (first|((with_reducible refine kQ 47 rfl ?_);refine lL 94 rfl Try.func47 (ni.calls (kv (kr aj.out).2.2) ((kr aj.out).2.1) eA.out) ?_;rintro e w' ⟨rfl,⟨nd,rfl⟩⟩;refine⟨_,rfl,?_⟩))
             go_roundg k4
             case measure=>have:=bm.out;have:=bn.out;have:=bU.out;have:=b8.out;omega
             case rel=>exact⟨(ap),(aM),(wrap64 (af+1)),(ku),H',⟨vJ⟩,⟨lU⟩,⟨jV aj.out⟩,⟨jV ao.out⟩,⟨jV bu.out⟩,⟨uk⟩,⟨jZ ab.out⟩,⟨jZ ae.out⟩,⟨jR HB.out⟩⟩
            skip
            obtain⟨dk,H⟩:=mH H;have ea:=dm dk;clear dk;obtain⟨dO,bO⟩:∃y_:List Int,y_=(ap++[rd ak af]):=⟨_,rfl⟩;replace H:(kM.l2 k4 aq dO ak aM (wrap64 (af+1)) ag ai ah ac)=some (r1,r2):=lC bO H
            have eb:=dm bO;clear bO;have H':=dm H;clear H;obtain⟨ig,dP,eR⟩:=kK ao.out;subst eR;try go_wp2
            replace al:=dm (mE al.out);replace aj:=dm (kw aj.out);replace ao:=dm (kw ao.out);replace am:=dm (kw am.out);replace aa:=dm (kw aa.out);replace ab:=dm (kU ab.out);replace ae:=dm (kU ae.out);replace HB:=dm (mg HB.out);have bz:0<=((aI):Int):=jT;have bA:(aI)<(ak.length:Int):=jT;obtain⟨aX,cH,bh⟩:=kZ (kr ao.out).2.2 (aI) bz bA;cases cH;replace bz:=eq_true bz;replace bA:=eq_true bA;have bB:0<=(af:Int):=jT;have bC:af<(ak.length:Int):=jT;obtain⟨cq,cI,bj⟩:=kZ (kr ao.out).2.2 af bB bC;obtain rfl:aX=cq:=(by injection cI);replace bB:=eq_true bB;replace bC:=eq_true bC;refine nk 14 (S:=fun w'=>w'.cell? (aX.add ((aI)).toNat)=some (.int .i64 (rd ak (aI)))/\w'.cell? (aX.add (af).toNat)=some (.int .i64 (rd ak af))) [11,12] ⟨bh,bj⟩ kM.Ea kM.AO (fun hHeld HT_ HW_=>?_);generalize wr.drew=iK at al aj ao am aa ab ae HB bh bj hHeld⊢;refine jW 0 76 1 ?_;refine jW 1 77 3 ?_;refine jW 2 78 7 ?_;refine jW 3 79 15 ?_;refine jW 4 80 31 ?_;refine jW 6 82 95 ?_;refine jW 7 83 223 ?_;refine jW 8 84 479 ?_;refine kL 5 81 511 ?_;refine kL 9 85 1023 ?_;refine l6 10 86 2047 (fun K hK=>?_);refine qd Try.func46 (lg) rfl #[.int .i64 (rd ak (aI)),.int .i64 (rd ak af)] (by rfl) rfl rfl (Ca) ?_;refine(qA.calls ez.out).mono ?_;rintro e iL ⟨rfl,hb⟩;have cJ:=(hb.cell (World.block_lt_of_cell? _ _ (hHeld.1))).trans (hHeld.1);have cL:=(hb.cell (World.block_lt_of_cell? _ _ (hHeld.2))).trans (hHeld.2);refine⟨_,rfl,?_⟩;replace al:=dm (mo (lU) hb);replace aj:=kD aj hb;replace ao:=kD ao hb;replace am:=kD am hb;replace aa:=kD aa hb;replace ab:=jU ab hb;replace ae:=jU ae hb;replace HB:=jX HB hb;(try clear hb gA hk hi);refine hK.out _ _ ⟨cJ,cL⟩ (fun hHeld=>?_);clear hK K;refine ll 86 ?_;refine uq 11 (some 87) (lJ 14 4095) (fun K hK=>?_);refine xN (w1:= ?_) (v:= ?_) (by rfl) rfl ?_ ?_;rotate_left 2
            ·go_simp
             constructor
             ·rfl
             rfl
            refine hK.out _ _ ?_;clear hK K;refine ll 87 ?_;refine uq 12 (some 88) (lJ 14 8191) (fun K hK=>?_);refine wJ k59 (w0:=w) w.heap.size (by rfl) (.tmp 76) (.tmp 87) 29 59 (.agg #[(.int .i64 0),(.int .i64 0)]) 16 rfl Try.underlying29 sH rfl (kW) (by omega) u10 az (⟨bd,bf⟩:S59) [.int .i64 bd,.int .i64 bf] (fun k_=>some k_≠(.slice aT ac.length aU:Value).ownBlock) (fun _=>False) rfl rfl ?aP (fun _ hk=>hk.elim) ?aF ?aO ?aB ?aS ?aL ?_;(case aP=>exact qg _ _ _ (⟨bd,bf⟩:S59));(case aB=>exact(jR HB.out));(case aF=>exact(fun k_ hk=>Kd.fresh' (kT (jV aa.out)) k_ hk));(case aO=>exact(jV am.out));(case aS=>exact(kC (jR HB.out)));(case aL=>have:=dh.out;omega);intro eN iM ho hb hg hat;rw[←di.out]at ho;have n0:=dm (wS (lU) (nV (jV am.out)) (kW) hg);have n1:=dm (nU (jV aj.out) (nV (jV am.out)) (kW) hg);have n2:=dm (nU (jV ao.out) (nV (jV am.out)) (kW) hg);have n3:=dm (nP (ok:=(fun _=>True)) (Cb) hg hat);have n4:=lY ab hg (lS am.out ab.out (kW));have n5:=lY ae hg (lS am.out ae.out (kW));have n6:=dm (hb);have n7:=dm (ho);clear al aj ao aa ab ae HB am;revert n0 n1 n2 n3 n4 n5 n6 n7;intro al aj ao aa ab ae HB bu;clear ho hb hg hat;refine hK.out _ _ ?_;clear hK K;refine ll 88 ?_;refine jW 13 10 16383 ?_;refine mD (mV HT_.out (lg)) ?_;have bD:0<=(af:Int):=jT;have bE:af<(ak.length:Int):=jT;obtain⟨cr,cM,dH⟩:=kZ (kr ao.out).2.2 af bD bE;obtain rfl:aX=cr:=(by injection cM);replace bD:=eq_true bD;replace bE:=eq_true bE;obtain⟨dQ,dR,eS⟩:=kK aj.out;subst eS;try go_wp2_with (first|((with_reducible refine kQ 47 rfl ?_);refine lL 94 rfl Try.func47 (ni.calls (kv (kr aj.out).2.2) ((kr aj.out).2.1) eA.out) ?_;rintro e w' ⟨rfl,⟨nd,rfl⟩⟩;refine⟨_,rfl,?_⟩;have cN:0<=(af:Int):=jT;have cO:af<(ak.length:Int):=jT;obtain⟨ec,eT,gg⟩:=kZ (kr ao.out).2.2 af cN cO;obtain rfl:aX=ec:=(by injection eT);replace cN:=eq_true cN;replace cO:=eq_true cO)|((with_reducible refine oh (b:=.append) (xs:= #[.tmp 96,.tmp 101]) rfl ?_);(try(refine mZ (by rfl) ?_;dsimp only));at_builtin;refine pg (Kd.int .i64) (w0:=w) w.heap.size rfl (.tmp 96) (.tmp 101) 45 3 (.int .i64 0) 8 rfl Try.underlying45 info3 rfl (kW) (by omega) (.slice dQ ap.length dR) ap (rd ak af) [.int .i64 (rd ak af)] (fun k_=>some k_≠(.slice (some aX) ak.length dP:Value).ownBlock) (fun _=>False) rfl rfl ?aP (fun _ hk=>hk.elim) ?aF ?aO ?aB ?aS ?aL ?_;(case aP=>exact rfl);(case aB=>exact(jR HB.out));(case aF=>exact(fun k_ hk=>Kd.fresh' (kT (jV ao.out)) k_ hk));(case aO=>exact(jV aj.out));(case aS=>exact(kC (jR HB.out)));(case aL=>have:=ea.out;omega);intro ii iN ho hb hg hat;rw[←eb.out]at ho;have n0:=dm (yg (ok:=(fun k_=>some k_≠(.slice (some aX) ak.length dP:Value).ownBlock)) (sF) hg hat);have n1:=dm (nP (ok:=(fun _=>True)) (Cc) hg hat);have n2:=dm (nU (jV aa.out) (nV (jV aj.out)) (kW) hg);have n3:=lY ab hg (lS aj.out ab.out (kW));have n4:=lY ae hg (lS aj.out ae.out (kW));have n5:=dm (nU (jV bu.out) (nV (jV aj.out)) (kW) hg);have n6:=dm (hb);have n7:=dm (ho);clear al ao aa ab ae bu HB aj;revert n0 n1 n2 n3 n4 n5 n6 n7;intro al ao aa ab ae bu HB ed;clear ho hb hg hat))
            go_roundg k4
            case measure=>have:=bm.out;have:=bn.out;have:=bU.out;have:=b8.out;omega
            case rel=>exact⟨(dO),(aM),(wrap64 (af+1)),(ku),H',⟨vJ⟩,⟨sF⟩,⟨jV ed.out⟩,⟨BA⟩,⟨jV bu.out⟩,⟨uk⟩,⟨jZ ab.out⟩,⟨jZ ae.out⟩,⟨jR HB.out⟩⟩
           skip
           obtain⟨g4,H⟩:=kX H;obtain⟨cj,eB,H⟩:=kR H;(try dsimp only at H)
           rcases lV H with⟨h_,H_⟩|⟨h_,H_⟩<;> (subst h_;clear H;have H:=H_;clear H_)
           ·have H':=dm H;clear H;obtain⟨ij,ik,eU⟩:=kK ao.out;subst eU;have bF:0<=(af:Int):=jT;have bG:af<(ak.length:Int):=jT;obtain⟨b3,cP,dI⟩:=kZ (kr ao.out).2.2 af bF bG;cases cP;replace bF:=eq_true bF;replace bG:=eq_true bG;obtain⟨eV,eW,eX⟩:=kK aj.out;subst eX
            go_wp2_with (first|((with_reducible refine kQ 47 rfl ?_);refine lL 94 rfl Try.func47 (ni.calls (kv (kr aj.out).2.2) ((kr aj.out).2.1) eB.out) ?_;rintro e w' ⟨rfl,⟨nd,rfl⟩⟩;refine⟨_,rfl,?_⟩))
            go_roundg k4
            case measure=>have:=bm.out;have:=bn.out;have:=bU.out;have:=b8.out;omega
            case rel=>exact⟨(ap),(az),(wrap64 (af+1)),(ku),H',⟨vJ⟩,⟨lU⟩,⟨jV aj.out⟩,⟨jV ao.out⟩,⟨jV am.out⟩,⟨jV aa.out⟩,⟨jZ ab.out⟩,⟨jZ ae.out⟩,⟨jR HB.out⟩⟩
           skip
           obtain⟨dq,H⟩:=mH H;have ee:=dm dq;clear dq;obtain⟨dS,bP⟩:∃y_:List Int,y_=(ap++[rd ak af]):=⟨_,rfl⟩;replace H:(kM.l2 k4 aq dS ak az (wrap64 (af+1)) ag ai ah ac)=some (r1,r2):=lC bP H
           have ef:=dm bP;clear bP;have H':=dm H;clear H;obtain⟨il,dT,eY⟩:=kK ao.out;subst eY;have bF:0<=(af:Int):=jT;have bG:af<(ak.length:Int):=jT;obtain⟨b3,cP,dI⟩:=kZ (kr ao.out).2.2 af bF bG;cases cP;replace bF:=eq_true bF;replace bG:=eq_true bG;obtain⟨dr,dt,eg⟩:=kK aj.out;subst eg
           go_wp2_with (first|((with_reducible refine kQ 47 rfl ?_);refine lL 94 rfl Try.func47 (ni.calls (kv (kr aj.out).2.2) ((kr aj.out).2.1) eB.out) ?_;rintro e w' ⟨rfl,⟨nd,rfl⟩⟩;refine⟨_,rfl,?_⟩;have cQ:0<=(af:Int):=jT;have cS:af<(ak.length:Int):=jT;obtain⟨eh,eZ,gh⟩:=kZ (kr ao.out).2.2 af cQ cS;obtain rfl:b3=eh:=(by injection eZ);replace cQ:=eq_true cQ;replace cS:=eq_true cS)|((with_reducible refine oh (b:=.append) (xs:= #[.tmp 96,.tmp 101]) rfl ?_);(try(refine mZ (by rfl) ?_;dsimp only));at_builtin;refine pg (Kd.int .i64) (w0:=w) w.heap.size rfl (.tmp 96) (.tmp 101) 45 3 (.int .i64 0) 8 rfl Try.underlying45 info3 rfl (kW) (by omega) (.slice dr ap.length dt) ap (rd ak af) [.int .i64 (rd ak af)] (fun k_=>some k_≠(.slice (some b3) ak.length dT:Value).ownBlock) (fun _=>False) rfl rfl ?aP (fun _ hk=>hk.elim) ?aF ?aO ?aB ?aS ?aL ?_;(case aP=>exact rfl);(case aB=>exact(jR HB.out));(case aF=>exact(fun k_ hk=>Kd.fresh' (kT (jV ao.out)) k_ hk));(case aO=>exact(jV aj.out));(case aS=>exact(kC (jR HB.out)));(case aL=>have:=ee.out;omega);intro im io ho hb hg hat;rw[←ef.out]at ho;have n0:=dm (yg (ok:=(fun k_=>some k_≠(.slice (some b3) ak.length dT:Value).ownBlock)) (sF) hg hat);have n1:=dm (nP (ok:=(fun _=>True)) (Cc) hg hat);have n2:=dm (nU (jV am.out) (nV (jV aj.out)) (kW) hg);have n3:=dm (nU (jV aa.out) (nV (jV aj.out)) (kW) hg);have n4:=lY ab hg (lS aj.out ab.out (kW));have n5:=lY ae hg (lS aj.out ae.out (kW));have n6:=dm (hb);have n7:=dm (ho);clear al ao am aa ab ae HB aj;revert n0 n1 n2 n3 n4 n5 n6 n7;intro al ao am aa ab ae HB ei;clear ho hb hg hat))
           go_roundg k4
           case measure=>have:=bm.out;have:=bn.out;have:=bU.out;have:=b8.out;omega
           case rel=>exact⟨(dS),(az),(wrap64 (af+1)),(ku),H',⟨vJ⟩,⟨sF⟩,⟨jV ei.out⟩,⟨BA⟩,⟨jV am.out⟩,⟨jV aa.out⟩,⟨jZ ab.out⟩,⟨jZ ae.out⟩,⟨jR HB.out⟩⟩
          obtain⟨⟨a4,aV⟩,e2,H⟩:=kR H;(try dsimp only at H)
          obtain⟨ct,H⟩:=mH H;have dU:=dm ct;clear ct;obtain⟨dV,bQ⟩:∃y_:List (List Int),y_=(aq++[ak]):=⟨_,rfl⟩;replace H:(kM.l0 k4 dV ap ag ai a4 aV)=some (r1,r2):=lC bQ H
          have ej:=dm bQ;clear bQ;have H':=dm H;clear H;obtain⟨bR,bS,ek⟩:=kK ao.out;subst ek;have gB:=aG.out;have gC:=aC.out;have⟨e3,e4,e5,e6⟩:=ko (w:=wr) ae;obtain⟨b4,b5,el⟩:=kK am.out;subst el
          go_wp2_with (first|((with_reducible refine kQ 62 rfl ?_);refine lL 105 rfl Try.func62 (mK.calls (kv (kr aa.out).2.2) ((kr aa.out).2.1) (kv (kr am.out).2.2) ((kr am.out).2.1) e2.out) ?_;rintro e dW ⟨iq,rfl,a3,hb⟩;refine⟨_,rfl,?_⟩;replace al:=dm (mo (lU) hb);replace aj:=kD aj hb;replace ao:=kD ao hb;have a_:=dm (kP (lF (lF a3 (kT (jV am.out))) (kT (jV aa.out))) (kC (jR HB.out)));replace am:=lK am a3 hb;replace aa:=lK aa a3 hb;replace ab:=jU ab hb;replace ae:=jU ae hb;replace HB:=jX HB hb;(try clear hb a3);have⟨e7,e8,e9,fa⟩:=ko (w:=dW) ae;obtain⟨aY,aZ,em⟩:=kK a_.out;subst em)|((with_reducible refine rT (t:=31) (p:=5) rfl ?_);refine sj (t:=31) (p:=5) (v:= ?vo_w111) (w1:=((dW.setCell ⟨au,0,none⟩ (.int .i64 a4)).setCell ⟨au,1,none⟩ (.slice aY aV.length aZ))) ?hg ?ho ?hn ?hr ?_;(case ho=>rfl);(case hg=>rfl);(case hn=>rfl);(case hr=>first|(go_simp;done)|(go_simp;rfl));intro bl hw;have n0:jP (Kd.S (Kd.slice 3 (Kd.int .i64)) 45 bl w.heap.size (fun k_=>some k_≠(u6:Value).ownBlock/\some k_≠(.slice bR ak.length bS:Value).ownBlock) u4 aq):=⟨(by rw[hw];exact(by(with_reducible repeat(first|apply ny|apply nz|apply mE));exact nW (rJ (p:=⟨au,1,none⟩) (rJ (p:=⟨au,0,none⟩) (vv al.out ae.out (kW)) (fun _ hk=>hk.2) (.int .i64 a4)) (fun _ hk=>hk.2) (.slice aY aV.length aZ)) (fun _ hk=>⟨hk.1.1,hk.1.2⟩)))⟩;have n1:jP (Kd.R (Kd.int .i64) 3 bl w.heap.size (fun k_=>some k_≠(.slice bR ak.length bS:Value).ownBlock) u6 ap):=⟨(by rw[hw];exact(by(with_reducible repeat(first|apply kI|apply kJ|apply kw));exact kz (lh (p:=⟨au,1,none⟩) (lh (p:=⟨au,0,none⟩) (mr aj.out ae.out (kW)) (fun _ hk=>hk.2) (.int .i64 a4)) (fun _ hk=>hk.2) (.slice aY aV.length aZ)) (fun _ hk=>hk.1)))⟩;have n2:jP (Kd.R (Kd.int .i64) 3 bl w.heap.size (fun k_=>some k_≠(u6:Value).ownBlock) (.slice bR ak.length bS) ak):=⟨(by rw[hw];exact(by(with_reducible repeat(first|apply kI|apply kJ|apply kw));exact kz (lh (p:=⟨au,1,none⟩) (lh (p:=⟨au,0,none⟩) (mr ao.out ae.out (kW)) (fun _ hk=>hk.2) (.int .i64 a4)) (fun _ hk=>hk.2) (.slice aY aV.length aZ)) (fun _ hk=>hk.1)))⟩;have n3:jP (Kd.R k59 59 bl w.heap.size (fun k_=>some k_≠(.slice aT ac.length aU:Value).ownBlock/\some k_≠(.slice aY aV.length aZ:Value).ownBlock) (.slice b4 az.length b5) az):=⟨(by rw[hw];exact(by(with_reducible repeat(first|apply kI|apply kJ|apply kw));exact kz (lh (p:=⟨au,1,none⟩) (lh (p:=⟨au,0,none⟩) (mr am.out ae.out (kW)) (fun _ hk=>hk.2) (.int .i64 a4)) (fun _ hk=>hk.2) (.slice aY aV.length aZ)) (fun _ hk=>⟨hk.1.1,hk.1.2⟩)))⟩;have n4:jP (Kd.R k59 59 bl w.heap.size (fun k_=>some k_≠(.slice b4 az.length b5:Value).ownBlock/\some k_≠(.slice aY aV.length aZ:Value).ownBlock) (.slice aT ac.length aU) ac):=⟨(by rw[hw];exact(by(with_reducible repeat(first|apply kI|apply kJ|apply kw));exact kz (lh (p:=⟨au,1,none⟩) (lh (p:=⟨au,0,none⟩) (mr aa.out ae.out (kW)) (fun _ hk=>hk.2) (.int .i64 a4)) (fun _ hk=>hk.2) (.slice aY aV.length aZ)) (fun _ hk=>⟨hk.1.1,hk.1.2⟩)))⟩;have n5:jP (Kd.R k59 59 bl w.heap.size (fun k_=>some k_≠(.slice b4 az.length b5:Value).ownBlock/\some k_≠(.slice aT ac.length aU:Value).ownBlock) (.slice aY aV.length aZ) aV):=⟨(by rw[hw];exact(by(with_reducible repeat(first|apply kI|apply kJ|apply kw));exact kz (lh (p:=⟨au,1,none⟩) (lh (p:=⟨au,0,none⟩) (mr a_.out ae.out (kW)) (fun _ hk=>hk.2) (.int .i64 a4)) (fun _ hk=>hk.2) (.slice aY aV.length aZ)) (fun _ hk=>⟨hk.1.1.2,hk.1.2⟩)))⟩;have n6:jP (bl.heap[aW]? =some (.cells #[.int .i64 ag,.slice aQ ai.length aR] 31 (0,0))):=⟨(by rw[hw];exact(B_))⟩;have n7:jP (bl.heap[au]? =some (.cells #[.int .i64 a4,.slice aY aV.length aZ] 31 (0,0))):=⟨(by rw[hw];exact(lI ae.out))⟩;have n8:jP (Below w.heap.size w bl):=⟨(by rw[hw];exact(jR HB.out))⟩;clear hw al aj ao am aa a_ ab ae HB;revert n0 n1 n2 n3 n4 n5 n6 n7 n8;intro al aj ao am aa a_ ab ae HB)|((with_reducible refine oh (b:=.append) (xs:= #[.tmp 106,.tmp 108]) rfl ?_);(try(refine mZ (by rfl) ?_;dsimp only));at_builtin;refine Am (Kd.slice 3 (Kd.int .i64)) (w0:=w) w.heap.size rfl (.tmp 106) (.tmp 108) 25 45 (.slice none 0 0) 24 rfl Try.underlying25 Da rfl (kW) (by omega) u4 aq ak [.slice bR ak.length bS] (fun k_=>some k_≠(u6:Value).ownBlock) (fun k_=>some k_=(.slice bR ak.length bS:Value).ownBlock) rfl rfl ?aP (fun k_ hk_=>((kz (ok':=fun k_=>((fun k_=>some k_≠(u6:Value).ownBlock)) k_/\some k_≠(u4:Value).ownBlock) (uZ (ao.out) (rM al.out) (kW)) (fun k_ hk=>⟨hk.1,hk.2⟩))).1 k_ hk_.symm) ?aF ?aO ?aB ?aS ?aL ?_;(case aP=>exact zX (kz (sU rfl (kz (ok':=fun k_=>((fun k_=>some k_≠(u6:Value).ownBlock)) k_/\some k_≠(u4:Value).ownBlock) (uZ (ao.out) (rM al.out) (kW)) (fun k_ hk=>⟨hk.1,hk.2⟩))) (fun _ h_=>h_)));(case aB=>exact(jR HB.out));(case aF=>exact(fun k_ hk=>Kd.fresh' (kT (jV aj.out)) k_ hk));(case aO=>exact(by(with_reducible repeat(first|apply ny|apply nz|apply mE));exact nW al.out (fun k_ hk=>⟨hk.1,fun e_=>hk.2 e_⟩)));(case aS=>exact(kC (jR HB.out)));(case aL=>have:=dU.out;omega);intro ir iu ho hb hg hat;rw[←ej.out]at ho;have n0:=dm (nU (jV aj.out) (rM (lU)) (kW) hg);have n1:=dm (nU (jV am.out) (rM (lU)) (kW) hg);have n2:=dm (nU (jV aa.out) (rM (lU)) (kW) hg);have n3:=lY ab hg (wQ al.out ab.out (kW));have n4:=lY ae hg (wQ al.out ae.out (kW));have n5:=dm (nU (jV a_.out) (rM (lU)) (kW) hg);have n6:=dm (hb);have n7:=dm (ho);clear aj am aa ab ae a_ HB al ao;revert n0 n1 n2 n3 n4 n5 n6 n7;intro aj am aa ab ae a_ HB en;clear ho hb hg hat))
          go_roundg k4
          case measure=>have:=bm.out;have:=bn.out;have:=bU.out;have:=b8.out;omega
          case rel=>exact⟨(dV),(ap),(a4),(aV),(.slice aY aV.length aZ),H',⟨vJ⟩,⟨by(with_reducible repeat(first|apply ny|apply nz|apply mE));exact en.out⟩,⟨by(with_reducible repeat(first|apply kI|apply kJ|apply kw));exact kz aj.out (fun _ hk=>trivial)⟩,⟨by(with_reducible repeat(first|apply kI|apply kJ|apply kw));exact kz a_.out (fun _ hk=>trivial)⟩,⟨jZ ab.out⟩,⟨jZ ae.out⟩,⟨jR HB.out⟩⟩
       obtain⟨fb,bT⟩:∃y_:List (List Int),y_=(([]:List (List Int))):=⟨_,rfl⟩;replace H:(some (fb,false))=some (r1,r2):=lC bT H
       have du:=dm bT;clear bT;simp only [Option.some.injEq,Prod.mk.injEq]at H;obtain⟨rfl,rfl⟩:=H;have gD:=aG.out;have gE:=aC.out;have⟨fc,fd,fe,ff⟩:=ko (w:=wc) ae;obtain⟨eo,ep,eq⟩:=kK aj.out;subst eq
       go_wp2_with (first|((with_reducible refine kQ 61 rfl ?_);refine lL 61 rfl Try.func61 (lM.calls (kv (kr aa.out).2.2) ((kr aa.out).2.1) (kv (kr aj.out).2.2) ((kr aj.out).2.1) ex.out) ?_;rintro e iv ⟨cp,rfl,a3,hb⟩;refine⟨_,rfl,?_⟩;replace al:=dm (qD (lU) (pR a3) hb);replace aa:=kD aa hb;have a6:=dm (kP (lF a3 (kT (jV aj.out))) (kC (jR HB.out)));replace aj:=lK aj a3 hb;replace ab:=jU ab hb;replace ae:=jU ae hb;replace HB:=jX HB hb;(try clear hb a3))|((with_reducible refine ky 66 rfl ?_);(try(refine mZ (by rfl) ?_;dsimp only));refine wP (Kd.slice 3 (Kd.int .i64)) _ 45 ?hg (N:=66) ?hd (xs:=([]:List (List Int))) (inner:=[]) (ok:=fun _=>True) (okp:=fun _=>True) ?hr ?hp (fun _ hk=>hk) trivial (Below.refl _ _) (Nat.le_refl _) (by simp) ?_;(case hd=>rfl);(case hg=>rfl);(case hr=>first|(go_simp;done)|(go_simp;rfl));(case hp=>exact(kF.none _ _));intro iw ix bv hb hg_ kV;clear hg_ kV;(first|rw[←du.out]at bv|(simp only [Int.reduceToNat]at bv;rw[←du.out]at bv));replace aa:=kD aa hb;have es:=dm (uh (vo (vo (vo bv (yj (lU))) (kT (jV aj.out))) (kT (jV a6.out))) (kC (jR HB.out)));replace al:=dm (qD (lU) (yh bv) hb);replace aj:=kD aj hb;replace a6:=kD a6 hb;replace ab:=jU ab hb;replace ae:=jU ae hb;replace HB:=jX HB hb;clear hb bv))
       go_ret2
       exact⟨_,mW,by(with_reducible repeat(first|apply ny|apply nz|apply mE));exact nW es.out (fun _ hk=>trivial),jR HB.out⟩
theorem BC(h:p:=by(try simp only [List.map_toArray,List.map_cons,List.map_nil]);first|done|(simp only [aK];rfl)|rfl|(simp only [List.length_drop,List.length_take];rfl)):p:=h
theorem wY(h:p:=by rw[hg];exact Nat.ne_of_lt (lq (g:=aq) (o:=.cells #[.int .i64 ae,.slice (some a9) aa.length aT] 31 (0,0)) (jZ af.out))):p:=h
theorem wZ(h:p:=by rw[hg];exact Nat.ne_of_gt (lq (g:=aq) (o:=.cells #[.int .i64 ae,.slice (some a9) aa.length aT] 31 (0,0)) (jZ af.out))):p:=h
def pW.l0:Nat->Int->List Int->Int->Int->Option (Int)
 |0,_,_,_,_=>none
 |k+1,x3,x6,x7,x8=>if x8<x7 then(if 0<=x8 then(if x8<(x6.length:Int) then(if(rd x6 x8)=x3 then(pW.l0 k x3 x6 x7 (wrap64 (x8+1))) else(some (rd x6 x8))) else(none)) else(none)) else(some x3)
def pW.f (k:Nat) (l0:List Int):Option (Int):=pW.l0 k 0 l0 (l0.length:Int) 0
theorem pW.calls {k:Nat}{A0:Option Addr}{c0:Nat}{l0:List Int}{r:Int}{w:World}(bA:Kd.C (Kd.int .i64) w A0 l0.length l0)(bB:l0.length<=c0)(h:pW.f k l0=some r):
  Calls Try.prog 109 #[.slice A0 l0.length c0] w fun e w'=>e=.returned (.int .i64 r)/\kG w w':=by
 have bj:=dm bA;have cZ:=dm bB;clear bA bB;unfold pW.f at h;have H:=h;clear h;have H':=dm H;clear H
 go_enter Try.func109,Try.ntmps109
 go_wp2
 go_loopg [8] k (fun kq v8 w'=>∃ (aj:Int),v8=.int .i64 aj/\jP (pW.l0 kq 0 l0 (l0.length:Int) aj=some r)/\jP (kq<=k)/\kG w w')
 case atStart=>exact⟨(0),(ku),H',⟨Nat.le_refl _⟩,by repeat(first|exact kG.refl _|apply kG.step)⟩
 case round=>
  clear H';try clear c1
  obtain⟨aj,rfl,HA,bC,⟨m1,rfl⟩⟩:=hrel;cases gk with
  |zero=>exact absurd HA.out (by simp[pW.l0])
  |succ k1=>
   have H:=HA.out;clear HA;simp only [pW.l0]at H
   replace H:=lH H;rcases H with⟨bE,H⟩|⟨bE,H⟩
   ·skip
    obtain⟨dM,H⟩:=kX H
    obtain⟨aW,H⟩:=kX H
    by_cases c5:(rd l0 aj)=0
    ·rw[if_pos c5]at H;have bS:=beq_iff_eq.mpr c5;have co:=bne_eq_false_iff_eq.mpr c5;clear c5;have H':=dm H;clear H;have aX:0<=(aj:Int):=jT;have aY:aj<(l0.length:Int):=jT;obtain⟨b9,bF,bR⟩:=kZ bj.out aj aX aY;cases bF;replace aX:=eq_true aX;replace aY:=eq_true aY
     go_wp2
     go_roundg k1
     case measure=>have:=bC.out;omega
     case rel=>exact⟨(wrap64 (aj+1)),(ku),H',⟨by have:=bC.out;omega⟩,by repeat(first|exact kG.refl _|apply kG.step)⟩
    rw[if_neg c5]at H;have bS:=beq_eq_false_iff_ne.mpr c5;have co:=bne_iff_ne.mpr c5;obtain rfl:=Option.some.inj H;have aX:0<=(aj:Int):=jT;have aY:aj<(l0.length:Int):=jT;obtain⟨b9,bF,bR⟩:=kZ bj.out aj aX aY;cases bF;replace aX:=eq_true aX;replace aY:=eq_true aY
    go_wp2
    go_ret
    exact⟨ku,by repeat(first|exact kG.refl _|apply kG.step)⟩
   obtain rfl:=Option.some.inj H
   go_wp2
   go_ret
   exact⟨ku,by repeat(first|exact kG.refl _|apply kG.step)⟩
def cmp_isNaN_int.f (a0:Int):Option (Bool):=some (a0 !=a0)
theorem cmp_isNaN_int.calls {a0:Int}{r:Bool}{w:World}(h:cmp_isNaN_int.f a0=some r):
  Calls Try.prog 129 #[.int .i64 a0] w fun e w'=>e=.returned (.bool r)/\kG w w':=by
 unfold cmp_isNaN_int.f at h;have H:=h;clear h;obtain rfl:=Option.some.inj H
 go_enter Try.func129,Try.ntmps129
 go_wp2
 go_ret
 exact⟨ku,by repeat(first|exact kG.refl _|apply kG.step)⟩
def cmp_Compare_int.f (a0:Int) (a1:Int):Option (Int):=(cmp_isNaN_int.f a0).bind fun aZ=>((cmp_isNaN_int.f a1).bind fun az=>(if aZ=true then(if az=true then(some 0) else(some (-1))) else(if az=true then(some 1) else(if a0<a1 then(some (-1)) else(if a0>a1 then(some 1) else(some 0))))))
theorem cmp_Compare_int.calls {a0:Int}{a1:Int}{r:Int}{w:World}(h:cmp_Compare_int.f a0 a1=some r):
  Calls Try.prog 110 #[.int .i64 a0,.int .i64 a1] w fun e w'=>e=.returned (.int .i64 r)/\kG w w':=by
 unfold cmp_Compare_int.f at h;have H:=h;clear h;obtain⟨aZ,A3,H⟩:=kR H;(try dsimp only at H);obtain⟨az,A4,H⟩:=kR H;(try dsimp only at H)
 rcases lV H with⟨h_,H_⟩|⟨h_,H_⟩<;> (subst h_;clear H;have H:=H_;clear H_)
 ·skip
  rcases lV H with⟨h_,H_⟩|⟨h_,H_⟩<;> (subst h_;clear H;have H:=H_;clear H_)
  ·obtain rfl:=Option.some.inj H
   go_enter Try.func110,Try.ntmps110
   go_wp2_with (first|((with_reducible refine kQ 129 rfl ?_);refine lL 8 rfl Try.func129 (cmp_isNaN_int.calls A3.out) ?_;rintro e w' ⟨rfl,⟨nd,rfl⟩⟩;refine⟨_,rfl,?_⟩)|((with_reducible refine kQ 129 rfl ?_);refine lL 10 rfl Try.func129 (cmp_isNaN_int.calls A4.out) ?_;rintro e w' ⟨rfl,⟨nd,rfl⟩⟩;refine⟨_,rfl,?_⟩))
   go_ret
   exact⟨ku,by repeat(first|exact kG.refl _|apply kG.step)⟩
  obtain rfl:=Option.some.inj H
  go_enter Try.func110,Try.ntmps110
  go_wp2_with (first|((with_reducible refine kQ 129 rfl ?_);refine lL 8 rfl Try.func129 (cmp_isNaN_int.calls A3.out) ?_;rintro e w' ⟨rfl,⟨nd,rfl⟩⟩;refine⟨_,rfl,?_⟩)|((with_reducible refine kQ 129 rfl ?_);refine lL 10 rfl Try.func129 (cmp_isNaN_int.calls A4.out) ?_;rintro e w' ⟨rfl,⟨nd,rfl⟩⟩;refine⟨_,rfl,?_⟩))
  go_ret
  exact⟨ku,by repeat(first|exact kG.refl _|apply kG.step)⟩
 skip
 rcases lV H with⟨h_,H_⟩|⟨h_,H_⟩<;> (subst h_;clear H;have H:=H_;clear H_)
 ·obtain rfl:=Option.some.inj H
  go_enter Try.func110,Try.ntmps110
  go_wp2_with (first|((with_reducible refine kQ 129 rfl ?_);refine lL 8 rfl Try.func129 (cmp_isNaN_int.calls A3.out) ?_;rintro e w' ⟨rfl,⟨nd,rfl⟩⟩;refine⟨_,rfl,?_⟩)|((with_reducible refine kQ 129 rfl ?_);refine lL 10 rfl Try.func129 (cmp_isNaN_int.calls A4.out) ?_;rintro e w' ⟨rfl,⟨nd,rfl⟩⟩;refine⟨_,rfl,?_⟩))
  go_ret
  exact⟨ku,by repeat(first|exact kG.refl _|apply kG.step)⟩
 skip
 replace H:=lH H;rcases H with⟨bG,H⟩|⟨bG,H⟩
 ·obtain rfl:=Option.some.inj H
  go_enter Try.func110,Try.ntmps110
  go_wp2_with (first|((with_reducible refine kQ 129 rfl ?_);refine lL 8 rfl Try.func129 (cmp_isNaN_int.calls A3.out) ?_;rintro e w' ⟨rfl,⟨nd,rfl⟩⟩;refine⟨_,rfl,?_⟩)|((with_reducible refine kQ 129 rfl ?_);refine lL 10 rfl Try.func129 (cmp_isNaN_int.calls A4.out) ?_;rintro e w' ⟨rfl,⟨nd,rfl⟩⟩;refine⟨_,rfl,?_⟩))
  go_ret
  exact⟨ku,by repeat(first|exact kG.refl _|apply kG.step)⟩
 skip
 replace H:=lH H;rcases H with⟨bH,H⟩|⟨bH,H⟩
 ·obtain rfl:=Option.some.inj H
  go_enter Try.func110,Try.ntmps110
  go_wp2_with (first|((with_reducible refine kQ 129 rfl ?_);refine lL 8 rfl Try.func129 (cmp_isNaN_int.calls A3.out) ?_;rintro e w' ⟨rfl,⟨nd,rfl⟩⟩;refine⟨_,rfl,?_⟩)|((with_reducible refine kQ 129 rfl ?_);refine lL 10 rfl Try.func129 (cmp_isNaN_int.calls A4.out) ?_;rintro e w' ⟨rfl,⟨nd,rfl⟩⟩;refine⟨_,rfl,?_⟩))
  go_ret
  exact⟨ku,by repeat(first|exact kG.refl _|apply kG.step)⟩
 obtain rfl:=Option.some.inj H
 go_enter Try.func110,Try.ntmps110
 go_wp2_with (first|((with_reducible refine kQ 129 rfl ?_);refine lL 8 rfl Try.func129 (cmp_isNaN_int.calls A3.out) ?_;rintro e w' ⟨rfl,⟨nd,rfl⟩⟩;refine⟨_,rfl,?_⟩)|((with_reducible refine kQ 129 rfl ?_);refine lL 10 rfl Try.func129 (cmp_isNaN_int.calls A4.out) ?_;rintro e w' ⟨rfl,⟨nd,rfl⟩⟩;refine⟨_,rfl,?_⟩))
 go_ret
 exact⟨ku,by repeat(first|exact kG.refl _|apply kG.step)⟩
def pJ.f (k:Nat) (ae:Int) (aE:Int) (aR:Int) (aL:Int):Option (Int):=(cmp_Compare_int.f ae aR).bind fun aF=>((cmp_Compare_int.f aE aL).bind fun aC=>((pW.f k (([aF,aC]:List Int))).bind fun aG=>(some aG)))
def pJ.T1:Bool×List (List Nat×List Nat):=(true,[([],[]),([0],[0]),([],[]),([2],[2]),([1,3],[1,3]),([],[]),([5],[5]),([],[]),([7],[7]),([6,8,4],[6,8]),([4,9],[4,9]),([10,9],[10]),([11,11,0,1,2,3,4,5,6,7,8,9,10,11],[11])])
def pJ.B1:List Nat:=[0,1,0,4,15,0,32,0,128,511,1023,2047,4095]
theorem pJ.zD:mi .any (opsOf Try.f80 1)=pJ.T1:=by kernel_rfl
theorem pJ.yA:nY pJ.T1.2 pJ.B1=true:=by kernel_rfl
theorem pJ.calls {k:Nat}{ae:Int}{aE:Int}{aR:Int}{aL:Int}{r:Int}{w:World}(h:pJ.f k ae aE aR aL=some r):
  Calls Try.prog 80 #[.agg #[.int .i64 ae,.int .i64 aE],.agg #[.int .i64 aR,.int .i64 aL]] w fun e w'=>e=.returned (.int .i64 r)/\Below w.heap.size w w':=by
 have bI:=Try.underlying59;have HB:=dm (Below.refl w.heap.size w);unfold pJ.f at h;have H:=h;clear h;obtain⟨aF,A3,H⟩:=kR H;(try dsimp only at H);obtain⟨aC,A4,H⟩:=kR H;(try dsimp only at H);obtain⟨bJ,a_⟩:∃y_:List Int,y_=(([aF,aC]:List Int)):=⟨_,rfl⟩;replace H:((pW.f k bJ).bind fun aG=>(some aG))=some r:=lC a_ H
 have bM:=dm a_;clear a_;obtain⟨aG,A5,H⟩:=kR H;(try dsimp only at H);obtain rfl:=Option.some.inj H
 go_enter Try.func80,Try.ntmps80;try go_wp2_with (first|((with_reducible refine ky 2 rfl ?_);refine kS #[.int .i64 ae,.int .i64 aE] 59 ?_;intro aI hg w6 jS hb;have ah:=dm (jS);have dq:=dm (kg:w.heap.size<=aI);have dr:=dm (kg:w.heap.size<=aI);replace HB:=jX HB hb;clear hb jS hg)|((with_reducible refine ky 3 rfl ?_);refine kS #[.int .i64 aR,.int .i64 aL] 59 ?_;intro aU hg w7 jS hb;have ak:=dm (jS);have dt:=dm (kg:w.heap.size<=aU);have du:=dm (kg:w.heap.size<=aU);replace HB:=jX HB hb;have cf:=dm ((by rw[hg];exact Nat.ne_of_lt (lq (g:=aI) (o:=.cells #[.int .i64 ae,.int .i64 aE] 59 (0,0)) (jZ ah.out)):aI≠aU));have cg:=dm ((by rw[hg];exact Nat.ne_of_gt (lq (g:=aI) (o:=.cells #[.int .i64 ae,.int .i64 aE] 59 (0,0)) (jZ ah.out)):aU≠aI));replace ah:=jU ah hb;clear hb jS hg))
 replace ah:=dm (kU ah.out);replace ak:=dm (kU ak.out);replace HB:=dm (mg HB.out);refine nk 13 (S:=fun w'=>w'.cell? ⟨aI,0,none⟩=some (.int .i64 ae)/\w'.cell? ⟨aI,1,none⟩=some (.int .i64 aE)/\w'.cell? ⟨aU,0,none⟩=some (.int .i64 aR)/\w'.cell? ⟨aU,1,none⟩=some (.int .i64 aL)) [] ⟨jY ah 0,jY ah 1,jY ak 0,jY ak 1⟩ pJ.zD pJ.yA (fun hHeld HT_ HW_=>?_);generalize w7.drew=w8 at ah ak HB hHeld⊢;refine jW 0 5 1 ?_;refine jW 2 7 5 ?_;refine jW 5 10 37 ?_;refine jW 7 12 165 ?_;refine kL 1 6 167 ?_;refine kL 3 8 175 ?_;refine kL 6 11 239 ?_;refine kL 8 13 495 ?_;refine l6 4 9 511 (fun K hK=>?_);refine oz Try.func110 (cmp_Compare_int.calls A3.out) ?_;rintro e w' ⟨rfl,⟨nd,rfl⟩⟩;refine⟨_,rfl,?_⟩;refine hK.out _ _ ⟨jY ah 0,jY ah 1,jY ak 0,jY ak 1⟩ (fun hHeld=>?_);clear hK K;refine ll 9 ?_;refine l6 9 14 1023 (fun K hK=>?_);refine oz Try.func110 (cmp_Compare_int.calls A4.out) ?_;rintro e w' ⟨rfl,⟨nd,rfl⟩⟩;refine⟨_,rfl,?_⟩;refine hK.out _ _ ⟨jY ah 0,jY ah 1,jY ak 0,jY ak 1⟩ (fun hHeld=>?_);clear hK K;refine ll 14 ?_;refine l6 10 15 2047 (fun K hK=>?_);refine qC (Kd.int .i64) _ 3 ?hg (N:=15) ?hd (xs:=([aF,aC]:List Int)) (inner:=[.int .i64 aF,.int .i64 aC]) (ok:=fun _=>True) (okp:=fun _=>True) ?hr ?hp (fun _ hk=>hk) trivial (Below.refl _ _) (Nat.le_refl _) (by simp) ?_;(case hd=>rfl);(case hg=>rfl);(case hr=>first|(go_simp;done)|(go_simp;rfl));(case hp=>exact(kF.one (show Kd.M (Kd.int .i64) _ _ _ aF [.int .i64 aF] from rfl) (kF.one (show Kd.M (Kd.int .i64) _ _ _ aC [.int .i64 aC] from rfl) (kF.none _ _))));intro dN w9 bk hb hg_ kV;clear hg_ kV;(first|rw[←bM.out]at bk|(simp only [Int.reduceToNat]at bk;rw[←bM.out]at bk));have bp:=dm (kP bk (kC (jR HB.out)));replace ah:=jU ah hb;replace ak:=jU ak hb;replace HB:=jX HB hb;clear hb bk;obtain⟨cp,cq,bU⟩:=kK bp.out;(first|subst bU|(injection bU with ch c_ ci;have db:=ch.symm;have dc:=ci.symm;clear ch c_ ci;subst db;subst dc));refine hK.out _ _ ⟨jY ah 0,jY ah 1,jY ak 0,jY ak 1⟩ (fun hHeld=>?_);clear hK K;refine ll 15 ?_;refine l6 11 16 4095 (fun K hK=>?_);refine oz Try.func109 (pW.calls (kv (kr bp.out).2.2) ((kr bp.out).2.1) A5.out) ?_;rintro e w' ⟨rfl,⟨nd,rfl⟩⟩;refine⟨_,rfl,?_⟩;refine hK.out _ _ ⟨jY ah 0,jY ah 1,jY ak 0,jY ak 1⟩ (fun hHeld=>?_);clear hK K;refine ll 16 ?_;refine jW 12 4 8191 ?_;refine mD (mV HT_.out (lg)) ?_;try go_wp2
 go_ret
 exact⟨lT,jR HB.out⟩
def nL.l0:Nat->List (S59)->Int->Option (Bool)
 |0,_,_=>none
 |k+1,x0,x3=>if x3<(x0.length:Int) then(if 0<=(wrap64 (x3 - 1)) then(if(wrap64 (x3 - 1))<(x0.length:Int) then(if 0<=x3 then((pJ.f k ((jQ x0 (wrap64 (x3 - 1))).f0) ((jQ x0 (wrap64 (x3 - 1))).f1) ((jQ x0 x3).f0) ((jQ x0 x3).f1)).bind fun aM=>(if aM>=0 then(some false) else(nL.l0 k x0 (wrap64 (x3+1))))) else(none)) else(none)) else(none)) else(some true)
def nL.f (k:Nat) (l0:List (S59)):Option (Bool):=nL.l0 k l0 1
def nL.T4:Bool×List (List Nat×List Nat):=(true,[([],[]),([],[]),([1],[1]),([0,2],[0,2]),([3],[3]),([],[]),([],[]),([5,6],[5,6]),([7],[7]),([4,8],[4,8]),([9],[9])])
def nL.B4:List Nat:=[0,0,2,7,15,0,0,96,224,511,1023]
theorem nL.ww:mi .any (opsOf Try.f88 4)=nL.T4:=by kernel_rfl
theorem nL.vz:nY nL.T4.2 nL.B4=true:=by kernel_rfl
theorem nL.calls {k:Nat}{A0:Option Addr}{c0:Nat}{l0:List (S59)}{r:Bool}{w:World}(bA:Kd.C k59 w A0 l0.length l0)(bB:l0.length<=c0)(h:nL.f k l0=some r):
  Calls Try.prog 88 #[.slice A0 l0.length c0] w fun e w'=>e=.returned (.bool r)/\Below w.heap.size w w':=by
 have bI:=Try.underlying59;have bj:=dm bA;have cZ:=dm bB;clear bA bB;have HB:=dm (Below.refl w.heap.size w);unfold nL.f at h;have H:=h;clear h;have H':=dm H;clear H
 go_enter Try.func88,Try.ntmps88
 go_wp2
 go_loopg [3] k (fun kq v3 w'=>∃ (ac:Int),v3=.int .i64 ac/\jP (nL.l0 kq l0 ac=some r)/\jP (kq<=k)/\jP (Below w.heap.size w w'))
 case atStart=>exact⟨(1),(ku),H',⟨Nat.le_refl _⟩,⟨jR HB.out⟩⟩
 case round=>
  clear H';obtain⟨ac,rfl,HA,bC,HB⟩:=hrel;cases gk with
  |zero=>exact absurd HA.out (by simp[nL.l0])
  |succ k1=>
   have H:=HA.out;clear HA;simp only [nL.l0]at H
   replace H:=lH H;rcases H with⟨bE,H⟩|⟨bE,H⟩
   ·obtain⟨ag,aK⟩:∃j_:Int,(wrap64 (ac - 1))=j_:=⟨_,rfl⟩;replace H:(if 0<=(ag) then(if(ag)<(l0.length:Int) then(if 0<=ac then((pJ.f k1 ((jQ l0 (ag)).f0) ((jQ l0 (ag)).f1) ((jQ l0 ac).f0) ((jQ l0 ac).f1)).bind fun aM=>(if aM>=0 then(some false) else(nL.l0 k1 l0 (wrap64 (ac+1))))) else(none)) else(none)) else(none))=some r:=by first|(rw[aK]at H;exact H)|(simp only [aK]at H⊢;exact H)
    have dv:(IntKind.i64.wrap (ac - 1))=ag:=(mh _).trans aK
    obtain⟨aW,H⟩:=kX H
    obtain⟨bS,H⟩:=kX H
    obtain⟨dO,H⟩:=kX H;obtain⟨aM,A7,H⟩:=kR H;(try dsimp only at H)
    replace H:=lH H;rcases H with⟨bG,H⟩|⟨bG,H⟩
    ·obtain rfl:=Option.some.inj H;try go_wp2
     replace HB:=dm (mg HB.out);have a4:0<=((ag):Int):=jT;have a5:(ag)<(l0.length:Int):=jT;obtain⟨ap,bK,av,aw⟩:=l7 bj.out (ag) a4 a5;have aN:=aw;have aO:=av;cases bK;replace av:=j4 HB av;replace aw:=j4 HB aw;replace a4:=eq_true a4;replace a5:=eq_true a5;have a6:0<=(ac:Int):=jT;have a7:ac<(l0.length:Int):=jT;obtain⟨bq,bL,ax,ay⟩:=l7 bj.out ac a6 a7;have aP:=ay;have aQ:=ax;obtain rfl:ap=bq:=(by injection bL);replace ax:=j4 HB ax;replace ay:=j4 HB ay;replace a6:=eq_true a6;replace a7:=eq_true a7;refine nk 11 (S:=fun w'=>w'.cell? (ap.add (((ag)).toNat*2))=some (.int .i64 ((jQ l0 (ag)).f0))/\w'.cell? ⟨(ap.add (((ag)).toNat*2)).block,(ap.add (((ag)).toNat*2)).off+1,none⟩=some (.int .i64 ((jQ l0 (ag)).f1))/\w'.cell? (ap.add ((ac).toNat*2))=some (.int .i64 ((jQ l0 ac).f0))/\w'.cell? ⟨(ap.add ((ac).toNat*2)).block,(ap.add ((ac).toNat*2)).off+1,none⟩=some (.int .i64 ((jQ l0 ac).f1))) [] ⟨(j4 HB aO),(j4 HB aN),(j4 HB aQ),(j4 HB aP)⟩ nL.ww nL.vz (fun hHeld HT_ HW_=>?_);generalize wr.drew=w9 at HB av aw ax ay hHeld⊢;refine jW 0 10 1 ?_;refine jW 1 11 3 ?_;refine jW 2 12 7 ?_;refine jW 3 13 15 ?_;refine jW 5 15 47 ?_;refine jW 6 16 111 ?_;refine jW 7 17 239 ?_;refine kL 4 14 255 ?_;refine kL 8 18 511 ?_;refine l6 9 19 1023 (fun K hK=>?_);refine qd Try.func80 (lg) rfl #[.agg #[.int .i64 ((jQ l0 (ag)).f0),.int .i64 ((jQ l0 (ag)).f1)],.agg #[.int .i64 ((jQ l0 ac).f0),.int .i64 ((jQ l0 ac).f1)]] (by rfl) rfl rfl (BC) ?_;refine(pJ.calls A7.out).mono ?_;rintro e dQ ⟨rfl,hb⟩;refine⟨_,rfl,?_⟩;replace HB:=jX HB hb;(try clear hb);refine hK.out _ _ ⟨(j4 HB aO),(j4 HB aN),(j4 HB aQ),(j4 HB aP)⟩ (fun hHeld=>?_);clear hK K;refine ll 19 ?_;refine jW 10 20 2047 ?_;refine mD (mV HT_.out (lg)) ?_;try go_wp2
     go_ret
     exact⟨by first|rfl|(simp[qL,qM]<;>rfl)|(simp only [←aK];first|rfl|(simp[qL,qM]<;>rfl))|(simp[*,qL,qM]<;>rfl),jR HB.out⟩
    have H':=dm H;clear H;try go_wp2
    replace HB:=dm (mg HB.out);have a4:0<=((ag):Int):=jT;have a5:(ag)<(l0.length:Int):=jT;obtain⟨ap,bK,av,aw⟩:=l7 bj.out (ag) a4 a5;have aN:=aw;have aO:=av;cases bK;replace av:=j4 HB av;replace aw:=j4 HB aw;replace a4:=eq_true a4;replace a5:=eq_true a5;have a6:0<=(ac:Int):=jT;have a7:ac<(l0.length:Int):=jT;obtain⟨bq,bL,ax,ay⟩:=l7 bj.out ac a6 a7;have aP:=ay;have aQ:=ax;obtain rfl:ap=bq:=(by injection bL);replace ax:=j4 HB ax;replace ay:=j4 HB ay;replace a6:=eq_true a6;replace a7:=eq_true a7;refine nk 11 (S:=fun w'=>w'.cell? (ap.add (((ag)).toNat*2))=some (.int .i64 ((jQ l0 (ag)).f0))/\w'.cell? ⟨(ap.add (((ag)).toNat*2)).block,(ap.add (((ag)).toNat*2)).off+1,none⟩=some (.int .i64 ((jQ l0 (ag)).f1))/\w'.cell? (ap.add ((ac).toNat*2))=some (.int .i64 ((jQ l0 ac).f0))/\w'.cell? ⟨(ap.add ((ac).toNat*2)).block,(ap.add ((ac).toNat*2)).off+1,none⟩=some (.int .i64 ((jQ l0 ac).f1))) [] ⟨(j4 HB aO),(j4 HB aN),(j4 HB aQ),(j4 HB aP)⟩ nL.ww nL.vz (fun hHeld HT_ HW_=>?_);generalize wr.drew=dR at HB av aw ax ay hHeld⊢;refine jW 0 10 1 ?_;refine jW 1 11 3 ?_;refine jW 2 12 7 ?_;refine jW 3 13 15 ?_;refine jW 5 15 47 ?_;refine jW 6 16 111 ?_;refine jW 7 17 239 ?_;refine kL 4 14 255 ?_;refine kL 8 18 511 ?_;refine l6 9 19 1023 (fun K hK=>?_);refine qd Try.func80 (lg) rfl #[.agg #[.int .i64 ((jQ l0 (ag)).f0),.int .i64 ((jQ l0 (ag)).f1)],.agg #[.int .i64 ((jQ l0 ac).f0),.int .i64 ((jQ l0 ac).f1)]] (by rfl) rfl rfl (BC) ?_;refine(pJ.calls A7.out).mono ?_;rintro e dS ⟨rfl,hb⟩;refine⟨_,rfl,?_⟩;replace HB:=jX HB hb;(try clear hb);refine hK.out _ _ ⟨(j4 HB aO),(j4 HB aN),(j4 HB aQ),(j4 HB aP)⟩ (fun hHeld=>?_);clear hK K;refine ll 19 ?_;refine jW 10 20 2047 ?_;refine mD (mV HT_.out (lg)) ?_;try go_wp2
    go_roundg k1
    case measure=>have:=bC.out;omega
    case rel=>exact⟨(wrap64 (ac+1)),(ku),H',⟨by have:=bC.out;omega⟩,⟨jR HB.out⟩⟩
   obtain rfl:=Option.some.inj H
   go_wp2
   go_ret
   exact⟨lT,jR HB.out⟩
mutual
def nR.j0:Nat->Bool->Int->List (S59)->Option (Bool)
 |0,_,_,_=>none
 |k+1,dd,aV,aH=>if dd=true then(some false) else(nR.l0 k aH (aH.length:Int) 0 aV aH)
def nR.l0:Nat->List (S59)->Int->Int->Int->List (S59)->Option (Bool)
 |0,_,_,_,_,_=>none
 |k+1,bl,cj,bf,aV,aH=>if bf<cj then(if 0<=bf then(if bf<(bl.length:Int) then(if((jQ bl bf).f0)<0 then(some false) else(if((jQ bl bf).f0)>=((jQ bl bf).f1) then(some false) else(if((jQ bl bf).f1)>=aV then(some false) else(nR.l0 k bl cj (wrap64 (bf+1)) aV aH)))) else(none)) else(none)) else((nL.f k aH).bind fun br=>(some br))
end
def nR.f (k:Nat) (ae:Int) (aa:List (S59)):Option (Bool):=if ae<0 then(nR.j0 k true ae aa) else(nR.j0 k (decide (ae>8)) ae aa)
theorem nR.calls {k:Nat}{ae:Int}{bd:Option Addr}{aT:Nat}{aa:List (S59)}{r:Bool}{w:World}(bN:Kd.C k59 w bd aa.length aa)(bO:aa.length<=aT)(h:nR.f k ae aa=some r):
  Calls Try.prog 50 #[.agg #[.int .i64 ae,.slice bd aa.length aT]] w fun e w'=>e=.returned (.bool r)/\Below w.heap.size w w':=by
 have dP:=Try.underlying31;have bI:=Try.underlying59;have ba:=dm bN;have b_:=dm bO;clear bN bO;have HB:=dm (Below.refl w.heap.size w);unfold nR.f at h;have H:=h;clear h;have bV:=dm H;clear H
 go_enter Try.func50,Try.ntmps50
 go_upto_region 1 with(first|((with_reducible refine ky 1 rfl ?_);refine kS #[.int .i64 ae,.slice bd aa.length aT] 31 ?_;intro aq hg w3 jS hb;have af:=dm (jS);have dw:=dm (kg:w.heap.size<=aq);have dx:=dm (kg:w.heap.size<=aq);replace HB:=jX HB hb;clear hb jS hg))
 (try simp only [Act.put,List.setIfInBounds_toArray,List.set_cons_zero,List.set_cons_succ])
 go_cut [12] (fun de wc=>∃ (kq:Nat) (bh:Bool),de=.bool bh/\jP (nR.j0 kq bh ae aa=some r)/\jP (kq<=k)/\jP (wc.heap[aq]? =some (.cells #[.int .i64 ae,(.slice bd aa.length aT)] 31 (0,0)))/\jP (Below w.heap.size w wc))
 case first=>
  have H:=bV.out;clear bV
  replace H:=lH H;rcases H with⟨aW,H⟩|⟨aW,H⟩
  ·(first|rw[aW]|(simp only [mh,mP];rw[aW])|skip);have H':=dm H;clear H;have⟨df,dg,dh,di⟩:=ko (w:=w3) af
   go_wp2
   go_meet
   case rel=>exact⟨_,(true),(ku),H',⟨by first|omega|exact Nat.le_refl _⟩,⟨jZ af.out⟩,⟨jR HB.out⟩⟩
  (first|rw[aW]|(simp only [mh,mP];rw[aW])|skip);have H':=dm H;clear H;have⟨bW,bX,bY,bZ⟩:=ko (w:=w3) af
  go_wp2
  go_meet
  case rel=>exact⟨_,(decide (ae>8)),(ku),H',⟨by first|omega|exact Nat.le_refl _⟩,⟨jZ af.out⟩,⟨jR HB.out⟩⟩
 case rest=>
  clear bV;obtain⟨kq,bh,rfl,HA,ck,af,HB⟩:=hcut;cases kq with
  |zero=>exact absurd HA.out (by simp[nR.j0])
  |succ b3=>
   have H:=HA.out;clear HA;simp only [nR.j0]at H
   rcases lV H with⟨h_,H_⟩|⟨h_,H_⟩<;> (subst h_;clear H;have H:=H_;clear H_)
   ·obtain rfl:=Option.some.inj H
    go_wp2
    go_ret
    exact⟨lT,jR HB.out⟩
   have H':=dm H;clear H;have⟨b4,b5,b6,b7⟩:=ko (w:=wc) af
   go_wp2
   go_loopg [16] b3 (fun kq dj w'=>∃ (ab:Int),dj=.int .i64 ab/\jP (nR.l0 kq aa (aa.length:Int) ab ae aa=some r)/\jP (kq<=b3)/\jP (w'.heap[aq]? =some (.cells #[.int .i64 ae,(.slice bd aa.length aT)] 31 (0,0)))/\jP (Below w.heap.size w w'))
   case atStart=>exact⟨(0),(ku),H',⟨Nat.le_refl _⟩,⟨jZ af.out⟩,⟨jR HB.out⟩⟩
   case round=>
    clear H';(try clear c7 b4 b5 b6 b7);obtain⟨ab,rfl,HA,cl,af,HB⟩:=hrel;cases gk with
    |zero=>exact absurd HA.out (by simp[nR.l0])
    |succ k2=>
     have H:=HA.out;clear HA;simp only [nR.l0]at H
     replace H:=lH H;rcases H with⟨bH,H⟩|⟨bH,H⟩
     ·skip
      obtain⟨dy,H⟩:=kX H
      obtain⟨dz,H⟩:=kX H
      replace H:=lH H;rcases H with⟨ca,H⟩|⟨ca,H⟩
      ·obtain rfl:=Option.some.inj H;have aA:0<=(ab:Int):=jT;have aB:ab<(aa.length:Int):=jT;obtain⟨a9,a8,am,ao⟩:=l7 ba.out ab aA aB;cases a8;replace am:=j4 HB am;replace ao:=j4 HB ao;replace aA:=eq_true aA;replace aB:=eq_true aB
       go_wp2_with (first|((with_reducible refine ky 4 rfl ?_);refine kS #[.int .i64 0,.int .i64 0] 59 ?_;intro ai hg dk jS hb;have aS:=dm (jS);have bu:=dm (kg:w.heap.size<=ai);have bv:=dm (kg:w.heap.size<=ai);replace HB:=jX HB hb;have al:=dm (wY:aq≠ai);have au:=dm (wZ:ai≠aq);replace af:=jU af hb;clear hb jS hg;have dA:=au.out;have dB:=al.out;have⟨cr,ct,cu,cv⟩:=ko (w:=dk) aS))
       go_ret
       exact⟨lT,jR HB.out⟩
      skip
      replace H:=lH H;rcases H with⟨cd,H⟩|⟨cd,H⟩
      ·obtain rfl:=Option.some.inj H;have aA:0<=(ab:Int):=jT;have aB:ab<(aa.length:Int):=jT;obtain⟨a9,a8,am,ao⟩:=l7 ba.out ab aA aB;cases a8;replace am:=j4 HB am;replace ao:=j4 HB ao;replace aA:=eq_true aA;replace aB:=eq_true aB
       go_wp2_with (first|((with_reducible refine ky 4 rfl ?_);refine kS #[.int .i64 0,.int .i64 0] 59 ?_;intro ai hg dl jS hb;have aS:=dm (jS);have bu:=dm (kg:w.heap.size<=ai);have bv:=dm (kg:w.heap.size<=ai);replace HB:=jX HB hb;have al:=dm (wY:aq≠ai);have au:=dm (wZ:ai≠aq);replace af:=jU af hb;clear hb jS hg;have dC:=au.out;have dD:=al.out;have⟨cw,cx,cy,cz⟩:=ko (w:=dl) aS))
       go_ret
       exact⟨lT,jR HB.out⟩
      skip
      replace H:=lH H;rcases H with⟨ce,H⟩|⟨ce,H⟩
      ·obtain rfl:=Option.some.inj H;have aA:0<=(ab:Int):=jT;have aB:ab<(aa.length:Int):=jT;obtain⟨a9,a8,am,ao⟩:=l7 ba.out ab aA aB;cases a8;replace am:=j4 HB am;replace ao:=j4 HB ao;replace aA:=eq_true aA;replace aB:=eq_true aB
       go_wp2_with (first|((with_reducible refine ky 4 rfl ?_);refine kS #[.int .i64 0,.int .i64 0] 59 ?_;intro ai hg cm jS hb;have aS:=dm (jS);have bu:=dm (kg:w.heap.size<=ai);have bv:=dm (kg:w.heap.size<=ai);replace HB:=jX HB hb;have al:=dm (wY:aq≠ai);have au:=dm (wZ:ai≠aq);replace af:=jU af hb;clear hb jS hg;have dE:=au.out;have dF:=al.out;have⟨cA,cD,cE,cF⟩:=ko (w:=cm) aS;have⟨cG,cH,cI,cJ⟩:=ko (w:=cm) af))
       go_ret
       exact⟨lT,jR HB.out⟩
      have H':=dm H;clear H;have aA:0<=(ab:Int):=jT;have aB:ab<(aa.length:Int):=jT;obtain⟨a9,a8,am,ao⟩:=l7 ba.out ab aA aB;cases a8;replace am:=j4 HB am;replace ao:=j4 HB ao;replace aA:=eq_true aA;replace aB:=eq_true aB
      go_wp2_with (first|((with_reducible refine ky 4 rfl ?_);refine kS #[.int .i64 0,.int .i64 0] 59 ?_;intro ai hg cn jS hb;have aS:=dm (jS);have bu:=dm (kg:w.heap.size<=ai);have bv:=dm (kg:w.heap.size<=ai);replace HB:=jX HB hb;have al:=dm (wY:aq≠ai);have au:=dm (wZ:ai≠aq);replace af:=jU af hb;clear hb jS hg;have dG:=au.out;have dH:=al.out;have⟨cL,cM,cN,cO⟩:=ko (w:=cn) aS;have⟨cP,cQ,cS,cT⟩:=ko (w:=cn) af))
      go_roundg k2
      case measure=>have:=ck.out;have:=cl.out;omega
      case rel=>exact⟨(wrap64 (ab+1)),(ku),H',⟨by have:=ck.out;have:=cl.out;omega⟩,⟨lI af.out⟩,⟨jR HB.out⟩⟩
     obtain⟨br,dn,H⟩:=kR H;(try dsimp only at H);obtain rfl:=Option.some.inj H;have⟨cU,cW,cX,cY⟩:=ko (w:=wr) af
     go_wp2_with (first|((with_reducible refine kQ 88 rfl ?_);refine nC 40 rfl Try.func88 (nL.calls (kv (kN ba.out HB.out)) b_.out dn.out) ?_;intro dT hb;replace af:=jU af hb;replace HB:=jX HB hb;(try clear hb)))
     go_ret
     exact⟨lT,jR HB.out⟩
def qF.f (a0:Int) (a1:Int):Option (Int×Int):=some (mn a0 a1,mx a0 a1)
theorem qF.calls {a0:Int}{a1:Int}{r1:Int}{r2:Int}{w:World}(h:qF.f a0 a1=some (r1,r2)):
  Calls Try.prog 53 #[.int .i64 a0,.int .i64 a1] w fun e w'=>e=.returned (.agg #[.int .i64 r1,.int .i64 r2])/\Below w.heap.size w w':=by
 have bI:=Try.underlying59;have HB:=dm (Below.refl w.heap.size w);unfold qF.f at h;have H:=h;clear h;obtain⟨ag,aK⟩:∃j_:Int,(mn a0 a1)=j_:=⟨_,rfl⟩;replace H:(some (ag,mx a0 a1))=some (r1,r2):=by first|(rw[aK]at H;exact H)|(simp only [aK]at H⊢;exact H)
 have dI:(if a1<a0 then a1 else a0)=ag:=aK;obtain⟨b8,bx⟩:∃j_:Int,(mx a0 a1)=j_:=⟨_,rfl⟩;replace H:(some (ag,b8))=some (r1,r2):=by first|(rw[bx]at H;exact H)|(simp only [bx]at H⊢;exact H)
 have dJ:(if a0<a1 then a1 else a0)=b8:=bx;simp only [Option.some.injEq,Prod.mk.injEq]at H;obtain⟨rfl,rfl⟩:=H
 go_enter Try.func53,Try.ntmps53
 go_wp2_with (first|((with_reducible refine ky 4 rfl ?_);refine kS #[.int .i64 0,.int .i64 0] 59 ?_;intro bz hg w5 jS hb;have bQ:=dm (jS);have dK:=dm (kg:w.heap.size<=bz);have dL:=dm (kg:w.heap.size<=bz);replace HB:=jX HB hb;clear hb jS hg;have⟨bW,bX,bY,bZ⟩:=ko (w:=w5) bQ))
 refine bodyPost_ret (results_cell_row rfl _ _ bz 59 #[.int .i64 ag,.int .i64 b8] (0,0) _ rfl (lI bQ.out) Try.underlying59 rfl (lg)) rfl ?_;exact⟨by first|rfl|(simp[qL,qM]<;>rfl)|(simp only [←aK,←bx];first|rfl|(simp[qL,qM]<;>rfl))|(simp[*,qL,qM]<;>rfl),jR HB.out⟩
theorem w_(h:p:=by exact lI ag.out):p:=h
theorem BD(h:p:=by(with_reducible repeat(first|apply kI|apply kJ|apply kw));exact kz (lh (p:=⟨af,1,none⟩) (lh (p:=⟨af,0,none⟩) (mr ae.out ag.out (by decide)) (fun _ hk=>hk.2) (.int .i64 ((jQ aa ab).f0))) (fun _ hk=>hk.2) (.int .i64 ((jQ aa ab).f1))) (fun _ hk=>trivial)):p:=h
theorem BG(h:p:=by rw[hg];exact Nat.ne_of_lt (lq (g:=au) (o:=.cells #[.int .i64 ai,.slice (some bl) aa.length av] 31 (0,0)) (jZ ac.out))):p:=h
theorem BH(h:p:=by rw[hg];exact Nat.ne_of_gt (lq (g:=au) (o:=.cells #[.int .i64 ai,.slice (some bl) aa.length av] 31 (0,0)) (jZ ac.out))):p:=h
attribute [local go_sem high] y8
mutual
def lm.l0:Nat->List Int->Int->Int->Int->List (S59)->Option (List Int)
 |0,_,_,_,_,_=>none
 |k+1,x3,dB,cD,aw,aq=>if cD<dB then(if x3.length<17592186044416 then(lm.l0 k (x3++[cD]) dB (wrap64 (cD+1)) aw aq) else(none)) else(lm.l1 k x3 true aw aq)
def lm.l1:Nat->List Int->Bool->Int->List (S59)->Option (List Int)
 |0,_,_,_,_=>none
 |k+1,x3,x5,aw,aq=>if x5=true then(lm.l2 k x3 false aq (aq.length:Int) 0 aw aq) else(some x3)
def lm.l2:Nat->List Int->Bool->List (S59)->Int->Int->Int->List (S59)->Option (List Int)
 |0,_,_,_,_,_,_,_=>none
 |k+1,x3,x5,aN,cE,aG,aw,aq=>if aG<cE then(if 0<=aG then(if aG<(aN.length:Int) then(if 0<=((jQ aN aG).f0) then(if((jQ aN aG).f0)<(x3.length:Int) then(if 0<=((jQ aN aG).f1) then(if((jQ aN aG).f1)<(x3.length:Int) then(if(rd x3 ((jQ aN aG).f0))=(rd x3 ((jQ aN aG).f1)) then(lm.l2 k x3 x5 aN cE (wrap64 (aG+1)) aw aq) else(lm.l2 k ((x3.set (((jQ aN aG).f0):Int).toNat (mn (rd x3 ((jQ aN aG).f0)) (rd x3 ((jQ aN aG).f1)))).set (((jQ aN aG).f1):Int).toNat (mn (rd x3 ((jQ aN aG).f0)) (rd x3 ((jQ aN aG).f1)))) true aN cE (wrap64 (aG+1)) aw aq)) else(none)) else(none)) else(none)) else(none)) else(none)) else(none)) else(lm.l1 k x3 x5 aw aq)
end
def lm.f (k:Nat) (ai:Int) (aa:List (S59)):Option (List Int):=lm.l0 k (([]:List Int)) ai 0 ai aa
def lm.T13:Bool×List (List Nat×List Nat):=(true,[([],[]),([],[]),([1],[1]),([0,2],[0,2]),([3],[3]),([],[]),([],[]),([6],[6]),([5,7],[5,7]),([8],[8]),([4,9],[4,9]),([10,0,1,2,3,4,5,6,7,8,9,10],[10])])
def lm.B13:List Nat:=[0,0,2,7,15,0,0,64,224,480,1023,2047]
theorem lm.D9:mi .any (opsOf Try.f98 13)=lm.T13:=by kernel_rfl
theorem lm.AJ:nY lm.T13.2 lm.B13=true:=by kernel_rfl
def lm.T14:Bool×List (List Nat×List Nat):=(true,[([],[]),([],[]),([1],[1]),([0,2],[0,2]),([3],[3]),([],[]),([],[]),([6],[6]),([5,7],[5,7]),([8],[8]),([4,9],[4,9])])
def lm.B14:List Nat:=[0,0,2,7,15,0,0,64,224,480,1023]
theorem lm.D_:mi .any (opsOf Try.f98 14)=lm.T14:=by kernel_rfl
theorem lm.AL:nY lm.T14.2 lm.B14=true:=by kernel_rfl
def lm.T15:Bool×List (List Nat×List Nat):=(true,[([],[]),([],[]),([1],[1]),([],[]),([],[]),([4],[4]),([],[]),([],[]),([0,2,0,1,2,6],[0,2]),([8,6,0,1,2,6],[6,8]),([3,5,0,1,2,3,4,5,6,7,8,9],[3,5]),([10,7,9,0,1,2,3,4,5,6,7,8,9],[7,10])])
def lm.B15:List Nat:=[0,0,2,0,0,16,0,0,71,327,1023,2047]
theorem lm.Jv:mi .any (opsOf Try.f98 15)=lm.T15:=by kernel_rfl
theorem lm.Fj:nY lm.T15.2 lm.B15=true:=by kernel_rfl
theorem lm.calls {k:Nat}{ai:Int}{aI:Option Addr}{av:Nat}{aa:List (S59)}{r:List Int}{w:World}(bm:Kd.C k59 w aI aa.length aa)(bn:aa.length<=av)(h:lm.f k ai aa=some r):
  Calls Try.prog 98 #[.agg #[.int .i64 ai,.slice aI aa.length av]] w fun e w'=>∃dC:Value,e=.returned (dC)/\Kd.R (Kd.int .i64) 3 w' w.heap.size (fun _=>True) dC r/\Below w.heap.size w w':=by
 have dF:=Try.underlying31;have cF:=Try.underlying59;have bz:=dm bm;have ch:=dm bn;clear bm bn;have HB:=dm (Below.refl w.heap.size w);unfold lm.f at h;have H:=h;clear h;obtain⟨cG,bo⟩:∃y_:List Int,y_=(([]:List Int)):=⟨_,rfl⟩;replace H:(lm.l0 k cG ai 0 ai aa)=some r:=lC bo H
 have ci:=dm bo;clear bo;have H':=dm H;clear H
 go_enter Try.func98,Try.ntmps98
 go_wp2_with (first|((with_reducible refine ky 1 rfl ?_);refine kS #[.int .i64 ai,.slice aI aa.length av] 31 ?_;intro au hg w2 jS hb;have ac:=dm (jS);have ej:=dm (kg:w.heap.size<=au);have dj:=dm (kg:w.heap.size<=au);replace HB:=jX HB hb;clear hb jS hg)|((with_reducible refine ky 9 rfl ?_);refine og (Kd.int .i64) rfl 3 ([]:List Int) [] (kF.none _ _) ?_;intro ez w3 bS hb hg_ kV;clear hg_ kV;(first|rw[←ci.out]at bS|(simp only [Int.reduceToNat]at bS;rw[←ci.out]at bS));have dk:=dm (kP bS (kC (jR HB.out)));replace ac:=jU ac hb;replace HB:=jX HB hb;clear hb bS;have⟨bT,bU,bV,bW⟩:=ko (w:=w3) ac))
 go_loopg [3,12] k (fun kq v3 dU w'=>∃ (ay:List Int) (ax:Int),dU=.int .i64 ax/\jP (lm.l0 kq ay ai ax ai aa=some r)/\jP (kq<=k)/\jP (Kd.R (Kd.int .i64) 3 w' w.heap.size (fun _=>True) v3 ay)/\jP (w'.heap[au]? =some (.cells #[.int .i64 ai,(.slice aI aa.length av)] 31 (0,0)))/\jP (Below w.heap.size w w'))
 case atStart=>exact⟨(cG),(0),(ku),H',⟨Nat.le_refl _⟩,⟨jV dk.out⟩,⟨jZ ac.out⟩,⟨jR HB.out⟩⟩
 case round=>
  clear H';(try clear bT bU bV bW);obtain⟨ay,ax,rfl,HA,aK,ae,ac,HB⟩:=hrel;cases gk with
  |zero=>exact absurd HA.out (by simp[lm.l0])
  |succ k1=>
   have H:=HA.out;clear HA;simp only [lm.l0]at H
   replace H:=lH H;rcases H with⟨b4,H⟩|⟨b4,H⟩
   ·skip
    obtain⟨c7,H⟩:=mH H;have dG:=dm c7;clear c7;obtain⟨cH,bp⟩:∃y_:List Int,y_=(ay++[ax]):=⟨_,rfl⟩;replace H:(lm.l0 k1 cH ai (wrap64 (ax+1)) ai aa)=some r:=lC bp H
    have dl:=dm bp;clear bp;have H':=dm H;clear H
    go_wp2_with (first|((with_reducible refine oh (b:=.append) (xs:= #[.tmp 15,.tmp 17]) rfl ?_);at_builtin;refine pg (Kd.int .i64) (w0:=w) w.heap.size rfl (.tmp 15) (.tmp 17) 45 3 (.int .i64 0) 8 rfl Try.underlying45 info3 rfl (by decide) (by omega) u3 ay ax [.int .i64 ax] (fun _=>True) (fun _=>False) rfl rfl ?aP (fun _ hk=>hk.elim) ?aF ?aO ?aB ?aS ?aL ?_;(case aP=>exact rfl);(case aB=>exact(jR HB.out));(case aF=>exact(fun _ _=>trivial));(case aO=>exact(jV ae.out));(case aS=>exact(kC (jR HB.out)));(case aL=>have:=dG.out;omega);intro eA w8 ho hb hg hat;rw[←dl.out]at ho;have n0:=lY ac hg (lS ae.out ac.out (by decide));have n1:=dm (hb);have n2:=dm (ho);clear ac HB ae;revert n0 n1 n2;intro ac HB dn;clear ho hb hg hat))
    go_roundg k1
    case measure=>have:=aK.out;omega
    case rel=>exact⟨(cH),(wrap64 (ax+1)),(ku),H',⟨by have:=aK.out;omega⟩,⟨jV dn.out⟩,⟨jZ ac.out⟩,⟨jR HB.out⟩⟩
   have H':=dm H;clear H
   go_wp2
   go_loopg [5] k1 (fun kq v5 w'=>∃ (bu:List Int) (bJ:Bool),v5=.bool bJ/\jP (lm.l1 kq bu bJ ai aa=some r)/\jP (kq<=k1)/\jP (Kd.R (Kd.int .i64) 3 w' w.heap.size (fun _=>True) u3 bu)/\jP (w'.heap[au]? =some (.cells #[.int .i64 ai,(.slice aI aa.length av)] 31 (0,0)))/\jP (Below w.heap.size w w'))
   case atStart=>exact⟨(ay),(true),(ku),H',⟨Nat.le_refl _⟩,⟨jV ae.out⟩,⟨jZ ac.out⟩,⟨jR HB.out⟩⟩
   case round=>
    clear H';(try clear b4);obtain⟨bu,bJ,rfl,HA,bC,ae,ac,HB⟩:=hrel;cases gk with
    |zero=>exact absurd HA.out (by simp[lm.l1])
    |succ k2=>
     have H:=HA.out;clear HA;simp only [lm.l1]at H
     rcases lV H with⟨h_,H_⟩|⟨h_,H_⟩<;> (subst h_;clear H;have H:=H_;clear H_)
     ·have H':=dm H;clear H;have⟨cw,cx,cy,cz⟩:=ko (w:=wr) ac
      go_wp2
      go_loopg [5,24] k2 (fun kq v5 dV w'=>∃ (ah:List Int) (bv:Bool) (ab:Int),v5=.bool bv/\dV=.int .i64 ab/\jP (lm.l2 kq ah bv aa (aa.length:Int) ab ai aa=some r)/\jP (kq<=k2)/\jP (Kd.R (Kd.int .i64) 3 w' w.heap.size (fun _=>True) u3 ah)/\jP (w'.heap[au]? =some (.cells #[.int .i64 ai,(.slice aI aa.length av)] 31 (0,0)))/\jP (Below w.heap.size w w'))
      case atStart=>exact⟨(bu),(false),(0),(ku),(ku),H',⟨Nat.le_refl _⟩,⟨jV ae.out⟩,⟨jZ ac.out⟩,⟨jR HB.out⟩⟩
      case round=>
       clear H';(try clear c9 cw cx cy cz);obtain⟨ah,bv,ab,rfl,rfl,HA,bD,ae,ac,HB⟩:=hrel;cases gk with
       |zero=>exact absurd HA.out (by simp[lm.l2])
       |succ k3=>
        have H:=HA.out;clear HA;simp only [lm.l2]at H
        replace H:=lH H;rcases H with⟨dq,H⟩|⟨dq,H⟩
        ·skip
         obtain⟨ek,H⟩:=kX H
         obtain⟨el,H⟩:=kX H
         obtain⟨em,H⟩:=kX H
         obtain⟨en,H⟩:=kX H
         obtain⟨eo,H⟩:=kX H
         obtain⟨ep,H⟩:=kX H;obtain⟨aY,bK⟩:∃j_:Int,(mn (rd ah ((jQ aa ab).f0)) (rd ah ((jQ aa ab).f1)))=j_:=⟨_,rfl⟩;replace H:(if(rd ah ((jQ aa ab).f0))=(rd ah ((jQ aa ab).f1)) then(lm.l2 k3 ah bv aa (aa.length:Int) (wrap64 (ab+1)) ai aa) else(lm.l2 k3 ((ah.set (((jQ aa ab).f0):Int).toNat (aY)).set (((jQ aa ab).f1):Int).toNat (aY)) true aa (aa.length:Int) (wrap64 (ab+1)) ai aa))=some r:=by first|(rw[bK]at H;exact H)|(simp only [bK]at H⊢;exact H)
         have dW:(if(rd ah ((jQ aa ab).f1))<(rd ah ((jQ aa ab).f0)) then(rd ah ((jQ aa ab).f1)) else(rd ah ((jQ aa ab).f0)))=aY:=bK
         by_cases bB:(rd ah ((jQ aa ab).f0))=(rd ah ((jQ aa ab).f1))
         ·rw[if_pos bB]at H;have dr:=beq_iff_eq.mpr bB;have dt:=bne_eq_false_iff_eq.mpr bB;clear bB;have H':=dm H;clear H;have a3:0<=(ab:Int):=jT;have a4:ab<(aa.length:Int):=jT;obtain⟨bl,b5,aT,aU⟩:=l7 bz.out ab a3 a4;cases b5;replace aT:=j4 HB aT;replace aU:=j4 HB aU;replace a3:=eq_true a3;replace a4:=eq_true a4;try go_wp2_with (first|((with_reducible refine ky 7 rfl ?_);refine kS #[.int .i64 0,.int .i64 0] 59 ?_;intro af hg bF jS hb;replace ae:=kD ae hb;have ag:=dm (jS);have du:=dm (kg:w.heap.size<=af);have cp:=dm (kg:w.heap.size<=af);replace HB:=jX HB hb;have aE:=dm (BG:au≠af);have aZ:=dm (BH:af≠au);replace ac:=jU ac hb;clear hb jS hg;have eq:=aZ.out;have es:=aE.out;have⟨dM,dN,dO,dP⟩:=ko (w:=bF) ag))
          have n0:jP (Kd.R (Kd.int .i64) 3 ((bF.setCell ⟨af,0,none⟩ (.int .i64 ((jQ aa ab).f0))).setCell ⟨af,1,none⟩ (.int .i64 ((jQ aa ab).f1))) w.heap.size (fun _=>True) u3 ah):=⟨BD⟩;have n1:jP (((bF.setCell ⟨af,0,none⟩ (.int .i64 ((jQ aa ab).f0))).setCell ⟨af,1,none⟩ (.int .i64 ((jQ aa ab).f1))).heap[au]? =some (.cells #[.int .i64 ai,.slice (some bl) aa.length av] 31 (0,0))):=⟨rA⟩;have n2:jP (((bF.setCell ⟨af,0,none⟩ (.int .i64 ((jQ aa ab).f0))).setCell ⟨af,1,none⟩ (.int .i64 ((jQ aa ab).f1))).heap[af]? =some (.cells #[.int .i64 ((jQ aa ab).f0),.int .i64 ((jQ aa ab).f1)] 59 (0,0))):=⟨w_⟩;have n3:jP (Below w.heap.size w ((bF.setCell ⟨af,0,none⟩ (.int .i64 ((jQ aa ab).f0))).setCell ⟨af,1,none⟩ (.int .i64 ((jQ aa ab).f1)))):=⟨jR HB.out⟩;(try clear ae ac ag HB);generalize((bF.setCell ⟨af,0,none⟩ (.int .i64 ((jQ aa ab).f0))).setCell ⟨af,1,none⟩ (.int .i64 ((jQ aa ab).f1)))=dX at n0 n1 n2 n3⊢;revert n0 n1 n2 n3;intro ae ac ag HB;replace ae:=dm (kw ae.out);replace ac:=dm (kU ac.out);replace ag:=dm (kU ag.out);replace HB:=dm (mg HB.out);obtain⟨eB,eC,cI⟩:=kK ae.out;(first|subst cI|(injection cI with bX cJ bY;have cL:=bX.symm;have cM:=bY.symm;clear bX cJ bY;subst cL;subst cM));have a5:0<=(((jQ aa ab).f0):Int):=jT;have a6:((jQ aa ab).f0)<(ah.length:Int):=jT;obtain⟨ap,b6,az⟩:=kZ (kr ae.out).2.2 ((jQ aa ab).f0) a5 a6;cases b6;replace a5:=eq_true a5;replace a6:=eq_true a6;have a7:0<=(((jQ aa ab).f1):Int):=jT;have a8:((jQ aa ab).f1)<(ah.length:Int):=jT;obtain⟨bL,b7,aA⟩:=kZ (kr ae.out).2.2 ((jQ aa ab).f1) a7 a8;obtain rfl:ap=bL:=(by injection b7);replace a7:=eq_true a7;replace a8:=eq_true a8;refine nk 12 (S:=fun w'=>w'.cell? ⟨af,0,none⟩=some (.int .i64 ((jQ aa ab).f0))/\w'.cell? ⟨af,1,none⟩=some (.int .i64 ((jQ aa ab).f1))/\w'.cell? (ap.add (((jQ aa ab).f0)).toNat)=some (.int .i64 (rd ah ((jQ aa ab).f0)))/\w'.cell? (ap.add (((jQ aa ab).f1)).toNat)=some (.int .i64 (rd ah ((jQ aa ab).f1)))) [] ⟨jY ag 0,jY ag 1,az,aA⟩ lm.D9 lm.AJ (fun hHeld HT_ HW_=>?_);generalize dX.drew=dY at ae ac ag HB az aA hHeld⊢;refine jW 0 28 1 ?_;refine jW 1 29 3 ?_;refine jW 5 33 35 ?_;refine jW 6 34 99 ?_;refine kL 2 30 103 ?_;refine jW 3 31 111 ?_;refine kL 4 32 127 ?_;refine kL 7 35 255 ?_;refine jW 8 36 511 ?_;refine kL 9 37 1023 ?_;refine jW 10 38 2047 ?_;refine jW 11 8 4095 ?_;refine mD (mV HT_.out (by kernel_rfl)) ?_;try go_wp2
          replace ae:=dm (kw ae.out);replace ac:=dm (kU ac.out);replace ag:=dm (kU ag.out);replace HB:=dm (mg HB.out);have a9:0<=(((jQ aa ab).f0):Int):=jT;have a_:((jQ aa ab).f0)<(ah.length:Int):=jT;obtain⟨bM,b8,aC⟩:=kZ (kr ae.out).2.2 ((jQ aa ab).f0) a9 a_;obtain rfl:ap=bM:=(by injection b8);replace a9:=eq_true a9;replace a_:=eq_true a_;have ba:0<=(((jQ aa ab).f1):Int):=jT;have bd:((jQ aa ab).f1)<(ah.length:Int):=jT;obtain⟨bN,b9,aD⟩:=kZ (kr ae.out).2.2 ((jQ aa ab).f1) ba bd;obtain rfl:ap=bN:=(by injection b9);replace ba:=eq_true ba;replace bd:=eq_true bd;refine nk 11 (S:=fun w'=>w'.cell? ⟨af,0,none⟩=some (.int .i64 ((jQ aa ab).f0))/\w'.cell? ⟨af,1,none⟩=some (.int .i64 ((jQ aa ab).f1))/\w'.cell? (ap.add (((jQ aa ab).f0)).toNat)=some (.int .i64 (rd ah ((jQ aa ab).f0)))/\w'.cell? (ap.add (((jQ aa ab).f1)).toNat)=some (.int .i64 (rd ah ((jQ aa ab).f1)))) [] ⟨jY ag 0,jY ag 1,aC,aD⟩ lm.D_ lm.AL (fun hHeld HT_ HW_=>?_);generalize dY.drew=eN at ae ac ag HB aC aD hHeld⊢;refine jW 0 39 1 ?_;refine jW 1 40 3 ?_;refine jW 5 44 35 ?_;refine jW 6 45 99 ?_;refine kL 2 41 103 ?_;refine jW 3 42 111 ?_;refine kL 4 43 127 ?_;refine kL 7 46 255 ?_;refine jW 8 47 511 ?_;refine kL 9 48 1023 ?_;refine jW 10 49 2047 ?_;refine mD (mV HT_.out (by kernel_rfl)) ?_;try go_wp2
          go_roundg k3
          case measure=>have:=aK.out;have:=bC.out;have:=bD.out;omega
          case rel=>exact⟨(ah),(bv),(wrap64 (ab+1)),(ku),(ku),H',⟨by have:=aK.out;have:=bC.out;have:=bD.out;omega⟩,⟨jV ae.out⟩,⟨jZ ac.out⟩,⟨jR HB.out⟩⟩
         rw[if_neg bB]at H;have dr:=beq_eq_false_iff_ne.mpr bB;have dt:=bne_iff_ne.mpr bB;obtain⟨cN,bq⟩:∃y_:List Int,y_=(ah.set (((jQ aa ab).f0):Int).toNat (aY)):=⟨_,rfl⟩;replace H:(lm.l2 k3 (cN.set (((jQ aa ab).f1):Int).toNat (aY)) true aa (aa.length:Int) (wrap64 (ab+1)) ai aa)=some r:=lC bq H
         have dv:=dm bq;clear bq;obtain⟨cO,br⟩:∃y_:List Int,y_=(cN.set (((jQ aa ab).f1):Int).toNat (aY)):=⟨_,rfl⟩;replace H:(lm.l2 k3 cO true aa (aa.length:Int) (wrap64 (ab+1)) ai aa)=some r:=lC br H
         have dw:=dm br;clear br;have H':=dm H;clear H;have a3:0<=(ab:Int):=jT;have a4:ab<(aa.length:Int):=jT;obtain⟨bl,b5,aT,aU⟩:=l7 bz.out ab a3 a4;cases b5;replace aT:=j4 HB aT;replace aU:=j4 HB aU;replace a3:=eq_true a3;replace a4:=eq_true a4;try go_wp2_with (first|((with_reducible refine ky 7 rfl ?_);refine kS #[.int .i64 0,.int .i64 0] 59 ?_;intro af hg bG jS hb;replace ae:=kD ae hb;have ag:=dm (jS);have du:=dm (kg:w.heap.size<=af);have cp:=dm (kg:w.heap.size<=af);replace HB:=jX HB hb;have aE:=dm (BG:au≠af);have aZ:=dm (BH:af≠au);replace ac:=jU ac hb;clear hb jS hg;have et:=aZ.out;have eu:=aE.out;have⟨dQ,dR,dS,dT⟩:=ko (w:=bG) ag))
         have n0:jP (Kd.R (Kd.int .i64) 3 ((bG.setCell ⟨af,0,none⟩ (.int .i64 ((jQ aa ab).f0))).setCell ⟨af,1,none⟩ (.int .i64 ((jQ aa ab).f1))) w.heap.size (fun _=>True) u3 ah):=⟨BD⟩;have n1:jP (((bG.setCell ⟨af,0,none⟩ (.int .i64 ((jQ aa ab).f0))).setCell ⟨af,1,none⟩ (.int .i64 ((jQ aa ab).f1))).heap[au]? =some (.cells #[.int .i64 ai,.slice (some bl) aa.length av] 31 (0,0))):=⟨rA⟩;have n2:jP (((bG.setCell ⟨af,0,none⟩ (.int .i64 ((jQ aa ab).f0))).setCell ⟨af,1,none⟩ (.int .i64 ((jQ aa ab).f1))).heap[af]? =some (.cells #[.int .i64 ((jQ aa ab).f0),.int .i64 ((jQ aa ab).f1)] 59 (0,0))):=⟨w_⟩;have n3:jP (Below w.heap.size w ((bG.setCell ⟨af,0,none⟩ (.int .i64 ((jQ aa ab).f0))).setCell ⟨af,1,none⟩ (.int .i64 ((jQ aa ab).f1)))):=⟨jR HB.out⟩;(try clear ae ac ag HB);generalize((bG.setCell ⟨af,0,none⟩ (.int .i64 ((jQ aa ab).f0))).setCell ⟨af,1,none⟩ (.int .i64 ((jQ aa ab).f1)))=dZ at n0 n1 n2 n3⊢;revert n0 n1 n2 n3;intro ae ac ag HB;replace ae:=dm (kw ae.out);replace ac:=dm (kU ac.out);replace ag:=dm (kU ag.out);replace HB:=dm (mg HB.out);obtain⟨eD,eE,cP⟩:=kK ae.out;(first|subst cP|(injection cP with bX cJ bY;have cL:=bX.symm;have cM:=bY.symm;clear bX cJ bY;subst cL;subst cM));have a5:0<=(((jQ aa ab).f0):Int):=jT;have a6:((jQ aa ab).f0)<(ah.length:Int):=jT;obtain⟨ap,b6,az⟩:=kZ (kr ae.out).2.2 ((jQ aa ab).f0) a5 a6;cases b6;replace a5:=eq_true a5;replace a6:=eq_true a6;have a7:0<=(((jQ aa ab).f1):Int):=jT;have a8:((jQ aa ab).f1)<(ah.length:Int):=jT;obtain⟨bL,b7,aA⟩:=kZ (kr ae.out).2.2 ((jQ aa ab).f1) a7 a8;obtain rfl:ap=bL:=(by injection b7);replace a7:=eq_true a7;replace a8:=eq_true a8;refine nk 12 (S:=fun w'=>w'.cell? ⟨af,0,none⟩=some (.int .i64 ((jQ aa ab).f0))/\w'.cell? ⟨af,1,none⟩=some (.int .i64 ((jQ aa ab).f1))/\w'.cell? (ap.add (((jQ aa ab).f0)).toNat)=some (.int .i64 (rd ah ((jQ aa ab).f0)))/\w'.cell? (ap.add (((jQ aa ab).f1)).toNat)=some (.int .i64 (rd ah ((jQ aa ab).f1)))) [] ⟨jY ag 0,jY ag 1,az,aA⟩ lm.D9 lm.AJ (fun hHeld HT_ HW_=>?_);generalize dZ.drew=d7 at ae ac ag HB az aA hHeld⊢;refine jW 0 28 1 ?_;refine jW 1 29 3 ?_;refine jW 5 33 35 ?_;refine jW 6 34 99 ?_;refine kL 2 30 103 ?_;refine jW 3 31 111 ?_;refine kL 4 32 127 ?_;refine kL 7 35 255 ?_;refine jW 8 36 511 ?_;refine kL 9 37 1023 ?_;refine jW 10 38 2047 ?_;refine jW 11 8 4095 ?_;refine mD (mV HT_.out (by kernel_rfl)) ?_;try go_wp2
         replace ae:=dm (kw ae.out);replace ac:=dm (kU ac.out);replace ag:=dm (kU ag.out);replace HB:=dm (mg HB.out);have a9:0<=(((jQ aa ab).f0):Int):=jT;have a_:((jQ aa ab).f0)<(ah.length:Int):=jT;obtain⟨bM,b8,aC⟩:=kZ (kr ae.out).2.2 ((jQ aa ab).f0) a9 a_;obtain rfl:ap=bM:=(by injection b8);replace a9:=eq_true a9;replace a_:=eq_true a_;have ba:0<=(((jQ aa ab).f1):Int):=jT;have bd:((jQ aa ab).f1)<(ah.length:Int):=jT;obtain⟨bN,b9,aD⟩:=kZ (kr ae.out).2.2 ((jQ aa ab).f1) ba bd;obtain rfl:ap=bN:=(by injection b9);replace ba:=eq_true ba;replace bd:=eq_true bd;refine nk 11 (S:=fun w'=>w'.cell? ⟨af,0,none⟩=some (.int .i64 ((jQ aa ab).f0))/\w'.cell? ⟨af,1,none⟩=some (.int .i64 ((jQ aa ab).f1))/\w'.cell? (ap.add (((jQ aa ab).f0)).toNat)=some (.int .i64 (rd ah ((jQ aa ab).f0)))/\w'.cell? (ap.add (((jQ aa ab).f1)).toNat)=some (.int .i64 (rd ah ((jQ aa ab).f1)))) [] ⟨jY ag 0,jY ag 1,aC,aD⟩ lm.D_ lm.AL (fun hHeld HT_ HW_=>?_);generalize d7.drew=d8 at ae ac ag HB aC aD hHeld⊢;refine jW 0 39 1 ?_;refine jW 1 40 3 ?_;refine jW 5 44 35 ?_;refine jW 6 45 99 ?_;refine kL 2 41 103 ?_;refine jW 3 42 111 ?_;refine kL 4 43 127 ?_;refine kL 7 46 255 ?_;refine jW 8 47 511 ?_;refine kL 9 48 1023 ?_;refine jW 10 49 2047 ?_;refine mD (mV HT_.out (by kernel_rfl)) ?_;try go_wp2
         replace ae:=dm (kw ae.out);replace ac:=dm (kU ac.out);replace ag:=dm (kU ag.out);replace HB:=dm (mg HB.out);have cQ:0<=(((jQ aa ab).f0):Int):=jT;have cS:(((jQ aa ab).f0):Int)<((ah.length:Int):Int):=jT;obtain⟨eF,eG,cT,cU,dH,eH,cW⟩:=sQ ae.out (by omega);(first|cases cT|(injection cT with ea_ en_ ec_;(first|subst ea_|(injection ea_ with ea_;subst ea_));subst ec_;clear en_));have cX:=dm cU;have dI:=dm cW;clear cU dH cW;(first|simp only [add_plain]at az|skip);(first|simp only [add_plain]at aA|skip);(first|simp only [add_plain]at aC|skip);(first|simp only [add_plain]at aD|skip);obtain⟨cY,cZ⟩:=qR 0 ae.out (((jQ aa ab).f0):Int) cQ cS;replace cQ:=eq_true cQ;replace cS:=eq_true cS;have b_:=x_ ae.out (((jQ aa ab).f0):Int) aY;rw[←dv.out]at b_;have ca:=dm b_;clear b_;have c_:0<=(((jQ aa ab).f1):Int):=jT;have db:(((jQ aa ab).f1):Int)<((ah.length:Int):Int):=jT;obtain⟨dc,dd⟩:=qR 0 ca.out (((jQ aa ab).f1):Int) c_ db;replace c_:=eq_true c_;replace db:=eq_true db;have cd:=x_ ca.out (((jQ aa ab).f1):Int) aY;rw[←dw.out]at cd;have de:=dm cd;clear cd;refine nk 12 (S:=fun w'=>w'.cell? ⟨af,0,none⟩=some (.int .i64 ((jQ aa ab).f0))/\w'.cell? ⟨af,1,none⟩=some (.int .i64 ((jQ aa ab).f1))) [11] ⟨jY ag 0,jY ag 1⟩ lm.Jv lm.Fj (fun hHeld HT_ HW_=>?_);generalize d8.drew=eO at ae ac ag HB dI ca de cZ dd cY dc az aA aC aD hHeld⊢;refine jW 0 50 1 ?_;refine jW 1 51 3 ?_;refine jW 3 53 11 ?_;refine jW 4 54 27 ?_;refine jW 6 56 91 ?_;refine jW 7 57 219 ?_;refine kL 2 52 223 ?_;refine jW 8 58 479 ?_;refine kL 5 55 511 ?_;refine zu 9 (none) (lJ 12 1023) (fun K hK=>?_);refine r_ (w1:= ?_) (by rfl) rfl ?_ ?_;rotate_left
         ·go_simp
          rfl
         refine hK.out _ _ ⟨((cell_far (fun e_=>lS ae.out ag.out (by decide) (congrArg some e_)) _).trans (hHeld.1)),((cell_far (fun e_=>lS ae.out ag.out (by decide) (congrArg some e_)) _).trans (hHeld.2))⟩ (fun hHeld=>?_);clear hK K;refine jW 10 59 2047 ?_;refine uq 11 (none) (lJ 12 4095) (fun K hK=>?_);refine r_ (w1:= ?_) (by rfl) rfl ?_ ?_;rotate_left
         ·go_simp
          rfl
         refine hK.out _ _ ?_;clear hK K;refine mD (mV HT_.out (by kernel_rfl)) ?_;try go_wp2
         go_roundg k3
         case measure=>have:=aK.out;have:=bC.out;have:=bD.out;omega
         case rel=>exact⟨(cO),(true),(wrap64 (ab+1)),(ku),(ku),H',⟨by have:=aK.out;have:=bC.out;have:=bD.out;omega⟩,⟨jV de.out⟩,⟨by(with_reducible repeat(first|refine o8 ?_ _|refine kU ?_|refine nQ ?_ _));refine pV ?_ (by have h_:=lS ae.out ac.out (by decide);intro e_;exact h_ (by rw[e_];rfl)) _;(with_reducible repeat(first|refine o8 ?_ _|refine kU ?_|refine nQ ?_ _));refine pV ?_ (by have h_:=lS ae.out ac.out (by decide);intro e_;exact h_ (by rw[e_];rfl)) _;(with_reducible repeat(first|refine o8 ?_ _|refine kU ?_|refine nQ ?_ _));exact ac.out⟩,⟨by repeat(first|(with_reducible first|exact HB.out|apply qx|apply qO|apply mg|refine ou ?_ cX.out|refine ou ?_ cX.out|refine ou ?_ dj.out|refine ou ?_ cp.out)|exact HB.out)⟩⟩
        have H':=dm H;clear H
        go_wp2
        go_roundg k3
        case measure=>have:=aK.out;have:=bC.out;have:=bD.out;omega
        case rel=>exact⟨(ah),(bv),(ku),H',⟨by have:=aK.out;have:=bC.out;have:=bD.out;omega⟩,⟨jV ae.out⟩,⟨jZ ac.out⟩,⟨jR HB.out⟩⟩
     obtain rfl:=Option.some.inj H
     go_wp2
     go_ret
     exact⟨_,mW,jV ae.out,jR HB.out⟩
def pz.l0:Nat->Int->List Int->Int->Int->Option (Int)
 |0,_,_,_,_=>none
 |k+1,x3,x7,x8,x9=>if x9<x8 then(if 0<=x9 then(if x9<(x7.length:Int) then(if x9=(rd x7 x9) then(pz.l0 k (wrap64 (x3+1)) x7 x8 (wrap64 (x9+1))) else(pz.l0 k x3 x7 x8 (wrap64 (x9+1)))) else(none)) else(none)) else(some x3)
def pz.f (k:Nat) (ai:Int) (aa:List (S59)):Option (Int):=(lm.f k ai aa).bind fun ao=>(pz.l0 k 0 ao (ao.length:Int) 0)
theorem pz.calls {k:Nat}{ai:Int}{aI:Option Addr}{av:Nat}{aa:List (S59)}{r:Int}{w:World}(bm:Kd.C k59 w aI aa.length aa)(bn:aa.length<=av)(h:pz.f k ai aa=some r):
  Calls Try.prog 63 #[.agg #[.int .i64 ai,.slice aI aa.length av]] w fun e w'=>e=.returned (.int .i64 r)/\Below w.heap.size w w':=by
 have dF:=Try.underlying31;have bz:=dm bm;have ch:=dm bn;clear bm bn;have HB:=dm (Below.refl w.heap.size w);unfold pz.f at h;have H:=h;clear h;obtain⟨ao,A2,H⟩:=kR H;(try dsimp only at H);have H':=dm H;clear H
 go_enter Try.func63,Try.ntmps63
 go_wp2_with (first|((with_reducible refine ky 1 rfl ?_);refine kS #[.int .i64 ai,.slice aI aa.length av] 31 ?_;intro bO hg w3 jS hb;have aR:=dm (jS);have ev:=dm (kg:w.heap.size<=bO);have ew:=dm (kg:w.heap.size<=bO);replace HB:=jX HB hb;clear hb jS hg;have⟨df,dg,dh,di⟩:=ko (w:=w3) aR)|((with_reducible refine kQ 98 rfl ?_);refine lL 7 rfl Try.func98 (lm.calls (kv (kN bz.out HB.out)) ch.out A2.out) ?_;rintro e w5 ⟨eI,rfl,dD,hb⟩;refine⟨_,rfl,?_⟩;have cq:=dm (kP dD (kC (jR HB.out)));replace aR:=jU aR hb;replace HB:=jX HB hb;(try clear hb dD);obtain⟨d9,d_,ea⟩:=kK cq.out;subst ea))
 go_loopg [3,9] k (fun kq v3 v9 w'=>∃ (ay:Int) (ak:Int),v3=.int .i64 ay/\v9=.int .i64 ak/\jP (pz.l0 kq ay ao (ao.length:Int) ak=some r)/\jP (kq<=k)/\jP (Kd.R (Kd.int .i64) 3 w' w.heap.size (fun _=>True) (.slice d9 ao.length d_) ao)/\jP (w'.heap[bO]? =some (.cells #[.int .i64 ai,(.slice aI aa.length av)] 31 (0,0)))/\jP (Below w.heap.size w w'))
 case atStart=>exact⟨(0),(0),(ku),(ku),H',⟨Nat.le_refl _⟩,⟨jV cq.out⟩,⟨jZ aR.out⟩,⟨jR HB.out⟩⟩
 case round=>
  clear H';(try clear df dg dh di);obtain⟨ay,ak,rfl,rfl,HA,aK,bP,aR,HB⟩:=hrel;cases gk with
  |zero=>exact absurd HA.out (by simp[pz.l0])
  |succ k1=>
   have H:=HA.out;clear HA;simp only [pz.l0]at H
   replace H:=lH H;rcases H with⟨ce,H⟩|⟨ce,H⟩
   ·skip
    obtain⟨eJ,H⟩:=kX H
    obtain⟨eK,H⟩:=kX H
    by_cases c10:ak=(rd ao ak)
    ·rw[if_pos c10]at H;have dx:=beq_iff_eq.mpr c10;have dy:=bne_eq_false_iff_eq.mpr c10;clear c10;have H':=dm H;clear H;have bf:0<=(ak:Int):=jT;have bh:ak<(ao.length:Int):=jT;obtain⟨dz,cf,cA⟩:=kZ (kr bP.out).2.2 ak bf bh;cases cf;replace bf:=eq_true bf;replace bh:=eq_true bh
     go_wp2
     go_roundg k1
     case measure=>have:=aK.out;omega
     case rel=>exact⟨(wrap64 (ay+1)),(wrap64 (ak+1)),(ku),(ku),H',⟨by have:=aK.out;omega⟩,⟨jV bP.out⟩,⟨jZ aR.out⟩,⟨jR HB.out⟩⟩
    rw[if_neg c10]at H;have dx:=beq_eq_false_iff_ne.mpr c10;have dy:=bne_iff_ne.mpr c10;have H':=dm H;clear H;have bf:0<=(ak:Int):=jT;have bh:ak<(ao.length:Int):=jT;obtain⟨dz,cf,cA⟩:=kZ (kr bP.out).2.2 ak bf bh;cases cf;replace bf:=eq_true bf;replace bh:=eq_true bh
    go_wp2
    go_roundg k1
    case measure=>have:=aK.out;omega
    case rel=>exact⟨(ay),(wrap64 (ak+1)),(ku),(ku),H',⟨by have:=aK.out;omega⟩,⟨jV bP.out⟩,⟨jZ aR.out⟩,⟨jR HB.out⟩⟩
   obtain rfl:=Option.some.inj H
   go_wp2
   go_ret
   exact⟨lT,jR HB.out⟩
def qm.l0:Nat->List (S59)->Int->Int->Int->Int->Option (Int)
 |0,_,_,_,_,_=>none
 |k+1,x0,x7,x8,bH,bI=>if x8<x7 then(if 0<=x8 then(if x8<(x0.length:Int) then(if(bH==((jQ x0 x8).f0)&&(bI==((jQ x0 x8).f1)))=true then(some x8) else(qm.l0 k x0 x7 (wrap64 (x8+1)) bH bI)) else(none)) else(none)) else(some (-1))
def qm.f (k:Nat) (l0:List (S59)) (al:Int) (am:Int):Option (Int):=qm.l0 k l0 (l0.length:Int) 0 al am
theorem qm.calls {k:Nat}{A0:Option Addr}{c0:Nat}{l0:List (S59)}{al:Int}{am:Int}{r:Int}{w:World}(bZ:Kd.C k59 w A0 l0.length l0)(b3:l0.length<=c0)(h:qm.f k l0 al am=some r):
  Calls Try.prog 111 #[.slice A0 l0.length c0,.agg #[.int .i64 al,.int .i64 am]] w fun e w'=>e=.returned (.int .i64 r)/\Below w.heap.size w w':=by
 have cF:=Try.underlying59;have cr:=dm bZ;have dE:=dm b3;clear bZ b3;have HB:=dm (Below.refl w.heap.size w);unfold qm.f at h;have H:=h;clear h;have H':=dm H;clear H
 go_enter Try.func111,Try.ntmps111
 go_wp2_with (first|((with_reducible refine ky 3 rfl ?_);refine kS #[.int .i64 al,.int .i64 am] 59 ?_;intro aM hg w3 jS hb;have aX:=dm (jS);have ct:=dm (kg:w.heap.size<=aM);have cu:=dm (kg:w.heap.size<=aM);replace HB:=jX HB hb;clear hb jS hg))
 repeat(go_quiet (first|((with_reducible refine ky 3 rfl ?_);refine kS #[.int .i64 al,.int .i64 am] 59 ?_;intro aM hg w3 jS hb;have aX:=dm (jS);have ct:=dm (kg:w.heap.size<=aM);have cu:=dm (kg:w.heap.size<=aM);replace HB:=jX HB hb;clear hb jS hg));try go_wp2_with (first|((with_reducible refine ky 3 rfl ?_);refine kS #[.int .i64 al,.int .i64 am] 59 ?_;intro aM hg w3 jS hb;have aX:=dm (jS);have ct:=dm (kg:w.heap.size<=aM);have cu:=dm (kg:w.heap.size<=aM);replace HB:=jX HB hb;clear hb jS hg)))
 go_loopg [8] k (fun kq v8 w'=>∃ (aj:Int),v8=.int .i64 aj/\jP (qm.l0 kq l0 (l0.length:Int) aj al am=some r)/\jP (kq<=k)/\jP (w'.heap[aM]? =some (.cells #[.int .i64 al,.int .i64 am] 59 (0,0)))/\jP (Below w.heap.size w w'))
 case atStart=>exact⟨(0),(ku),H',⟨Nat.le_refl _⟩,⟨jZ aX.out⟩,⟨jR HB.out⟩⟩
 case round=>
  clear H';obtain⟨aj,rfl,HA,aK,aX,HB⟩:=hrel;cases gk with
  |zero=>exact absurd HA.out (by simp[qm.l0])
  |succ k1=>
   have H:=HA.out;clear HA;simp only [qm.l0]at H
   replace H:=lH H;rcases H with⟨dJ,H⟩|⟨dJ,H⟩
   ·skip
    obtain⟨eL,H⟩:=kX H
    obtain⟨b4,H⟩:=kX H
    by_cases c7:(al==((jQ l0 aj).f0)&&(am==((jQ l0 aj).f1)))=true
    ·rw[if_pos c7]at H;have ce:(al==((jQ l0 aj).f0)&&(am==((jQ l0 aj).f1)))=true:=c7;(try(have dK:decide (al=((jQ l0 aj).f0)&&(am==((jQ l0 aj).f1)))=true:=by simpa using c7));(try(have dL:(al==((jQ l0 aj).f0)&&(am==((jQ l0 aj).f1)))=true:=by simpa using c7));clear c7;obtain rfl:=Option.some.inj H;have⟨eb,ec,ed,ee⟩:=ko (w:=wr) aX;have bj:0<=(aj:Int):=jT;have bk:aj<(l0.length:Int):=jT;obtain⟨dA,cg,aV,aW⟩:=l7 cr.out aj bj bk;cases cg;replace aV:=j4 HB aV;replace aW:=j4 HB aW;replace bj:=eq_true bj;replace bk:=eq_true bk
     go_wp2
     repeat(go_quiet (fail);try go_wp2)
     go_ret
     exact⟨lT,jR HB.out⟩
    rw[if_neg c7]at H;have ce:(al==((jQ l0 aj).f0)&&(am==((jQ l0 aj).f1)))=false:=by simpa using c7
    (try(have dK:decide (al=((jQ l0 aj).f0)&&(am==((jQ l0 aj).f1)))=false:=by simpa using c7));(try(have dL:(al==((jQ l0 aj).f0)&&(am==((jQ l0 aj).f1)))=false:=by simpa using c7));(try(have eM:¬ (al=((jQ l0 aj).f0)&&(am==((jQ l0 aj).f1))):=by simpa using c7));clear c7;have H':=dm H;clear H;have⟨ef,eg,eh,ei⟩:=ko (w:=wr) aX;have bj:0<=(aj:Int):=jT;have bk:aj<(l0.length:Int):=jT;obtain⟨dA,cg,aV,aW⟩:=l7 cr.out aj bj bk;cases cg;replace aV:=j4 HB aV;replace aW:=j4 HB aW;replace bj:=eq_true bj;replace bk:=eq_true bk
    go_wp2
    repeat(go_quiet (fail);try go_wp2)
    go_roundg k1
    case measure=>have:=aK.out;omega
    case rel=>exact⟨(wrap64 (aj+1)),(ku),H',⟨by have:=aK.out;omega⟩,⟨jZ aX.out⟩,⟨jR HB.out⟩⟩
   obtain rfl:=Option.some.inj H
   go_wp2
   repeat(go_quiet (fail);try go_wp2)
   go_ret
   exact⟨lT,jR HB.out⟩
def si.f (k:Nat) (l0:List (S59)) (al:Int) (am:Int):Option (Bool):=(qm.f k l0 al am).bind fun bx=>(some (decide (bx>=0)))
theorem si.calls {k:Nat}{A0:Option Addr}{c0:Nat}{l0:List (S59)}{al:Int}{am:Int}{r:Bool}{w:World}(bZ:Kd.C k59 w A0 l0.length l0)(b3:l0.length<=c0)(h:si.f k l0 al am=some r):
  Calls Try.prog 81 #[.slice A0 l0.length c0,.agg #[.int .i64 al,.int .i64 am]] w fun e w'=>e=.returned (.bool r)/\Below w.heap.size w w':=by
 have cF:=Try.underlying59;have cr:=dm bZ;have dE:=dm b3;clear bZ b3;have HB:=dm (Below.refl w.heap.size w);unfold si.f at h;have H:=h;clear h;obtain⟨bx,A3,H⟩:=kR H;(try dsimp only at H);obtain rfl:=Option.some.inj H
 go_enter Try.func81,Try.ntmps81
 go_wp2_with (first|((with_reducible refine ky 3 rfl ?_);refine kS #[.int .i64 al,.int .i64 am] 59 ?_;intro cv hg w4 jS hb;have bA:=dm (jS);have ex:=dm (kg:w.heap.size<=cv);have ey:=dm (kg:w.heap.size<=cv);replace HB:=jX HB hb;clear hb jS hg;have⟨bT,bU,bV,bW⟩:=ko (w:=w4) bA)|((with_reducible refine kQ 111 rfl ?_);refine nC 7 rfl Try.func111 (qm.calls (kv (kN cr.out HB.out)) dE.out A3.out) ?_;intro w6 hb;replace bA:=jU bA hb;replace HB:=jX HB hb;(try clear hb)))
 go_ret
 exact⟨lT,jR HB.out⟩
theorem BI(h:p:=by exact lI au.out):p:=h
theorem BJ(h:p:=by exact lI ah.out):p:=h
theorem BL(h:p:=by(with_reducible repeat(first|apply kI|apply kJ|apply kw));exact(kz (lh (p:=⟨aj,1,none⟩) (lh (p:=⟨aj,0,none⟩) (kz ac.out (fun k_ hk=>(⟨hk,hk.2⟩:_/\k_≠aj))) (fun _ hk=>hk.2) (.int .i64 ((jQ aa ab).f0))) (fun _ hk=>hk.2) (.int .i64 ((jQ aa ab).f1))) (fun _ h_=>h_.1))):p:=h
theorem BM(h:p:=by rw[hg];exact Nat.ne_of_lt (lq (g:=ap) (o:=.cells #[.int .i64 ae,.slice (some a4) aa.length av] 31 (0,0)) (jZ af.out))):p:=h
theorem BO(h:p:=by rw[hg];exact Nat.ne_of_gt (lq (g:=ap) (o:=.cells #[.int .i64 ae,.slice (some a4) aa.length av] 31 (0,0)) (jZ af.out))):p:=h
theorem Bt(h:p:=by rw[hg];exact Nat.ne_of_lt (lq (g:=ap) (o:=.cells #[.int .i64 ae,.slice aD aa.length av] 31 (0,0)) (jZ af.out))):p:=h
theorem Bu(h:p:=by rw[hg];exact Nat.ne_of_gt (lq (g:=ap) (o:=.cells #[.int .i64 ae,.slice aD aa.length av] 31 (0,0)) (jZ af.out))):p:=h
theorem yU(h:p:=by rw[hg];exact Nat.ne_of_lt (lq (g:=am) (o:=.cells #[.int .i64 0,.slice none 0 0] 31 (0,0)) (jZ ag.out))):p:=h
theorem yT(h:p:=by rw[hg];exact Nat.ne_of_gt (lq (g:=am) (o:=.cells #[.int .i64 0,.slice none 0 0] 31 (0,0)) (jZ ag.out))):p:=h
def nE.l0:Nat->List (S59)->List (S59)->Int->Int->Int->List (S59)->Option (Int× (List (S59)))
 |0,_,_,_,_,_,_=>none
 |k+1,x1,bm,b3,a5,bf,aW=>if a5<b3 then(if 0<=a5 then(if a5<(bm.length:Int) then((si.f k x1 ((jQ bm a5).f0) ((jQ bm a5).f1)).bind fun bC=>(if bC=true then(nE.l0 k x1 bm b3 (wrap64 (a5+1)) bf aW) else(if aW.length<8796093022208 then(nE.l0 k x1 bm b3 (wrap64 (a5+1)) bf (aW++[(⟨(jQ bm a5).f0,(jQ bm a5).f1⟩:S59)])) else(none)))) else(none)) else(none)) else(some (bf,aW))
def nE.f (k:Nat) (ae:Int) (aa:List (S59)) (l1:List (S59)):Option (Int× (List (S59))):=nE.l0 k l1 aa (aa.length:Int) 0 ae (([]:List (S59)))
theorem nE.calls {k:Nat}{ae:Int}{aD:Option Addr}{av:Nat}{aa:List (S59)}{A1:Option Addr}{c1:Nat}{l1:List (S59)}{r1:Int}{r2:List (S59)}{w:World}(a6:Kd.C k59 w aD aa.length aa)(a7:aa.length<=av)(hr1:Kd.C k59 w A1 l1.length l1)(co:l1.length<=c1)(h:nE.f k ae aa l1=some (r1,r2)):
  Calls Try.prog 66 #[.agg #[.int .i64 ae,.slice aD aa.length av],.slice A1 l1.length c1] w fun e w'=>∃cp:Value,e=.returned (.agg #[.int .i64 r1,cp])/\Kd.R k59 59 w' w.heap.size (fun _=>True) cp r2/\Below w.heap.size w w':=by
 have cz:=Try.underlying31;have d7:=Try.underlying59;have aX:=dm a6;have bl:=dm a7;clear a6 a7;have cq:=dm hr1;have cr:=dm co;clear hr1 co;have HB:=dm (Below.refl w.heap.size w);unfold nE.f at h;have H:=h;clear h;obtain⟨bD,a8⟩:∃y_:List (S59),y_=(([]:List (S59))):=⟨_,rfl⟩;replace H:(nE.l0 k l1 aa (aa.length:Int) 0 ae bD)=some (r1,r2):=lC a8 H
 have bJ:=dm a8;clear a8;have H':=dm H;clear H
 go_enter Try.func66,Try.ntmps66
 go_wp2_with (first|((with_reducible refine ky 2 rfl ?_);refine kS #[.int .i64 ae,.slice aD aa.length av] 31 ?_;intro ap hg w3 jS hb;have af:=dm (jS);have dr:=dm (kg:w.heap.size<=ap);have dt:=dm (kg:w.heap.size<=ap);replace HB:=jX HB hb;clear hb jS hg)|((with_reducible refine ky 4 rfl ?_);refine kS #[.int .i64 0,.slice none 0 0] 31 ?_;intro am hg w4 jS hb;have ag:=dm (jS);have du:=dm (kg:w.heap.size<=am);have dv:=dm (kg:w.heap.size<=am);replace HB:=jX HB hb;have bh:=dm (Bt:ap≠am);have bj:=dm (Bu:am≠ap);replace af:=jU af hb;clear hb jS hg;have d8:=bh.out;have d9:=bj.out;have⟨b4,b5,b6,b7⟩:=ko (w:=w4) af)|((with_reducible refine ky 10 rfl ?_);refine og k59 rfl 59 ([]:List (S59)) [] (kF.none _ _) ?_;intro d_ w7 bG hb hg_ kV;clear hg_ kV;(first|rw[←bJ.out]at bG|(simp only [Int.reduceToNat]at bG;rw[←bJ.out]at bG));have a9:=dm (kP bG (kC (jR HB.out)));replace af:=jU af hb;replace ag:=jU ag hb;replace HB:=jX HB hb;clear hb bG;obtain⟨ct,cu,dj⟩:=kK a9.out;subst dj)|((with_reducible refine ky 5 rfl ?_);refine kS #[.int .i64 0,.slice none 0 0] 31 ?_;intro al hg cv jS hb;have n0:=kD a9 hb;have n1:=jU af hb;have n2:=jU ag hb;have n3:=jX HB hb;have n4:=dm (jS);have n5:=dm (kg:w.heap.size<=al);have n6:=dm (kg:w.heap.size<=al);have n7:=dm (Bt:ap≠al);have n8:=dm (Bu:al≠ap);have n9:=dm (yU:am≠al);have bH:=dm (yT:al≠am);clear a9 af ag HB;revert n0 n1 n2 n3 n4 n5 n6 n7 n8 n9 bH;intro a9 af ag HB ah dw dx aw aQ ax aR;clear hb jS hg;have dy:=aQ.out;have dz:=aw.out;have dA:=aR.out;have dB:=ax.out;have⟨bS,bT,bU,bV⟩:=ko (w:=cv) ah;have⟨bW,bX,bY,bZ⟩:=ko (w:=cv) af))
 go_loopg [15] k (fun kq dk w'=>∃ (ab:Int) (ai:List (S59)) (ao:Value),dk=.int .i64 ab/\jP (nE.l0 kq l1 aa (aa.length:Int) ab ae ai=some (r1,r2))/\jP (kq<=k)/\jP (Kd.R k59 59 w' w.heap.size (fun _=>True) ao ai)/\jP (w'.heap[ap]? =some (.cells #[.int .i64 ae,(.slice aD aa.length av)] 31 (0,0)))/\jP (w'.heap[am]? =some (.cells #[.int .i64 0,(.slice none 0 0)] 31 (0,0)))/\jP (w'.heap[al]? =some (.cells #[.int .i64 ae,ao] 31 (0,0)))/\jP (Below w.heap.size w w'))
 case atStart=>exact⟨(0),(bD),(.slice ct bD.length cu),(by first|rfl|(simp;done)|(simp[*];done)),H',⟨Nat.le_refl _⟩,⟨by(with_reducible repeat(first|apply kI|apply kJ|apply kw));exact kz (lh (p:=⟨al,1,none⟩) (lh (p:=⟨al,0,none⟩) (mr a9.out ah.out (by decide)) (fun _ hk=>hk.2) (.int .i64 ae)) (fun _ hk=>hk.2) (.slice ct bD.length cu)) (fun _ hk=>trivial)⟩,⟨lI af.out⟩,⟨lI ag.out⟩,⟨lI ah.out⟩,⟨jR HB.out⟩⟩
 case round=>
  clear H';(try clear bS bT bW bX b4 b5 bU bV bY bZ b6 b7);obtain⟨ab,ai,ao,rfl,HA,bK,ac,af,ag,ah,HB⟩:=hrel;cases gk with
  |zero=>exact absurd HA.out (by simp[nE.l0])
  |succ k1=>
   have H:=HA.out;clear HA;simp only [nE.l0]at H
   replace H:=lH H;rcases H with⟨cj,H⟩|⟨cj,H⟩
   ·skip
    obtain⟨dC,H⟩:=kX H
    obtain⟨dD,H⟩:=kX H;obtain⟨bC,cw,H⟩:=kR H;(try dsimp only at H)
    rcases lV H with⟨h_,H_⟩|⟨h_,H_⟩<;> (subst h_;clear H;have H:=H_;clear H_)
    ·have H':=dm H;clear H;have aY:0<=(ab:Int):=jT;have aZ:ab<(aa.length:Int):=jT;obtain⟨a4,bI,aM,aN⟩:=l7 aX.out ab aY aZ;cases bI;replace aM:=j4 HB aM;replace aN:=j4 HB aN;replace aY:=eq_true aY;replace aZ:=eq_true aZ
     go_wp2_with (first|((with_reducible refine ky 7 rfl ?_);refine kS #[.int .i64 0,.int .i64 0] 59 ?_;intro aj hg dl jS hb;have n0:=dm (o7 (wK (jV ac.out) aj (Nat.le_of_eq hg.symm)) hb);have n1:=jU af hb;have n2:=jU ag hb;have n3:=jU ah hb;have n4:=jX HB hb;have n5:=dm (jS);have n6:=dm (kg:w.heap.size<=aj);have n7:=dm (kg:w.heap.size<=aj);have n8:=dm (BM:ap≠aj);have n9:=dm (BO:aj≠ap);have bH:=dm (yU:am≠aj);have b8:=dm (yT:aj≠am);have b9:=dm ((by rw[hg];exact Nat.ne_of_lt (lq (g:=al) (o:=.cells #[.int .i64 ae,ao] 31 (0,0)) (jZ ah.out)):al≠aj));have b_:=dm ((by rw[hg];exact Nat.ne_of_gt (lq (g:=al) (o:=.cells #[.int .i64 ae,ao] 31 (0,0)) (jZ ah.out)):aj≠al));clear ac af ag ah HB;revert n0 n1 n2 n3 n4 n5 n6 n7 n8 n9 bH b8 b9 b_;intro ac af ag ah HB au ck cl az aT aA aU aC aV;clear hb jS hg;have dE:=aT.out;have dF:=az.out;have dG:=aU.out;have dH:=aA.out;have dI:=aV.out;have dJ:=aC.out;have⟨cE,cF,cG,cH⟩:=ko (w:=dl) au)|((with_reducible refine kQ 81 rfl ?_);refine nC 21 rfl Try.func81 (si.calls (kN cq.out (jR HB.out)) cr.out cw.out) ?_;intro ef hb;replace ac:=dm (o7 (BL) hb);replace af:=dm (nD (g:=ap) (o:=.cells #[.int .i64 ae,.slice (some a4) aa.length av] 31 (0,0)) (rz) hb);replace ag:=dm (nD (g:=am) (o:=.cells #[.int .i64 0,.slice none 0 0] 31 (0,0)) (w_) hb);replace ah:=dm (nD (g:=al) (o:=.cells #[.int .i64 ae,ao] 31 (0,0)) (BJ) hb);replace au:=dm (nD (g:=aj) (o:=.cells #[.int .i64 ((jQ aa ab).f0),.int .i64 ((jQ aa ab).f1)] 59 (0,0)) (BI) hb);replace HB:=jX HB hb;(try clear hb)))
     go_roundg k1
     case measure=>have:=bK.out;omega
     case rel=>exact⟨(wrap64 (ab+1)),(ai),(ao),(by first|rfl|(simp;done)|(simp[*];done)),H',⟨by have:=bK.out;omega⟩,⟨by(with_reducible repeat(first|apply kI|apply kJ|apply kw));exact kz ac.out (fun _ hk=>trivial)⟩,⟨jZ af.out⟩,⟨jZ ag.out⟩,⟨jZ ah.out⟩,⟨jR HB.out⟩⟩
    skip
    obtain⟨bO,H⟩:=mH H;have cm:=dm bO;clear bO;obtain⟨bE,a_⟩:∃y_:List (S59),y_=(ai++[(⟨(jQ aa ab).f0,(jQ aa ab).f1⟩:S59)]):=⟨_,rfl⟩;replace H:(nE.l0 k1 l1 aa (aa.length:Int) (wrap64 (ab+1)) ae bE)=some (r1,r2):=lC a_ H
    have cn:=dm a_;clear a_;have H':=dm H;clear H;have aY:0<=(ab:Int):=jT;have aZ:ab<(aa.length:Int):=jT;obtain⟨a4,bI,aM,aN⟩:=l7 aX.out ab aY aZ;cases bI;replace aM:=j4 HB aM;replace aN:=j4 HB aN;replace aY:=eq_true aY;replace aZ:=eq_true aZ
    go_wp2_with (first|((with_reducible refine ky 7 rfl ?_);refine kS #[.int .i64 0,.int .i64 0] 59 ?_;intro aj hg dn jS hb;have n0:=dm (o7 (wK (jV ac.out) aj (Nat.le_of_eq hg.symm)) hb);have n1:=jU af hb;have n2:=jU ag hb;have n3:=jU ah hb;have n4:=jX HB hb;have n5:=dm (jS);have n6:=dm (kg:w.heap.size<=aj);have n7:=dm (kg:w.heap.size<=aj);have n8:=dm (BM:ap≠aj);have n9:=dm (BO:aj≠ap);have bH:=dm (yU:am≠aj);have b8:=dm (yT:aj≠am);have b9:=dm ((by rw[hg];exact Nat.ne_of_lt (lq (g:=al) (o:=.cells #[.int .i64 ae,ao] 31 (0,0)) (jZ ah.out)):al≠aj));have b_:=dm ((by rw[hg];exact Nat.ne_of_gt (lq (g:=al) (o:=.cells #[.int .i64 ae,ao] 31 (0,0)) (jZ ah.out)):aj≠al));clear ac af ag ah HB;revert n0 n1 n2 n3 n4 n5 n6 n7 n8 n9 bH b8 b9 b_;intro ac af ag ah HB au ck cl az aT aA aU aC aV;clear hb jS hg;have dK:=aT.out;have dL:=az.out;have dM:=aU.out;have dN:=aA.out;have dO:=aV.out;have dP:=aC.out;have⟨cI,cJ,cL,cM⟩:=ko (w:=dn) au)|((with_reducible refine kQ 81 rfl ?_);refine nC 21 rfl Try.func81 (si.calls (kN cq.out (jR HB.out)) cr.out cw.out) ?_;intro cx hb;replace ac:=dm (o7 (BL) hb);replace af:=dm (nD (g:=ap) (o:=.cells #[.int .i64 ae,.slice (some a4) aa.length av] 31 (0,0)) (rz) hb);replace ag:=dm (nD (g:=am) (o:=.cells #[.int .i64 0,.slice none 0 0] 31 (0,0)) (w_) hb);replace ah:=dm (nD (g:=al) (o:=.cells #[.int .i64 ae,ao] 31 (0,0)) (BJ) hb);replace au:=dm (nD (g:=aj) (o:=.cells #[.int .i64 ((jQ aa ab).f0),.int .i64 ((jQ aa ab).f1)] 59 (0,0)) (BI) hb);replace HB:=jX HB hb;(try clear hb);have dQ:=aQ.out;have dR:=aw.out;have dS:=aR.out;have dT:=ax.out;have⟨cN,cO,cP,cQ⟩:=ko (w:=cx) ah;have⟨cS,cT,cU,cW⟩:=ko (w:=cx) au)|((with_reducible refine oh (b:=.append) (xs:= #[.tmp 24,.tmp 26]) rfl ?_);at_builtin;refine pg k59 (w0:=w) w.heap.size rfl (.tmp 24) (.tmp 26) 29 59 (.agg #[(.int .i64 0),(.int .i64 0)]) 16 rfl Try.underlying29 sH rfl (by decide) (by omega) ao ai (⟨(jQ aa ab).f0,(jQ aa ab).f1⟩:S59) [.int .i64 ((jQ aa ab).f0),.int .i64 ((jQ aa ab).f1)] (fun k_=>k_≠aj) (fun _=>False) rfl rfl ?aP (fun _ hk=>hk.elim) ?aF ?aO ?aB ?aS ?aL ?_;(case aP=>exact qg _ _ _ (⟨(jQ aa ab).f0,(jQ aa ab).f1⟩:S59));(case aB=>exact(jR HB.out));(case aF=>exact(fun k_ hk=>CZ (g:=aj) (o:=.cells #[.int .i64 ((jQ aa ab).f0),.int .i64 ((jQ aa ab).f1)] 59 (0,0)) (jZ au.out) k_ hk));(case aO=>exact(by(with_reducible repeat(first|apply kI|apply kJ|apply kw));exact kz ac.out (fun _ hk=>hk.2)));(case aS=>exact(kC (jR HB.out)));(case aL=>have:=cm.out;omega);intro ea dq ho hb hg hat;rw[←cn.out]at ho;have n0:=lY af hg (lS ac.out af.out (by decide));have n1:=lY ag hg (lS ac.out ag.out (by decide));have n2:=lY ah hg (lS ac.out ah.out (by decide));have n3:=lY au hg (Ag ac.out (fun _ hk=>hk.2));have n4:=dm (hb);have n5:=dm (ho);clear af ag ah au HB ac;revert n0 n1 n2 n3 n4 n5;intro af ag ah au HB bP;clear ho hb hg hat;obtain⟨ca,cd,cA⟩:=kK bP.out;subst cA;have⟨cX,cY,cZ,c_⟩:=ko (w:=dq) ah))
    go_roundg k1
    case measure=>have:=bK.out;omega
    case rel=>exact⟨(wrap64 (ab+1)),(bE),(.slice ca bE.length cd),(by first|rfl|(simp;done)|(simp[*];done)),H',⟨by have:=bK.out;omega⟩,⟨by(with_reducible repeat(first|apply kI|apply kJ|apply kw));exact kz (lh (p:=⟨al,1,none⟩) (mr bP.out ah.out (by decide)) (fun _ hk=>hk.2) (.slice ca bE.length cd)) (fun _ hk=>trivial)⟩,⟨lI af.out⟩,⟨lI ag.out⟩,⟨lI ah.out⟩,⟨jR HB.out⟩⟩
   simp only [Option.some.injEq,Prod.mk.injEq]at H;obtain⟨rfl,rfl⟩:=H;have dU:=aQ.out;have dV:=aw.out;have dW:=aR.out;have dX:=ax.out;have⟨db,dc,dd,de⟩:=ko (w:=wr) ah;have dY:=bj.out;have dZ:=bh.out;have⟨df,dg,dh,di⟩:=ko (w:=wr) ag;obtain⟨ce,cf,cD⟩:=kK ac.out;subst cD
   go_wp2;refine bodyPost_ret (results_cell_row rfl _ _ am 31 #[.int .i64 ae,.slice ce ai.length cf] (0,0) _ rfl (lI ag.out) Try.underlying31 rfl (by kernel_rfl)) rfl ?_;exact⟨_,mW,by(with_reducible repeat(first|apply kI|apply kJ|apply kw));exact kz (lh (p:=⟨am,1,none⟩) (lh (p:=⟨am,0,none⟩) (mr ac.out ag.out (by decide)) (fun _ hk=>hk.2) (.int .i64 ae)) (fun _ hk=>hk.2) (.slice ce ai.length cf)) (fun _ hk=>trivial),jR HB.out⟩
def sG.f (k:Nat) (ae:Int) (aa:List (S59)) (a1:Int) (a2:Int):Option (Bool):=(lm.f k ae aa).bind fun ak=>(if 0<=a1 then(if a1<(ak.length:Int) then(if 0<=a2 then(if a2<(ak.length:Int) then(some ((rd ak a1)==(rd ak a2))) else(none)) else(none)) else(none)) else(none))
theorem sG.calls {k:Nat}{ae:Int}{aD:Option Addr}{av:Nat}{aa:List (S59)}{a1:Int}{a2:Int}{r:Bool}{w:World}(a6:Kd.C k59 w aD aa.length aa)(a7:aa.length<=av)(h:sG.f k ae aa a1 a2=some r):
  Calls Try.prog 99 #[.agg #[.int .i64 ae,.slice aD aa.length av],.int .i64 a1,.int .i64 a2] w fun e w'=>e=.returned (.bool r)/\Below w.heap.size w w':=by
 have cz:=Try.underlying31;have aX:=dm a6;have bl:=dm a7;clear a6 a7;have HB:=dm (Below.refl w.heap.size w);unfold sG.f at h;have H:=h;clear h;obtain⟨ak,A4,H⟩:=kR H;(try dsimp only at H)
 obtain⟨eb,H⟩:=kX H
 obtain⟨ec,H⟩:=kX H
 obtain⟨ed,H⟩:=kX H
 obtain⟨ee,H⟩:=kX H;obtain rfl:=Option.some.inj H
 go_enter Try.func99,Try.ntmps99
 go_wp2_with (first|((with_reducible refine ky 3 rfl ?_);refine kS #[.int .i64 ae,.slice aD aa.length av] 31 ?_;intro aK hg w9 jS hb;have aq:=dm (jS);have bQ:=dm (kg:w.heap.size<=aK);have bR:=dm (kg:w.heap.size<=aK);replace HB:=jX HB hb;clear hb jS hg;have⟨bu,bv,bx,bz⟩:=ko (w:=w9) aq)|(go_at_call 98;refine(lm.calls (kv (kN aX.out HB.out)) bl.out A4.out).mono ?_;rintro e cy ⟨cg,rfl,bk,hb⟩;have ay:=dm (kP bk (kC (jR HB.out)));replace aq:=jU aq hb;replace HB:=jX HB hb;(try clear hb bk);obtain⟨ch,ci,bo⟩:=kK ay.out;subst bo;have aE:0<=(a1:Int):=jT;have aG:a1<(ak.length:Int):=jT;obtain⟨ba,bp,bA⟩:=kZ (kr ay.out).2.2 a1 aE aG;cases bp;replace aE:=eq_true aE;replace aG:=eq_true aG;have aH:0<=(a2:Int):=jT;have aI:a2<(ak.length:Int):=jT;obtain⟨bd,bq,bB⟩:=kZ (kr ay.out).2.2 a2 aH aI;obtain rfl:ba=bd:=(by injection bq);replace aH:=eq_true aH;replace aI:=eq_true aI))
 repeat(go_quiet (first|((with_reducible refine ky 3 rfl ?_);refine kS #[.int .i64 ae,.slice aD aa.length av] 31 ?_;intro aK hg w9 jS hb;have aq:=dm (jS);have bQ:=dm (kg:w.heap.size<=aK);have bR:=dm (kg:w.heap.size<=aK);replace HB:=jX HB hb;clear hb jS hg;have⟨bu,bv,bx,bz⟩:=ko (w:=w9) aq)|(go_at_call 98;(with_reducible refine(lm.calls ?lu ?lv A4.out).mono ?_);(case lu=>exact kv (kN aX.out HB.out));(case lv=>exact bl.out);rintro e cy ⟨cg,rfl,bk,hb⟩;have ay:=dm (kP bk (kC (jR HB.out)));replace aq:=jU aq hb;replace HB:=jX HB hb;(try clear hb bk);obtain⟨ch,ci,bo⟩:=kK ay.out;subst bo;have aE:0<=(a1:Int):=jT;have aG:a1<(ak.length:Int):=jT;obtain⟨ba,bp,bA⟩:=kZ (kr ay.out).2.2 a1 aE aG;cases bp;replace aE:=eq_true aE;replace aG:=eq_true aG;have aH:0<=(a2:Int):=jT;have aI:a2<(ak.length:Int):=jT;obtain⟨bd,bq,bB⟩:=kZ (kr ay.out).2.2 a2 aH aI;obtain rfl:ba=bd:=(by injection bq);replace aH:=eq_true aH;replace aI:=eq_true aI));try go_wp2_with (first|((with_reducible refine ky 3 rfl ?_);refine kS #[.int .i64 ae,.slice aD aa.length av] 31 ?_;intro aK hg w9 jS hb;have aq:=dm (jS);have bQ:=dm (kg:w.heap.size<=aK);have bR:=dm (kg:w.heap.size<=aK);replace HB:=jX HB hb;clear hb jS hg;have⟨bu,bv,bx,bz⟩:=ko (w:=w9) aq)|(go_at_call 98;(with_reducible refine(lm.calls ?lu ?lv A4.out).mono ?_);(case lu=>exact kv (kN aX.out HB.out));(case lv=>exact bl.out);rintro e cy ⟨cg,rfl,bk,hb⟩;have ay:=dm (kP bk (kC (jR HB.out)));replace aq:=jU aq hb;replace HB:=jX HB hb;(try clear hb bk);obtain⟨ch,ci,bo⟩:=kK ay.out;subst bo;have aE:0<=(a1:Int):=jT;have aG:a1<(ak.length:Int):=jT;obtain⟨ba,bp,bA⟩:=kZ (kr ay.out).2.2 a1 aE aG;cases bp;replace aE:=eq_true aE;replace aG:=eq_true aG;have aH:0<=(a2:Int):=jT;have aI:a2<(ak.length:Int):=jT;obtain⟨bd,bq,bB⟩:=kZ (kr ay.out).2.2 a2 aH aI;obtain rfl:ba=bd:=(by injection bq);replace aH:=eq_true aH;replace aI:=eq_true aI)))
 go_ret
 exact⟨mW,jR HB.out⟩
theorem Bv(h:p:=by exact lI ae.out):p:=h
theorem Bw(h:p:=by(with_reducible repeat(first|apply kI|apply kJ|apply kw));exact kz (lh (p:=⟨af,1,none⟩) (lh (p:=⟨af,0,none⟩) (kz ah.out (fun k_ hk=>(⟨hk,hk.2⟩:_/\k_≠af))) (fun _ hk=>hk.2) (.int .i64 ((jQ aa ab).f0))) (fun _ hk=>hk.2) (.int .i64 ((jQ aa ab).f1))) (fun _ hk=>hk.1.2)):p:=h
theorem Bz(h:p:=by rw[hg];exact Nat.ne_of_lt (lq (g:=ap) (o:=.cells #[.int .i64 ai,.slice (some aA) aa.length au] 31 (0,0)) (jZ ac.out))):p:=h
theorem BP(h:p:=by rw[hg];exact Nat.ne_of_gt (lq (g:=ap) (o:=.cells #[.int .i64 ai,.slice (some aA) aa.length au] 31 (0,0)) (jZ ac.out))):p:=h
theorem yS(h:p:=by first|rfl|(simp;done)|(simp only [←bT,←bU]<;> (first|rfl|simp))|(simp[*];done)):p:=h
def mY.l0:Nat->List (S59)->List (S59)->Int->Int->Int->List (S59)->Option ((List (S59)))
 |0,_,_,_,_,_,_=>none
 |k+1,x3,x8,x9,aM,bv,bx=>if aM<x9 then(if 0<=aM then(if aM<(x8.length:Int) then((nE.f k bv bx (([(⟨(jQ x8 aM).f0,(jQ x8 aM).f1⟩:S59)]:List (S59)))).bind fun bk=>((sG.f k bk.1 bk.2 ((jQ x8 aM).f0) ((jQ x8 aM).f1)).bind fun aU=>(if aU=true then(mY.l0 k x3 x8 x9 (wrap64 (aM+1)) bv bx) else(if x3.length<8796093022208 then(mY.l0 k (x3++[(⟨(jQ x8 aM).f0,(jQ x8 aM).f1⟩:S59)]) x8 x9 (wrap64 (aM+1)) bv bx) else(none))))) else(none)) else(none)) else(some x3)
def mY.f (k:Nat) (ai:Int) (aa:List (S59)):Option ((List (S59))):=mY.l0 k (([]:List (S59))) aa (aa.length:Int) 0 ai aa
def mY.T5:Bool×List (List Nat×List Nat):=(true,[([],[]),([],[]),([1],[1]),([0,2],[0,2]),([],[]),([4],[4]),([],[]),([6],[6]),([3,5,7,3],[3,5,7]),([8],[8])])
def mY.B5:List Nat:=[0,0,2,7,0,16,0,64,255,511]
theorem mY.wy:mi .any (opsOf Try.f64 5)=mY.T5:=by kernel_rfl
theorem mY.vB:nY mY.T5.2 mY.B5=true:=by kernel_rfl
theorem mY.calls {k:Nat}{ai:Int}{aN:Option Addr}{au:Nat}{aa:List (S59)}{r:List (S59)}{w:World}(bl:Kd.C k59 w aN aa.length aa)(bm:aa.length<=au)(h:mY.f k ai aa=some r):
  Calls Try.prog 64 #[.agg #[.int .i64 ai,.slice aN aa.length au]] w fun e w'=>∃cO:Value,e=.returned (cO)/\Kd.R k59 59 w' w.heap.size (fun _=>True) cO r/\Below w.heap.size w w':=by
 have cQ:=Try.underlying31;have dH:=Try.underlying59;have a6:=dm bl;have bD:=dm bm;clear bl bm;have HB:=dm (Below.refl w.heap.size w);unfold mY.f at h;have H:=h;clear h;obtain⟨co,bn⟩:∃y_:List (S59),y_=(([]:List (S59))):=⟨_,rfl⟩;replace H:(mY.l0 k co aa (aa.length:Int) 0 ai aa)=some r:=lC bn H
 have cf:=dm bn;clear bn;have H':=dm H;clear H
 go_enter Try.func64,Try.ntmps64
 go_wp2_with (first|((with_reducible refine ky 1 rfl ?_);refine kS #[.int .i64 ai,.slice aN aa.length au] 31 ?_;intro ap hg w2 jS hb;have ac:=dm (jS);have dx:=dm (kg:w.heap.size<=ap);have dy:=dm (kg:w.heap.size<=ap);replace HB:=jX HB hb;clear hb jS hg)|((with_reducible refine ky 6 rfl ?_);refine og k59 rfl 59 ([]:List (S59)) [] (kF.none _ _) ?_;intro dI w3 bZ hb hg_ kV;clear hg_ kV;(first|rw[←cf.out]at bZ|(simp only [Int.reduceToNat]at bZ;rw[←cf.out]at bZ));have cF:=dm (kP bZ (kC (jR HB.out)));replace ac:=jU ac hb;replace HB:=jX HB hb;clear hb bZ;have⟨cp,cq,cr,ct⟩:=ko (w:=w3) ac))
 go_loopg [3,10] k (fun kq v3 dr w'=>∃ (am:List (S59)) (ab:Int),dr=.int .i64 ab/\jP (mY.l0 kq am aa (aa.length:Int) ab ai aa=some r)/\jP (kq<=k)/\jP (Kd.R k59 59 w' w.heap.size (fun _=>True) v3 am)/\jP (w'.heap[ap]? =some (.cells #[.int .i64 ai,(.slice aN aa.length au)] 31 (0,0)))/\jP (Below w.heap.size w w'))
 case atStart=>exact⟨(co),(0),(ku),H',⟨Nat.le_refl _⟩,⟨jV cF.out⟩,⟨jZ ac.out⟩,⟨jR HB.out⟩⟩
 case round=>
  clear H';(try clear cp cq cr ct);obtain⟨am,ab,rfl,HA,a7,ah,ac,HB⟩:=hrel;cases gk with
  |zero=>exact absurd HA.out (by simp[mY.l0])
  |succ k1=>
   have H:=HA.out;clear HA;simp only [mY.l0]at H
   replace H:=lH H;rcases H with⟨bG,H⟩|⟨bG,H⟩
   ·skip
    obtain⟨cu,H⟩:=kX H
    obtain⟨cS,H⟩:=kX H;obtain⟨a8,bo⟩:∃y_:List (S59),y_=(([(⟨(jQ aa ab).f0,(jQ aa ab).f1⟩:S59)]:List (S59))):=⟨_,rfl⟩;replace H:((nE.f k1 ai aa a8).bind fun bk=>((sG.f k1 bk.1 bk.2 ((jQ aa ab).f0) ((jQ aa ab).f1)).bind fun aU=>(if aU=true then(mY.l0 k1 am aa (aa.length:Int) (wrap64 (ab+1)) ai aa) else(if am.length<8796093022208 then(mY.l0 k1 (am++[(⟨(jQ aa ab).f0,(jQ aa ab).f1⟩:S59)]) aa (aa.length:Int) (wrap64 (ab+1)) ai aa) else(none)))))=some r:=lC bo H
    have bE:=dm bo;clear bo;obtain⟨⟨a9,aT⟩,A9,H⟩:=kR H;(try dsimp only at H);obtain⟨aU,cP,H⟩:=kR H;(try dsimp only at H)
    rcases lV H with⟨h_,H_⟩|⟨h_,H_⟩<;> (subst h_;clear H;have H:=H_;clear H_)
    ·have H':=dm H;clear H;have a_:0<=(ab:Int):=jT;have ba:ab<(aa.length:Int):=jT;obtain⟨aA,b4,aQ,aR⟩:=l7 a6.out ab a_ ba;cases b4;replace aQ:=j4 HB aQ;replace aR:=j4 HB aR;replace a_:=eq_true a_;replace ba:=eq_true ba;try go_wp2_with (first|((with_reducible refine ky 5 rfl ?_);refine kS #[.int .i64 0,.int .i64 0] 59 ?_;intro af hg bO jS hb;replace ah:=dm (o7 (wK (jV ah.out) af (Nat.le_of_eq hg.symm)) hb);have ae:=dm (jS);have cG:=dm (kg:w.heap.size<=af);have cH:=dm (kg:w.heap.size<=af);replace HB:=jX HB hb;have aw:=dm (Bz:ap≠af);have aW:=dm (BP:af≠ap);replace ac:=jU ac hb;clear hb jS hg;have dz:=aW.out;have dA:=aw.out;have⟨dc,dd,de,df⟩:=ko (w:=bO) ae))
     have n0:jP (Kd.R k59 59 ((bO.setCell ⟨af,0,none⟩ (.int .i64 ((jQ aa ab).f0))).setCell ⟨af,1,none⟩ (.int .i64 ((jQ aa ab).f1))) w.heap.size (fun k_=>k_≠af) u3 am):=⟨Bw⟩;have n1:jP (((bO.setCell ⟨af,0,none⟩ (.int .i64 ((jQ aa ab).f0))).setCell ⟨af,1,none⟩ (.int .i64 ((jQ aa ab).f1))).heap[ap]? =some (.cells #[.int .i64 ai,.slice (some aA) aa.length au] 31 (0,0))):=⟨rA⟩;have n2:jP (((bO.setCell ⟨af,0,none⟩ (.int .i64 ((jQ aa ab).f0))).setCell ⟨af,1,none⟩ (.int .i64 ((jQ aa ab).f1))).heap[af]? =some (.cells #[.int .i64 ((jQ aa ab).f0),.int .i64 ((jQ aa ab).f1)] 59 (0,0))):=⟨Bv⟩;have n3:jP (Below w.heap.size w ((bO.setCell ⟨af,0,none⟩ (.int .i64 ((jQ aa ab).f0))).setCell ⟨af,1,none⟩ (.int .i64 ((jQ aa ab).f1)))):=⟨jR HB.out⟩;(try clear ah ac ae HB);generalize((bO.setCell ⟨af,0,none⟩ (.int .i64 ((jQ aa ab).f0))).setCell ⟨af,1,none⟩ (.int .i64 ((jQ aa ab).f1)))=dt at n0 n1 n2 n3⊢;revert n0 n1 n2 n3;intro ah ac ae HB;replace ah:=dm (kw ah.out);replace ac:=dm (kU ac.out);replace ae:=dm (kU ae.out);replace HB:=dm (mg HB.out);refine nk 10 (S:=fun w'=>w'.cell? ⟨ap,0,none⟩=some (.int .i64 ai)/\w'.cell? ⟨ap,1,none⟩=some (.slice (some aA) aa.length au)/\w'.cell? ⟨af,0,none⟩=some (.int .i64 ((jQ aa ab).f0))/\w'.cell? ⟨af,1,none⟩=some (.int .i64 ((jQ aa ab).f1))) [] ⟨jY ac 0,jY ac 1,jY ae 0,jY ae 1⟩ mY.wy mY.vB (fun hHeld HT_ HW_=>?_);generalize dt.drew=dK at ah ac ae HB hHeld⊢;refine jW 4 18 16 ?_;refine jW 6 20 80 ?_;refine kL 0 14 81 ?_;refine kL 1 15 83 ?_;refine kL 5 19 115 ?_;refine kL 7 21 243 ?_;refine l6 2 16 247 (fun K hK=>?_);refine qC k59 _ 59 ?hg (N:=16) ?hd (xs:=([(⟨(jQ aa ab).f0,(jQ aa ab).f1⟩:S59)]:List (S59))) (inner:=[.int .i64 ((jQ aa ab).f0),.int .i64 ((jQ aa ab).f1)]) (ok:=fun _=>True) (okp:=fun _=>True) ?hr ?hp (fun _ hk=>hk) trivial (Below.refl _ _) (Nat.le_refl _) (by simp) ?_;(case hd=>rfl);(case hg=>rfl);(case hr=>first|(go_simp;done)|(go_simp;rfl));(case hp=>exact(kF.c2 (show Kd.M k59 _ _ _ (⟨(jQ aa ab).f0,(jQ aa ab).f1⟩:S59) [.int .i64 ((jQ aa ab).f0),.int .i64 ((jQ aa ab).f1)] from(qg _ _ _ (⟨(jQ aa ab).f0,(jQ aa ab).f1⟩:S59))) (kF.none _ _)));intro cT dL bz hb hg_ kV;clear hg_ kV;(first|rw[←bE.out]at bz|(simp only [Int.reduceToNat]at bz;rw[←bE.out]at bz));have aj:=dm (kP (wM (lF bz (kT (jV ah.out))) (g:=af) (o:=.cells #[.int .i64 ((jQ aa ab).f0),.int .i64 ((jQ aa ab).f1)] 59 (0,0)) (jZ ae.out)) (kC (jR HB.out)));replace ah:=lK ah bz hb;replace ac:=jU ac hb;replace ae:=jU ae hb;replace HB:=jX HB hb;clear hb bz;obtain⟨cU,cW,cv⟩:=kK aj.out;(first|subst cv|(injection cv with aX bH aY;have bI:=aX.symm;have bJ:=aY.symm;clear aX bH aY;subst bI;subst bJ));refine hK.out _ _ ⟨jY ac 0,jY ac 1,jY ae 0,jY ae 1⟩ (fun hHeld=>?_);clear hK K;refine ll 16 ?_;refine l6 3 17 255 (fun K hK=>?_);refine oz Try.func66 (nE.calls (kv (kN a6.out HB.out)) bD.out (kv (kr aj.out).2.2) ((kr aj.out).2.1) A9.out) ?_;rintro e dM ⟨cX,rfl,bp,hb⟩;refine⟨_,rfl,?_⟩;have al:=dm (kP (wM (lF (lF bp (kT (jV ah.out))) (kT (jV aj.out))) (g:=af) (o:=.cells #[.int .i64 ((jQ aa ab).f0),.int .i64 ((jQ aa ab).f1)] 59 (0,0)) (jZ ae.out)) (kC (jR HB.out)));replace ah:=lK ah bp hb;replace aj:=lK aj bp hb;replace ac:=jU ac hb;replace ae:=jU ae hb;replace HB:=jX HB hb;(try clear hb hk bp);obtain⟨cY,cZ,cw⟩:=kK al.out;(first|subst cw|(injection cw with aX bH aY;have bI:=aX.symm;have bJ:=aY.symm;clear aX bH aY;subst bI;subst bJ));refine hK.out _ _ ⟨jY ac 0,jY ac 1,jY ae 0,jY ae 1⟩ (fun hHeld=>?_);clear hK K;refine ll 17 ?_;refine l6 8 22 511 (fun K hK=>?_);refine qy Try.func99 (sG.calls (kv (kr al.out).2.2) ((kr al.out).2.1) cP.out) ?_;intro dN hb;replace ah:=kD ah hb;replace aj:=kD aj hb;replace al:=kD al hb;replace ac:=jU ac hb;replace ae:=jU ae hb;replace HB:=jX HB hb;(try clear hb);refine hK.out _ _ ⟨jY ac 0,jY ac 1,jY ae 0,jY ae 1⟩ (fun hHeld=>?_);clear hK K;refine ll 22 ?_;refine jW 9 23 1023 ?_;refine mD (mV HT_.out (lg)) ?_;try go_wp2
     go_roundg k1
     case measure=>have:=a7.out;omega
     case rel=>exact⟨(am),(wrap64 (ab+1)),(ku),H',⟨by have:=a7.out;omega⟩,⟨by(with_reducible repeat(first|apply kI|apply kJ|apply kw));exact kz ah.out (fun _ hk=>trivial)⟩,⟨jZ ac.out⟩,⟨jR HB.out⟩⟩
    skip
    obtain⟨ch,H⟩:=mH H;have cI:=dm ch;clear ch;obtain⟨cx,bq⟩:∃y_:List (S59),y_=(am++[(⟨(jQ aa ab).f0,(jQ aa ab).f1⟩:S59)]):=⟨_,rfl⟩;replace H:(mY.l0 k1 cx aa (aa.length:Int) (wrap64 (ab+1)) ai aa)=some r:=lC bq H
    have cJ:=dm bq;clear bq;have H':=dm H;clear H;have a_:0<=(ab:Int):=jT;have ba:ab<(aa.length:Int):=jT;obtain⟨aA,b4,aQ,aR⟩:=l7 a6.out ab a_ ba;cases b4;replace aQ:=j4 HB aQ;replace aR:=j4 HB aR;replace a_:=eq_true a_;replace ba:=eq_true ba;try go_wp2_with (first|((with_reducible refine ky 5 rfl ?_);refine kS #[.int .i64 0,.int .i64 0] 59 ?_;intro af hg bP jS hb;replace ah:=dm (o7 (wK (jV ah.out) af (Nat.le_of_eq hg.symm)) hb);have ae:=dm (jS);have cG:=dm (kg:w.heap.size<=af);have cH:=dm (kg:w.heap.size<=af);replace HB:=jX HB hb;have aw:=dm (Bz:ap≠af);have aW:=dm (BP:af≠ap);replace ac:=jU ac hb;clear hb jS hg;have dB:=aW.out;have dC:=aw.out;have⟨dg,dh,di,dj⟩:=ko (w:=bP) ae))
    have n0:jP (Kd.R k59 59 ((bP.setCell ⟨af,0,none⟩ (.int .i64 ((jQ aa ab).f0))).setCell ⟨af,1,none⟩ (.int .i64 ((jQ aa ab).f1))) w.heap.size (fun k_=>k_≠af) u3 am):=⟨Bw⟩;have n1:jP (((bP.setCell ⟨af,0,none⟩ (.int .i64 ((jQ aa ab).f0))).setCell ⟨af,1,none⟩ (.int .i64 ((jQ aa ab).f1))).heap[ap]? =some (.cells #[.int .i64 ai,.slice (some aA) aa.length au] 31 (0,0))):=⟨rA⟩;have n2:jP (((bP.setCell ⟨af,0,none⟩ (.int .i64 ((jQ aa ab).f0))).setCell ⟨af,1,none⟩ (.int .i64 ((jQ aa ab).f1))).heap[af]? =some (.cells #[.int .i64 ((jQ aa ab).f0),.int .i64 ((jQ aa ab).f1)] 59 (0,0))):=⟨Bv⟩;have n3:jP (Below w.heap.size w ((bP.setCell ⟨af,0,none⟩ (.int .i64 ((jQ aa ab).f0))).setCell ⟨af,1,none⟩ (.int .i64 ((jQ aa ab).f1)))):=⟨jR HB.out⟩;(try clear ah ac ae HB);generalize((bP.setCell ⟨af,0,none⟩ (.int .i64 ((jQ aa ab).f0))).setCell ⟨af,1,none⟩ (.int .i64 ((jQ aa ab).f1)))=du at n0 n1 n2 n3⊢;revert n0 n1 n2 n3;intro ah ac ae HB;replace ah:=dm (kw ah.out);replace ac:=dm (kU ac.out);replace ae:=dm (kU ae.out);replace HB:=dm (mg HB.out);refine nk 10 (S:=fun w'=>w'.cell? ⟨ap,0,none⟩=some (.int .i64 ai)/\w'.cell? ⟨ap,1,none⟩=some (.slice (some aA) aa.length au)/\w'.cell? ⟨af,0,none⟩=some (.int .i64 ((jQ aa ab).f0))/\w'.cell? ⟨af,1,none⟩=some (.int .i64 ((jQ aa ab).f1))) [] ⟨jY ac 0,jY ac 1,jY ae 0,jY ae 1⟩ mY.wy mY.vB (fun hHeld HT_ HW_=>?_);generalize du.drew=dO at ah ac ae HB hHeld⊢;refine jW 4 18 16 ?_;refine jW 6 20 80 ?_;refine kL 0 14 81 ?_;refine kL 1 15 83 ?_;refine kL 5 19 115 ?_;refine kL 7 21 243 ?_;refine l6 2 16 247 (fun K hK=>?_);refine qC k59 _ 59 ?hg (N:=16) ?hd (xs:=([(⟨(jQ aa ab).f0,(jQ aa ab).f1⟩:S59)]:List (S59))) (inner:=[.int .i64 ((jQ aa ab).f0),.int .i64 ((jQ aa ab).f1)]) (ok:=fun _=>True) (okp:=fun _=>True) ?hr ?hp (fun _ hk=>hk) trivial (Below.refl _ _) (Nat.le_refl _) (by simp) ?_;(case hd=>rfl);(case hg=>rfl);(case hr=>first|(go_simp;done)|(go_simp;rfl));(case hp=>exact(kF.c2 (show Kd.M k59 _ _ _ (⟨(jQ aa ab).f0,(jQ aa ab).f1⟩:S59) [.int .i64 ((jQ aa ab).f0),.int .i64 ((jQ aa ab).f1)] from(qg _ _ _ (⟨(jQ aa ab).f0,(jQ aa ab).f1⟩:S59))) (kF.none _ _)));intro cT dP bA hb hg_ kV;clear hg_ kV;(first|rw[←bE.out]at bA|(simp only [Int.reduceToNat]at bA;rw[←bE.out]at bA));have aj:=dm (kP (wM (lF bA (kT (jV ah.out))) (g:=af) (o:=.cells #[.int .i64 ((jQ aa ab).f0),.int .i64 ((jQ aa ab).f1)] 59 (0,0)) (jZ ae.out)) (kC (jR HB.out)));replace ah:=lK ah bA hb;replace ac:=jU ac hb;replace ae:=jU ae hb;replace HB:=jX HB hb;clear hb bA;obtain⟨b5,b6,cy⟩:=kK aj.out;(first|subst cy|(injection cy with aX bH aY;have bI:=aX.symm;have bJ:=aY.symm;clear aX bH aY;subst bI;subst bJ));refine hK.out _ _ ⟨jY ac 0,jY ac 1,jY ae 0,jY ae 1⟩ (fun hHeld=>?_);clear hK K;refine ll 16 ?_;refine l6 3 17 255 (fun K hK=>?_);refine oz Try.func66 (nE.calls (kv (kN a6.out HB.out)) bD.out (kv (kr aj.out).2.2) ((kr aj.out).2.1) A9.out) ?_;rintro e dQ ⟨cX,rfl,bp,hb⟩;refine⟨_,rfl,?_⟩;have al:=dm (kP (wM (lF (lF bp (kT (jV ah.out))) (kT (jV aj.out))) (g:=af) (o:=.cells #[.int .i64 ((jQ aa ab).f0),.int .i64 ((jQ aa ab).f1)] 59 (0,0)) (jZ ae.out)) (kC (jR HB.out)));replace ah:=lK ah bp hb;replace aj:=lK aj bp hb;replace ac:=jU ac hb;replace ae:=jU ae hb;replace HB:=jX HB hb;(try clear hb hk bp);obtain⟨b7,b8,cz⟩:=kK al.out;(first|subst cz|(injection cz with aX bH aY;have bI:=aX.symm;have bJ:=aY.symm;clear aX bH aY;subst bI;subst bJ));refine hK.out _ _ ⟨jY ac 0,jY ac 1,jY ae 0,jY ae 1⟩ (fun hHeld=>?_);clear hK K;refine ll 17 ?_;refine l6 8 22 511 (fun K hK=>?_);refine qy Try.func99 (sG.calls (kv (kr al.out).2.2) ((kr al.out).2.1) cP.out) ?_;intro dv hb;replace ah:=kD ah hb;replace aj:=kD aj hb;replace al:=kD al hb;replace ac:=jU ac hb;replace ae:=jU ae hb;replace HB:=jX HB hb;(try clear hb);refine hK.out _ _ ⟨jY ac 0,jY ac 1,jY ae 0,jY ae 1⟩ (fun hHeld=>?_);clear hK K;refine ll 22 ?_;refine jW 9 23 1023 ?_;refine mD (mV HT_.out (lg)) ?_;have⟨dk,dl,dn,dq⟩:=ko (w:=dv) ae;try go_wp2_with (first|((with_reducible refine oh (b:=.append) (xs:= #[.tmp 24,.tmp 26]) rfl ?_);at_builtin;refine pg k59 (w0:=w) w.heap.size rfl (.tmp 24) (.tmp 26) 29 59 (.agg #[(.int .i64 0),(.int .i64 0)]) 16 rfl Try.underlying29 sH rfl (by decide) (by omega) u3 am (⟨(jQ aa ab).f0,(jQ aa ab).f1⟩:S59) [.int .i64 ((jQ aa ab).f0),.int .i64 ((jQ aa ab).f1)] (fun k_=>some k_≠(.slice b5 a8.length b6:Value).ownBlock/\some k_≠(.slice b7 aT.length b8:Value).ownBlock/\k_≠af) (fun _=>False) rfl rfl ?aP (fun _ hk=>hk.elim) ?aF ?aO ?aB ?aS ?aL ?_;(case aP=>exact qg _ _ _ (⟨(jQ aa ab).f0,(jQ aa ab).f1⟩:S59));(case aB=>exact(jR HB.out));(case aF=>exact(fun k_ hk=>⟨Kd.fresh' (kT (jV aj.out)) k_ hk,Kd.fresh' (kT (jV al.out)) k_ hk,CZ (g:=af) (o:=.cells #[.int .i64 ((jQ aa ab).f0),.int .i64 ((jQ aa ab).f1)] 59 (0,0)) (jZ ae.out) k_ hk⟩));(case aO=>exact(by(with_reducible repeat(first|apply kI|apply kJ|apply kw));exact kz ah.out (fun _ hk=>⟨hk.1.2,⟨hk.2,hk.1.1⟩⟩)));(case aS=>exact(kC (jR HB.out)));(case aL=>have:=cI.out;omega);intro dJ dR ho hb hg hat;rw[←cJ.out]at ho;have n0:=lY ac hg (lS ah.out ac.out (by decide));have n1:=lY ae hg (Ag ah.out (fun _ hk=>hk.1.1));have n2:=dm (nP (ok:=(fun k_=>some k_≠(.slice b7 aT.length b8:Value).ownBlock/\k_≠af)) (by(with_reducible repeat(first|apply kI|apply kJ|apply kw));exact kz aj.out (fun _ hk=>⟨⟨hk.2,hk.1.2⟩,hk.1.1.2⟩)) hg hat);have n3:=dm (nP (ok:=(fun k_=>some k_≠(.slice b5 a8.length b6:Value).ownBlock/\k_≠af)) (by(with_reducible repeat(first|apply kI|apply kJ|apply kw));exact kz al.out (fun _ hk=>⟨⟨hk.1.2,hk.2⟩,hk.1.1.2⟩)) hg hat);have n4:=dm (hb);have n5:=dm (ho);clear ac ae aj al HB ah;revert n0 n1 n2 n3 n4 n5;intro ac ae aj al HB cL;clear ho hb hg hat))
    go_roundg k1
    case measure=>have:=a7.out;omega
    case rel=>exact⟨(cx),(wrap64 (ab+1)),(ku),H',⟨by have:=a7.out;omega⟩,⟨by(with_reducible repeat(first|apply kI|apply kJ|apply kw));exact kz cL.out (fun _ hk=>trivial)⟩,⟨jZ ac.out⟩,⟨jR HB.out⟩⟩
   obtain rfl:=Option.some.inj H
   go_wp2
   go_ret
   exact⟨_,mW,jV ah.out,jR HB.out⟩
def rF.f (k:Nat) (ai:Int) (aa:List (S59)) (a1:Int) (a2:Int):Option (Bool):=(qF.f a1 a2).bind fun br=>((si.f k aa br.1 br.2).bind fun aZ=>(some aZ))
theorem rF.calls {k:Nat}{ai:Int}{aN:Option Addr}{au:Nat}{aa:List (S59)}{a1:Int}{a2:Int}{r:Bool}{w:World}(bl:Kd.C k59 w aN aa.length aa)(bm:aa.length<=au)(h:rF.f k ai aa a1 a2=some r):
  Calls Try.prog 65 #[.agg #[.int .i64 ai,.slice aN aa.length au],.int .i64 a1,.int .i64 a2] w fun e w'=>e=.returned (.bool r)/\Below w.heap.size w w':=by
 have cQ:=Try.underlying31;have a6:=dm bl;have bD:=dm bm;clear bl bm;have HB:=dm (Below.refl w.heap.size w);unfold rF.f at h;have H:=h;clear h;obtain⟨⟨bV,bW⟩,A4,H⟩:=kR H;(try dsimp only at H);obtain⟨aZ,A5,H⟩:=kR H;(try dsimp only at H);obtain rfl:=Option.some.inj H
 go_enter Try.func65,Try.ntmps65;try go_wp2_with (first|((with_reducible refine ky 3 rfl ?_);refine kS #[.int .i64 ai,.slice aN aa.length au] 31 ?_;intro bF hg w6 jS hb;have ao:=dm (jS);have dD:=dm (kg:w.heap.size<=bF);have dE:=dm (kg:w.heap.size<=bF);replace HB:=jX HB hb;clear hb jS hg))
 replace ao:=dm (kU ao.out);replace HB:=dm (mg HB.out);refine tY (n:=7) (S:=fun w'=>w'.cell? ⟨bF,0,none⟩=some (.int .i64 ai)/\w'.cell? ⟨bF,1,none⟩=some (.slice aN aa.length au)) (ds:=[]) (lJ 7 0) (lg) rfl (lg) ⟨jY ao 0,jY ao 1⟩ (fun hHeld=>?_);generalize w6.drew=w7 at ao HB hHeld⊢;refine jW 0 7 1 ?_;refine jW 2 9 5 ?_;refine jW 3 10 13 ?_;refine kL 1 8 15 ?_;refine pE (i:=4) (N:=some 11) (lJ 7 31) rfl rfl (lg) (by decide) (fun K hK=>?_);refine qy Try.func53 (qF.calls A4.out) ?_;intro w8 hb;replace ao:=jU ao hb;replace HB:=jX HB hb;(try clear hb);refine hK.out _ _ ⟨jY ao 0,jY ao 1⟩ (fun hHeld=>?_);clear hK K;refine ll 11 ?_;refine pE (i:=5) (N:=some 12) (lJ 7 63) rfl rfl (lg) (by decide) (fun K hK=>?_);refine qy Try.func81 (si.calls (kv (kN a6.out HB.out)) bD.out A5.out) ?_;intro w9 hb;replace ao:=jU ao hb;replace HB:=jX HB hb;(try clear hb);refine hK.out _ _ ⟨jY ao 0,jY ao 1⟩ (fun hHeld=>?_);clear hK K;refine ll 12 ?_;refine jW 6 6 127 ?_;refine mD (lg) ?_;try go_wp2
 go_ret
 exact⟨mW,jR HB.out⟩
def qo.l0:Nat->List Int->Int->Int->Int->Option (Int)
 |0,_,_,_,_=>none
 |k+1,x0,x1,x7,x8=>if x8<x7 then(if 0<=x8 then(if x8<(x0.length:Int) then(if x1=(rd x0 x8) then(some x8) else(qo.l0 k x0 x1 x7 (wrap64 (x8+1)))) else(none)) else(none)) else(some (-1))
def qo.f (k:Nat) (l0:List Int) (a1:Int):Option (Int):=qo.l0 k l0 a1 (l0.length:Int) 0
theorem qo.calls {k:Nat}{A0:Option Addr}{c0:Nat}{l0:List Int}{a1:Int}{r:Int}{w:World}(a4:Kd.C (Kd.int .i64) w A0 l0.length l0)(a5:l0.length<=c0)(h:qo.f k l0 a1=some r):
  Calls Try.prog 114 #[.slice A0 l0.length c0,.int .i64 a1] w fun e w'=>e=.returned (.int .i64 r)/\kG w w':=by
 have aC:=dm a4;have bK:=dm a5;clear a4 a5;unfold qo.f at h;have H:=h;clear h;have H':=dm H;clear H
 go_enter Try.func114,Try.ntmps114
 go_wp2
 go_loopg [8] k (fun kq v8 w'=>∃ (ak:Int),v8=.int .i64 ak/\jP (qo.l0 kq l0 a1 (l0.length:Int) ak=some r)/\jP (kq<=k)/\kG w w')
 case atStart=>exact⟨(0),(ku),H',⟨Nat.le_refl _⟩,by repeat(first|exact kG.refl _|apply kG.step)⟩
 case round=>
  clear H';obtain⟨ak,rfl,HA,a7,⟨m1,rfl⟩⟩:=hrel;cases gk with
  |zero=>exact absurd HA.out (by simp[qo.l0])
  |succ k1=>
   have H:=HA.out;clear HA;simp only [qo.l0]at H
   replace H:=lH H;rcases H with⟨b9,H⟩|⟨b9,H⟩
   ·skip
    obtain⟨cA,H⟩:=kX H
    obtain⟨cD,H⟩:=kX H
    by_cases c6:a1=(rd l0 ak)
    ·rw[if_pos c6]at H;have bG:=beq_iff_eq.mpr c6;have c_:=bne_eq_false_iff_eq.mpr c6;clear c6;obtain rfl:=Option.some.inj H;have bd:0<=(ak:Int):=jT;have bf:ak<(l0.length:Int):=jT;obtain⟨cM,b_,cm⟩:=kZ aC.out ak bd bf;cases b_;replace bd:=eq_true bd;replace bf:=eq_true bf
     go_wp2
     go_ret
     exact⟨ku,by repeat(first|exact kG.refl _|apply kG.step)⟩
    rw[if_neg c6]at H;have bG:=beq_eq_false_iff_ne.mpr c6;have c_:=bne_iff_ne.mpr c6;have H':=dm H;clear H;have bd:0<=(ak:Int):=jT;have bf:ak<(l0.length:Int):=jT;obtain⟨cM,b_,cm⟩:=kZ aC.out ak bd bf;cases b_;replace bd:=eq_true bd;replace bf:=eq_true bf
    go_wp2
    go_roundg k1
    case measure=>have:=a7.out;omega
    case rel=>exact⟨(wrap64 (ak+1)),(ku),H',⟨by have:=a7.out;omega⟩,by repeat(first|exact kG.refl _|apply kG.step)⟩
   obtain rfl:=Option.some.inj H
   go_wp2
   go_ret
   exact⟨ku,by repeat(first|exact kG.refl _|apply kG.step)⟩
def tQ.f (k:Nat) (l0:List Int) (a1:Int):Option (Bool):=(qo.f k l0 a1).bind fun bB=>(some (decide (bB>=0)))
theorem tQ.calls {k:Nat}{A0:Option Addr}{c0:Nat}{l0:List Int}{a1:Int}{r:Bool}{w:World}(a4:Kd.C (Kd.int .i64) w A0 l0.length l0)(a5:l0.length<=c0)(h:tQ.f k l0 a1=some r):
  Calls Try.prog 89 #[.slice A0 l0.length c0,.int .i64 a1] w fun e w'=>e=.returned (.bool r)/\kG w w':=by
 have aC:=dm a4;have bK:=dm a5;clear a4 a5;unfold tQ.f at h;have H:=h;clear h;obtain⟨bB,A3,H⟩:=kR H;(try dsimp only at H);obtain rfl:=Option.some.inj H
 go_enter Try.func89,Try.ntmps89
 go_wp2_with (first|((with_reducible refine kQ 114 rfl ?_);refine lL 7 rfl Try.func114 (qo.calls (kv aC.out) bK.out A3.out) ?_;rintro e w' ⟨rfl,⟨nd,rfl⟩⟩;refine⟨_,rfl,?_⟩))
 go_ret
 exact⟨ku,by repeat(first|exact kG.refl _|apply kG.step)⟩
def oQ.l0:Nat->List Int->List Int->List Int->Int->Int->Option (Int)
 |0,_,_,_,_,_=>none
 |k+1,x0,x1,x9,aM,bC=>if bC<aM then(if 0<=bC then(if bC<(x9.length:Int) then(if bC>=(x1.length:Int) then(some 1) else(if bC<(x1.length:Int) then((cmp_Compare_int.f (rd x9 bC) (rd x1 bC)).bind fun ay=>(if ay=0 then(oQ.l0 k x0 x1 x9 aM (wrap64 (bC+1))) else(some ay))) else(none))) else(none)) else(none)) else(if(x0.length:Int)<(x1.length:Int) then(some (-1)) else(some 0))
def oQ.f (k:Nat) (l0:List Int) (l1:List Int):Option (Int):=oQ.l0 k l0 l1 l0 (l0.length:Int) 0
theorem oQ.calls {k:Nat}{A0:Option Addr}{c0:Nat}{l0:List Int}{A1:Option Addr}{c1:Nat}{l1:List Int}{r:Int}{w:World}(a4:Kd.C (Kd.int .i64) w A0 l0.length l0)(a5:l0.length<=c0)(hr1:Kd.C (Kd.int .i64) w A1 l1.length l1)(b3:l1.length<=c1)(h:oQ.f k l0 l1=some r):
  Calls Try.prog 101 #[.slice A0 l0.length c0,.slice A1 l1.length c1] w fun e w'=>e=.returned (.int .i64 r)/\kG w w':=by
 have aC:=dm a4;have bK:=dm a5;clear a4 a5;have bu:=dm hr1;have ci:=dm b3;clear hr1 b3;unfold oQ.f at h;have H:=h;clear h;have H':=dm H;clear H
 go_enter Try.func101,Try.ntmps101
 go_wp2
 go_loopg [11] k (fun kq dw w'=>∃ (ag:Int),dw=.int .i64 ag/\jP (oQ.l0 kq l0 l1 l0 (l0.length:Int) ag=some r)/\jP (kq<=k)/\kG w w')
 case atStart=>exact⟨(0),(ku),H',⟨Nat.le_refl _⟩,by repeat(first|exact kG.refl _|apply kG.step)⟩
 case round=>
  clear H';obtain⟨ag,rfl,HA,a7,⟨m1,rfl⟩⟩:=hrel;cases gk with
  |zero=>exact absurd HA.out (by simp[oQ.l0])
  |succ k1=>
   have H:=HA.out;clear HA;simp only [oQ.l0]at H
   replace H:=lH H;rcases H with⟨b9,H⟩|⟨b9,H⟩
   ·skip
    obtain⟨cA,H⟩:=kX H
    obtain⟨cD,H⟩:=kX H
    replace H:=lH H;rcases H with⟨bG,H⟩|⟨bG,H⟩
    ·obtain rfl:=Option.some.inj H;have aD:0<=(ag:Int):=jT;have aE:ag<(l0.length:Int):=jT;obtain⟨cj,bL,bQ⟩:=kZ aC.out ag aD aE;cases bL;replace aD:=eq_true aD;replace aE:=eq_true aE
     go_wp2
     go_ret
     exact⟨ku,by repeat(first|exact kG.refl _|apply kG.step)⟩
    skip
    obtain⟨cu,H⟩:=kX H;obtain⟨ay,A8,H⟩:=kR H;(try dsimp only at H)
    by_cases c9:ay=0
    ·rw[if_pos c9]at H;have ca:=beq_iff_eq.mpr c9;have cd:=bne_eq_false_iff_eq.mpr c9;clear c9;have H':=dm H;clear H;have aD:0<=(ag:Int):=jT;have aE:ag<(l0.length:Int):=jT;obtain⟨cj,bL,bQ⟩:=kZ aC.out ag aD aE;cases bL;replace aD:=eq_true aD;replace aE:=eq_true aE;have bh:0<=(ag:Int):=jT;have bj:ag<(l1.length:Int):=jT;obtain⟨cN,ce,cn⟩:=kZ bu.out ag bh bj;cases ce;replace bh:=eq_true bh;replace bj:=eq_true bj
     go_wp2_with (first|((with_reducible refine kQ 110 rfl ?_);refine lL 26 rfl Try.func110 (cmp_Compare_int.calls A8.out) ?_;rintro e w' ⟨rfl,⟨nd,rfl⟩⟩;refine⟨_,rfl,?_⟩))
     go_roundg k1
     case measure=>have:=a7.out;omega
     case rel=>exact⟨(wrap64 (ag+1)),(ku),H',⟨by have:=a7.out;omega⟩,by repeat(first|exact kG.refl _|apply kG.step)⟩
    rw[if_neg c9]at H;have ca:=beq_eq_false_iff_ne.mpr c9;have cd:=bne_iff_ne.mpr c9;obtain rfl:=Option.some.inj H;have aD:0<=(ag:Int):=jT;have aE:ag<(l0.length:Int):=jT;obtain⟨cj,bL,bQ⟩:=kZ aC.out ag aD aE;cases bL;replace aD:=eq_true aD;replace aE:=eq_true aE;have bh:0<=(ag:Int):=jT;have bj:ag<(l1.length:Int):=jT;obtain⟨cN,ce,cn⟩:=kZ bu.out ag bh bj;cases ce;replace bh:=eq_true bh;replace bj:=eq_true bj
    go_wp2_with (first|((with_reducible refine kQ 110 rfl ?_);refine lL 26 rfl Try.func110 (cmp_Compare_int.calls A8.out) ?_;rintro e w' ⟨rfl,⟨nd,rfl⟩⟩;refine⟨_,rfl,?_⟩))
    go_ret
    exact⟨ku,by repeat(first|exact kG.refl _|apply kG.step)⟩
   skip
   by_cases c10:(l0.length:Int)<(l1.length:Int)
   ·rw[if_pos c10]at H;have bX:=decide_eq_true c10;have bY:=decide_eq_true (Int.ofNat_lt.mp c10);clear c10;obtain rfl:=Option.some.inj H
    go_wp2
    go_ret
    exact⟨ku,by repeat(first|exact kG.refl _|apply kG.step)⟩
   rw[if_neg c10]at H;have bX:=decide_eq_false c10;have bY:decide (l0.length<l1.length)=false:=decide_eq_false (fun h=>c10 (Int.ofNat_lt.mpr h));clear c10;obtain rfl:=Option.some.inj H
   go_wp2
   go_ret
   exact⟨ku,by repeat(first|exact kG.refl _|apply kG.step)⟩
def rV.f (k:Nat) (l0:List Int) (l1:List Int):Option (Bool):=if 0<=(wrap64 ((l0.length:Int) - 1)) then(if(wrap64 ((l0.length:Int) - 1))<(l0.length:Int) then(if 0<=(wrap64 ((l1.length:Int) - 1)) then(if(wrap64 ((l1.length:Int) - 1))<(l1.length:Int) then(if(l0.length:Int)=(l1.length:Int) then(if(rd l0 (wrap64 ((l0.length:Int) - 1)))=(rd l1 (wrap64 ((l1.length:Int) - 1))) then((oQ.f k l0 l1).bind fun az=>(some (decide (az<0)))) else(some (decide ((rd l0 (wrap64 ((l0.length:Int) - 1)))<(rd l1 (wrap64 ((l1.length:Int) - 1))))))) else(some (decide ((l0.length:Int)<(l1.length:Int))))) else(none)) else(none)) else(none)) else(none)
theorem rV.calls {k:Nat}{A0:Option Addr}{c0:Nat}{l0:List Int}{A1:Option Addr}{c1:Nat}{l1:List Int}{r:Bool}{w:World}(a4:Kd.C (Kd.int .i64) w A0 l0.length l0)(a5:l0.length<=c0)(hr1:Kd.C (Kd.int .i64) w A1 l1.length l1)(b3:l1.length<=c1)(h:rV.f k l0 l1=some r):
  Calls Try.prog 100 #[.slice A0 l0.length c0,.slice A1 l1.length c1] w fun e w'=>e=.returned (.bool r)/\kG w w':=by
 have aC:=dm a4;have bK:=dm a5;clear a4 a5;have bu:=dm hr1;have ci:=dm b3;clear hr1 b3;unfold rV.f at h;have H:=h;clear h;obtain⟨aq,bT⟩:∃j_:Int,(wrap64 ((l0.length:Int) - 1))=j_:=⟨_,rfl⟩;replace H:(if 0<=(aq) then(if(aq)<(l0.length:Int) then(if 0<=(wrap64 ((l1.length:Int) - 1)) then(if(wrap64 ((l1.length:Int) - 1))<(l1.length:Int) then(if(l0.length:Int)=(l1.length:Int) then(if(rd l0 (aq))=(rd l1 (wrap64 ((l1.length:Int) - 1))) then((oQ.f k l0 l1).bind fun az=>(some (decide (az<0)))) else(some (decide ((rd l0 (aq))<(rd l1 (wrap64 ((l1.length:Int) - 1))))))) else(some (decide ((l0.length:Int)<(l1.length:Int))))) else(none)) else(none)) else(none)) else(none))=some r:=by first|(rw[bT]at H;exact H)|(simp only [bT]at H⊢;exact H)
 have dF:(IntKind.i64.wrap ((l0.length:Int) - 1))=aq:=(mh _).trans bT
 obtain⟨cA,H⟩:=kX H
 obtain⟨cD,H⟩:=kX H;obtain⟨av,bU⟩:∃j_:Int,(wrap64 ((l1.length:Int) - 1))=j_:=⟨_,rfl⟩;replace H:(if 0<=(av) then(if(av)<(l1.length:Int) then(if(l0.length:Int)=(l1.length:Int) then(if(rd l0 (aq))=(rd l1 (av)) then((oQ.f k l0 l1).bind fun az=>(some (decide (az<0)))) else(some (decide ((rd l0 (aq))<(rd l1 (av)))))) else(some (decide ((l0.length:Int)<(l1.length:Int))))) else(none)) else(none))=some r:=by first|(rw[bU]at H;exact H)|(simp only [bU]at H⊢;exact H)
 have dG:(IntKind.i64.wrap ((l1.length:Int) - 1))=av:=(mh _).trans bU
 obtain⟨cu,H⟩:=kX H
 obtain⟨cS,H⟩:=kX H
 by_cases c9:(l0.length:Int)=(l1.length:Int)
 ·rw[if_pos c9]at H;have ca:=beq_iff_eq.mpr c9;have cd:=bne_eq_false_iff_eq.mpr c9;have db:(l0.length==l1.length)=true:=by first|simpa using c9|(simp at c9⊢;omega)
  clear c9
  by_cases c10:(rd l0 (aq))=(rd l1 (av))
  ·rw[if_pos c10]at H;have bX:=beq_iff_eq.mpr c10;have bY:=bne_eq_false_iff_eq.mpr c10;clear c10;obtain⟨az,cE,H⟩:=kR H;(try dsimp only at H);obtain rfl:=Option.some.inj H;have aG:0<=((aq):Int):=jT;have aH:(aq)<(l0.length:Int):=jT;obtain⟨ck,bM,bR⟩:=kZ aC.out (aq) aG aH;cases bM;replace aG:=eq_true aG;replace aH:=eq_true aH;have aI:0<=((av):Int):=jT;have aK:(av)<(l1.length:Int):=jT;obtain⟨cl,bN,bS⟩:=kZ bu.out (av) aI aK;cases bN;replace aI:=eq_true aI;replace aK:=eq_true aK
   go_enter Try.func100,Try.ntmps100
   go_wp2_with (first|(go_at_call 101;refine(oQ.calls (kv aC.out) bK.out (kv bu.out) ci.out cE.out).mono ?_;rintro e w' ⟨rfl,⟨nd,rfl⟩⟩;(try first|exact⟨rfl,_,World.drewN_drewN _ _ _⟩|exact⟨rfl,_,Eq.trans (World.drewN_drewN _ _ _) (congrArg (World.drewN _) (Nat.add_assoc _ _ _))⟩)))
   repeat(go_quiet (first|(go_at_call 101;(with_reducible refine(oQ.calls ?lu ?lv ?oH ?oI cE.out).mono ?_);(case lu=>exact kv aC.out);(case lv=>exact bK.out);(case oH=>exact kv bu.out);(case oI=>exact ci.out);rintro e w' ⟨rfl,⟨nd,rfl⟩⟩;(try first|exact⟨rfl,_,World.drewN_drewN _ _ _⟩|exact⟨rfl,_,Eq.trans (World.drewN_drewN _ _ _) (congrArg (World.drewN _) (Nat.add_assoc _ _ _))⟩)));try go_wp2_with (first|(go_at_call 101;(with_reducible refine(oQ.calls ?lu ?lv ?oH ?oI cE.out).mono ?_);(case lu=>exact kv aC.out);(case lv=>exact bK.out);(case oH=>exact kv bu.out);(case oI=>exact ci.out);rintro e w' ⟨rfl,⟨nd,rfl⟩⟩;(try first|exact⟨rfl,_,World.drewN_drewN _ _ _⟩|exact⟨rfl,_,Eq.trans (World.drewN_drewN _ _ _) (congrArg (World.drewN _) (Nat.add_assoc _ _ _))⟩))))
   go_ret
   exact⟨yS,by repeat(first|exact kG.refl _|apply kG.step)⟩
  rw[if_neg c10]at H;have bX:=beq_eq_false_iff_ne.mpr c10;have bY:=bne_iff_ne.mpr c10;obtain rfl:=Option.some.inj H;have aG:0<=((aq):Int):=jT;have aH:(aq)<(l0.length:Int):=jT;obtain⟨ck,bM,bR⟩:=kZ aC.out (aq) aG aH;cases bM;replace aG:=eq_true aG;replace aH:=eq_true aH;have aI:0<=((av):Int):=jT;have aK:(av)<(l1.length:Int):=jT;obtain⟨cl,bN,bS⟩:=kZ bu.out (av) aI aK;cases bN;replace aI:=eq_true aI;replace aK:=eq_true aK
  go_enter Try.func100,Try.ntmps100
  go_wp2
  repeat(go_quiet (fail);try go_wp2)
  go_ret
  exact⟨yS,by repeat(first|exact kG.refl _|apply kG.step)⟩
 rw[if_neg c9]at H;have ca:=beq_eq_false_iff_ne.mpr c9;have cd:=bne_iff_ne.mpr c9;have db:(l0.length==l1.length)=false:=by first|simpa using c9|(simp at c9⊢;omega)
 obtain rfl:=Option.some.inj H;have aG:0<=((aq):Int):=jT;have aH:(aq)<(l0.length:Int):=jT;obtain⟨ck,bM,bR⟩:=kZ aC.out (aq) aG aH;cases bM;replace aG:=eq_true aG;replace aH:=eq_true aH;have aI:0<=((av):Int):=jT;have aK:(av)<(l1.length:Int):=jT;obtain⟨cl,bN,bS⟩:=kZ bu.out (av) aI aK;cases bN;replace aI:=eq_true aI;replace aK:=eq_true aK
 go_enter Try.func100,Try.ntmps100
 go_wp2
 repeat(go_quiet (fail);try go_wp2)
 go_ret
 exact⟨yS,by repeat(first|exact kG.refl _|apply kG.step)⟩
def pO.f (l0:List Int):Option (List Int):=(some (([]:List Int):List Int)).bind fun aa=>(if aa.length+l0.length<17592186044416 then(some (aa++l0)) else(none))
theorem pO.calls {A0:Option Addr}{c0:Nat}{l0:List Int}{r:List Int}{w:World}(al:Kd.C (Kd.int .i64) w A0 l0.length l0)(am:l0.length<=c0)(h:pO.f l0=some r):
  Calls Try.prog 103 #[.slice A0 l0.length c0] w fun e w'=>∃ao:Value,e=.returned (ao)/\Kd.R (Kd.int .i64) 3 w' w.heap.size (fun _=>True) ao r/\Below w.heap.size w w':=by
 have ap:=dm al;have aw:=dm am;clear al am;have HB:=dm (Below.refl w.heap.size w);unfold pO.f at h;have H:=h;clear h;obtain⟨aa,ab⟩:∃y_:List Int,y_=(([]:List Int)):=⟨_,rfl⟩;replace H:(if aa.length+l0.length<17592186044416 then(some (aa++l0)) else(none))=some r:=lC ab H
 have af:=dm ab;clear ab
 obtain⟨c2,H⟩:=mH H;have aq:=dm c2;clear c2;obtain⟨aj,ac⟩:∃y_:List Int,y_=(aa++l0):=⟨_,rfl⟩;replace H:(some aj)=some r:=lC ac H
 have ah:=dm ac;clear ac;obtain rfl:=Option.some.inj H;have ax:∀ (w:World) (a:Option Addr) (n c n' c':Nat),(binOp .eql 45 (.slice a n c) (.slice none n' c')).run Try.prog w=.ok (.bool a.isNone) w:=fun w a n c n' c'=>Go.Lib.run_eql_slice_nil w _ _ a n c n' c' Try.underlying45
 rcases A0 with _|ay
 ·have e0:l0=[]:=by
   have h_:=ap.out
   rcases l0 with _|⟨q,r⟩
   ·rfl
   obtain⟨ad,h,_⟩:=h_.2.2 (by simp);exact absurd h (by simp)
  subst e0;have ey:aj=[]:=by rw[ah.out,af.out];rfl
  subst ey
  go_enter Try.func103,Try.ntmps103
  go_wp2
  go_ret
  exact⟨_,rfl,sS _ _ _ _ _,jR HB.out⟩
 go_enter Try.func103,Try.ntmps103
 go_wp2_with (first|((with_reducible refine ky 5 rfl ?_);refine og (Kd.int .i64) rfl 3 ([]:List Int) [] (kF.none _ _) ?_;intro au w3 ag hb hg_ kV;clear hg_ kV;(first|rw[←af.out]at ag|(simp only [Int.reduceToNat]at ag;rw[←af.out]at ag));have ai:=dm (kP ag (kC (jR HB.out)));replace HB:=jX HB hb;clear hb ag)|((with_reducible refine oh (b:=.append) (xs:= #[.tmp 5,.tmp 6]) rfl ?_);at_builtin;refine Ae (Kd.int .i64) (w0:=w) w.heap.size rfl (.tmp 5) (.tmp 6) 45 3 (.int .i64 0) 8 rfl Try.underlying45 info3 rfl (by decide) (by omega) au aa l0 _ _ _ (fun _=>True) (fun _=>False) rfl rfl ?aO ?aR (fun _ _ h=>h) (fun _ h=>h.elim) ?aF ?aB ?aS ?aL ?_;(case aR=>exact kv (kN ap.out HB.out));(case aB=>exact(jR HB.out));(case aF=>exact(fun _ _=>trivial));(case aO=>exact(jV ai.out));(case aS=>exact(kC (jR HB.out)));(case aL=>have:=aq.out;omega);intro av w5 ho hb hg hat;rw[←ah.out]at ho;have n0:=dm (hb);have n1:=dm (ho);clear HB ai;revert n0 n1;intro HB ak;clear ho hb hg hat))
 go_ret
 exact⟨_,mW,jV ak.out,jR HB.out⟩
end Go.Proofs.Ytgeonpciodepgaa.P
section
namespace Go.Proofs.Ytgeonpciodepgaa.P
set_option maxHeartbeats 8000000
set_option maxRecDepth 100000
open Go.RowKit Go.Proofs.YtgeonpciodepgaaW.PrintWords Go.Proofs.YtgeonpciodepgaaW.PrintLast Go.Proofs.YtgeonpciodepgaaW.PrintMore Go.Proofs.YtgeonpciodepgaaW.PrintWords.Kd Go.Proofs.YtgeonpciodepgaaW.PrintMore.Kd
attribute [local go_sem] vQ vU vT vX vS vW vR vV
section
variable {P:Program}{ops:Array Oper}{Q:Exit->Act->World->Prop}
theorem GZ {oi:Oper}{N:Option Tmp}{a:Act}{w:World}{K:Act->World->Prop}{f:FuncId}{fn:Func}{x:Operand}{as_:Array Operand}{ts:Array TypeId}{first cap:Array Value}(hf:P.funcs[f]? =some fn) (args:Array Value)
  (hx : a.eval x = .func (.func f) first cap) (hop : oi.op = .call { callee := .value x, args := as_, argTypes := ts }) (hargs : first ++ as_.map a.eval ++ cap = args) (hname : (fn.name == "runtime.NumGoroutine") = false) (hb : fn.body.isSome = true)
  (hw:Region.wanted oi (yielded ops a.tmps)=true) (hN:oi.dst=N)
  (h:Calls P f args w fun e w'=>∃v,e=.returned v/\K (a.put N v) w'):if Region.wanted oi (yielded ops a.tmps)=true then Oper.wp P oi a w K Q else K (a.put N undef) w:=by
 refine call_ f args hw hN ?_ h;have he:=xk hf hname hb args w;unfold execOp;simp[hop,resolve,Deferred.ofValue,invoke,hx,hargs,he]
theorem GY {rest:List Oper}{oi:Oper}{a:Act}{w:World}(N:Option Tmp) (hd:oi.dst=N) (hg:oi.guard=none) {f:FuncId}{fn:Func}{x:Operand}{as_:Array Operand}{ts:Array TypeId}{first cap:Array Value}(hf:P.funcs[f]? =some fn) (args:Array Value)
  (hx : a.eval x = .func (.func f) first cap) (hop : oi.op = .call { callee := .value x, args := as_, argTypes := ts }) (hargs : first ++ as_.map a.eval ++ cap = args) (hname : (fn.name == "runtime.NumGoroutine") = false) (hb : fn.body.isSome = true)
  (h:Calls P f args w fun e w'=>∃v,e=.returned v/\wpList P ops Q rest (a.put N v) w'):wpList P ops Q (oi::rest) a w:=by
 refine wpList_plain hg fun K hK=>?_;have he:=xk hf hname hb args w;have hrun:(execOp a.eval oi).run P w=.ok (.enter f args) w:=by
  unfold execOp;simp[hop,resolve,Deferred.ofValue,invoke,hx,hargs,he]
 unfold Oper.wp;rw[hrun,Oper.upon_enter];refine h.mono fun e w'' hh=>?_;obtain⟨v,rfl,hk⟩:=hh;subst hd;exact hK _ _ hk
end
structure nT (w0:World) (gR gB gF gN gW:Nat) (A1:Option Addr) (c1:Nat) (l1:List Bool) (n:Int) (A3:Option Addr) (c3:Nat) (l3:List (S59)) (best:List Int) (W:World):Prop where
 b:Below w0.heap.size w0 W
 g:w0.heap.size<=gB
 hR:W.heap[gR]? =some (.cells #[.slice A1 l1.length c1] 54 (0,0))
 hN:W.heap[gN]? =some (.cells #[.int .i64 n,.slice A3 l3.length c3] 31 (0,0))
 hF:W.heap[gF]? =some (.cells #[.func (.func 100) #[] #[]] 73 (0,0))
 hW:W.heap[gW]? =some (.cells #[.func (.func 102) #[] #[.pointer (some ⟨gR,0,none⟩),.pointer (some ⟨gB,0,none⟩),.pointer (some ⟨gF,0,none⟩),.pointer (some ⟨gN,0,none⟩),.pointer (some ⟨gW,0,none⟩)]] 108 (0,0))
 hB:∃A c,W.heap[gB]? =some (.cells #[.slice A best.length c] 45 (0,0))/\Kd.R (Kd.int .i64) 3 W w0.heap.size (fun _=>True) (.slice A best.length c) best
section
variable {w0 W W':World}{gR gB gF gN gW:Nat}{A1:Option Addr}{c1:Nat}{l1:List Bool}{n:Int}{A3:Option Addr}{c3:Nat}{l3:List (S59)}{best best':List Int}
theorem nT.below (h:nT w0 gR gB gF gN gW A1 c1 l1 n A3 c3 l3 best W) (hb:Below W.heap.size W W'):nT w0 gR gB gF gN gW A1 c1 l1 n A3 c3 l3 best W':=by
 obtain⟨A,c,h1,h2⟩:=h.hB;exact⟨uG h.b hb,h.g,nD h.hR hb,nD h.hN hb,nD h.hF hb,nD h.hW hb,A,c,nD h1 hb,o7 h2 hb⟩
theorem nT.drewN (h:nT w0 gR gB gF gN gW A1 c1 l1 n A3 c3 l3 best W) (m:Nat):nT w0 gR gB gF gN gW A1 c1 l1 n A3 c3 l3 best (W.drewN m):=h.below (qO (Below.refl _ _) m)
theorem qH {W:World}{g g' t t':Nat}{cs cs':Array Value}(h:W.heap[g]? =some (.cells cs t (0,0))) (h':W.heap[g']? =some (.cells cs' t' (0,0))) (ht:t≠t'):g≠g':=by
 rintro rfl;rw[h]at h';injection h' with h';injection h' with _ h2;exact ht h2
theorem nT.put (h:nT w0 gR gB gF gN gW A1 c1 l1 n A3 c3 l3 best W) {A:Option Addr}{c:Nat}(hv:Kd.R (Kd.int .i64) 3 W w0.heap.size (fun _=>True) (.slice A best'.length c) best'):
  nT w0 gR gB gF gN gW A1 c1 l1 n A3 c3 l3 best' (W.setCell ⟨gB,0,none⟩ (.slice A best'.length c))/\W.grownBy (W.setCell ⟨gB,0,none⟩ (.slice A best'.length c)) (some gB):=by
 obtain⟨A0,c0,h1,h2⟩:=h.hB;have hg:W.grownBy (W.setCell ⟨gB,0,none⟩ (.slice A best'.length c)) (some gB):=⟨rfl,rfl,rfl,(by have:=(ou (g:=gB) (j:=0) (v:=.slice A best'.length c) h.b h.g).size;first|exact Nat.le_of_eq (World.size_setCell ..).symm|simp),fun k hk hne=>Below.heap_setCell W ⟨gB,0,none⟩ _ k (fun e=>hne (congrArg some e))⟩;refine⟨⟨ou h.b h.g,h.g,pV h.hR (qH h.hR h1 (by decide)) _,pV h.hN (qH h.hN h1 (by decide)) _,pV h.hF (qH h.hF h1 (by decide)) _,pV h.hW (qH h.hW h1 (by decide)) _,A,c,by simpa using yD h1 0 (.slice A best'.length c),?_⟩,hg⟩;exact wN hv h1 (by decide) 0 _
theorem nT.way (h:nT w0 gR gB gF gN gW A1 c1 l1 n A3 c3 l3 best W) {base:Nat}{v:Value}{xs:List Int}(hv:Kd.R (Kd.int .i64) 3 W base (fun _=>True) v xs) (hg:W.grownBy W' (some gB)):Kd.R (Kd.int .i64) 3 W' base (fun _=>True) v xs:=by
 obtain⟨A,c,h1,h2⟩:=h.hB;exact EJ hv rfl hg (lS hv h1 (by decide))
end
mutual
def lZ.l0:Nat->List Int->List Bool->List Int->Int->Int->Int->Int->List (S59)->Option (List Int)
 |0,_,_,_,_,_,_,_,_=>none
 |k+1,x0,x1,x2,x7,aK,aq,af,ag=>if aq<aK then((rF.f k af ag x7 aq).bind fun aZ=>(if aZ=true then((tQ.f k x0 aq).bind fun az=>(lZ.j1 k x0 x1 x2 x7 aq aK aq (!az) af ag)) else(lZ.j1 k x0 x1 x2 x7 aq aK aq false af ag))) else(some x2)
def lZ.j1:Nat->List Int->List Bool->List Int->Int->Int->Int->Int->Bool->Int->List (S59)->Option (List Int)
 |0,_,_,_,_,_,_,_,_,_,_=>none
 |k+1,x0,x1,x2,x7,x8,aK,aq,cm,af,ag=>if cm=true then((pO.f x0).bind fun ae=>((some (([x8]:List Int):List Int)).bind fun ah=>(if ae.length+ah.length<17592186044416 then((lZ.f k (ae++ah) x1 x2 af ag).bind fun ao=>(lZ.l0 k x0 x1 ao x7 aK (wrap64 (aq+1)) af ag)) else(none)))) else(lZ.l0 k x0 x1 x2 x7 aK (wrap64 (aq+1)) af ag)
def lZ.f:Nat->List Int->List Bool->List Int->Int->List (S59)->Option (List Int)
 |0,_,_,_,_,_=>none
 |k+1,l0,l1,a2,bj,b5=>if 0<=(wrap64 ((l0.length:Int) - 1)) then(if(wrap64 ((l0.length:Int) - 1))<(l0.length:Int) then(if 0<=(rd l0 (wrap64 ((l0.length:Int) - 1))) then(if(rd l0 (wrap64 ((l0.length:Int) - 1)))<(l1.length:Int) then(if lW false l1 (rd l0 (wrap64 ((l0.length:Int) - 1)))=true then(if(a2.length:Int)=0 then(pO.f l0) else((rV.f k l0 a2).bind fun au=>(if au=true then(pO.f l0) else(some a2)))) else(lZ.l0 k l0 l1 a2 (rd l0 (wrap64 ((l0.length:Int) - 1))) bj 0 bj b5)) else(none)) else(none)) else(none)) else(none)
end
def lZ.T8:Bool×List (List Nat×List Nat):=(true,[([],[]),([],[]),([1],[1]),([],[]),([3],[3]),([2,4,2],[2,4]),([0,5,5],[0,5])])
def lZ.B8:List Nat:=[0,0,2,0,8,30,63]
theorem lZ.wz:mi .any (opsOf Try.f102 8)=lZ.T8:=by kernel_rfl
theorem lZ.vC:nY lZ.T8.2 lZ.B8=true:=by kernel_rfl
theorem lZ.calls {w0:World}{gR gB gF gN gW:Nat}{A1:Option Addr}{c1:Nat}{l1:List Bool}{n:Int}{A3:Option Addr}{c3:Nat}{l3:List (S59)}(hr1:Kd.C Kd.bool w0 A1 l1.length l1) (bH:l1.length<=c1) (bI:Kd.C k59 w0 A3 l3.length l3) (bJ:l3.length<=c3) (k:Nat):
  ∀ (A0:Option Addr) (c0:Nat) (l0 a2 r:List Int) (w:World) (hw:Kd.R (Kd.int .i64) 3 w 0 (fun _=>True) (.slice A0 l0.length c0) l0) (hX:nT w0 gR gB gF gN gW A1 c1 l1 n A3 c3 l3 a2 w) (h:lZ.f k l0 l1 a2 n l3=some r),
  Calls Try.prog 102 #[.slice A0 l0.length c0,.pointer (some ⟨gR,0,none⟩),.pointer (some ⟨gB,0,none⟩),.pointer (some ⟨gF,0,none⟩),.pointer (some ⟨gN,0,none⟩),.pointer (some ⟨gW,0,none⟩)] w
   fun e w'=>e=.returned (.tuple #[])/\nT w0 gR gB gF gN gW A1 c1 l1 n A3 c3 l3 r w'/\w.grownBy w' (some gB):=by
 have cG:=dm bH;have bK:=dm bI;have bL:=dm bJ;have cn:=dm hr1;clear bH bI bJ hr1
 induction k using Nat.strongRecOn with
 |_ k ih=>
 intro A0 c0 l0 a2 r w hw hX h;cases k with
 |zero=>exact absurd h (by simp[lZ.f])
 |succ k=>
 simp only [lZ.f]at h;have cE:=Try.underlying31;have HQ:=dm hw;have HX:=dm hX;have am:=dm (kr hw).2.2;have aw:=dm (kr hw).2.1;clear hw hX;obtain⟨ab,bm⟩:∃j_:Int,(wrap64 ((l0.length:Int) - 1))=j_:=⟨_,rfl⟩;have H:(if 0<=(ab) then(if(ab)<(l0.length:Int) then(if 0<=(rd l0 (ab)) then(if(rd l0 (ab))<(l1.length:Int) then(if lW false l1 (rd l0 (ab))=true then(if(a2.length:Int)=0 then(pO.f l0) else((rV.f k l0 a2).bind fun au=>(if au=true then(pO.f l0) else(some a2)))) else(lZ.l0 k l0 l1 a2 (rd l0 (ab)) n 0 n l3)) else(none)) else(none)) else(none)) else(none))=some r:=by rw[bm]at h;exact h
 clear h;have cD:(IntKind.i64.wrap ((l0.length:Int) - 1))=ab:=(mh _).trans bm
 obtain⟨c6,H⟩:=mH H;have b6:=decide_eq_true c6
 obtain⟨c7,H⟩:=mH H;have b7:=decide_eq_true c7
 obtain⟨c8,H⟩:=mH H;have b8:=decide_eq_true c8
 obtain⟨c9,H⟩:=mH H;have b9:=decide_eq_true c9;obtain⟨ca,aN⟩:∃b_:Bool,b_=(lW false l1 (rd l0 (ab))):=⟨_,rfl⟩;rw[←aN]at H;obtain⟨aX,e5,cq⟩:=kZ am.out (ab) c6 c7;cases e5;obtain⟨bM,e6,bN⟩:=ui (kN cn.out HX.out.b) (rd l0 (ab)) c8 c9;rw[←aN]at bN;cases e6;clear aN;replace c6:=eq_true c6;replace c7:=eq_true c7;replace c8:=eq_true c8;replace c9:=eq_true c9;have hzR:w.cell? ⟨gR,0,none⟩=some (.slice (some bM) l1.length c1):=(mq HX.out.hR 0).trans rfl;have hzF:w.cell? ⟨gF,0,none⟩=some (.func (.func 100) #[] #[]):=(mq HX.out.hF 0).trans rfl;have hfF:=l8 HX.out.hF 0;have hfR:=l8 HX.out.hR 0
 by_cases a7:ca=true
 ·subst a7;replace H:(if(a2.length:Int)=0 then(pO.f l0) else((rV.f k l0 a2).bind fun au=>(if au=true then(pO.f l0) else(some a2))))=some r:=by rw[if_pos rfl]at H;exact H
  obtain⟨Ab,cb,hbb,hbr⟩:=HX.out.hB;have hzB:w.cell? ⟨gB,0,none⟩=some (.slice Ab a2.length cb):=(mq hbb 0).trans rfl;have hfB:=l8 hbb 0;have HBR:=dm hbr;clear hbb hbr
  by_cases aC:(a2.length:Int)=0
  ·rw[if_pos aC]at H;have bn:=dm H;clear H;have bD:=beq_iff_eq.mpr aC;have bE:=bne_eq_false_iff_eq.mpr aC;clear aC
   go_enter Try.func102,Try.ntmps102
   go_wp2_with (first|((with_reducible refine kQ 103 rfl ?_);refine lL 29 rfl Try.func103 (pO.calls (kv am.out) aw.out bn.out) ?_;rintro e bo ⟨cd,rfl,ak,hb⟩;refine⟨_,rfl,?_⟩;obtain⟨Ao,co,eo⟩:=kK ak;subst eo;have HO:=dm ak;have ax:=dm (nT.below HX.out hb);have bp:=dm hb;clear ak hb hzB hfB;obtain⟨bq,br,aE,_⟩:=ax.out.hB;have ce:bo.cell? ⟨gB,0,none⟩=some (.slice bq a2.length br):=(mq aE 0).trans rfl;have cf:=l8 aE 0))
   first|go_end0|refine bodyPost_ret (results_none rfl _ _ _) rfl ?_
   have h9:=nT.put ax.out (kP HO.out HX.out.b.size);exact⟨rfl,h9.1,World.grownBy.trans (tu bp.out _) h9.2⟩
  rw[if_neg aC]at H;have bD:=beq_eq_false_iff_ne.mpr aC;have bE:=bne_iff_ne.mpr aC;clear aC;obtain⟨au,bO,H⟩:=kR H
  by_cases a8:au=true
  ·subst a8;replace H:pO.f l0=some r:=by rw[if_pos rfl]at H;exact H
   have bn:=dm H;clear H
   go_enter Try.func102,Try.ntmps102
   go_wp2_with (first|(go_at_call 100;refine(rV.calls (kv am.out) aw.out (kv (kr HBR.out).2.2) ((kr HBR.out).2.1) bO.out).mono ?_;rintro e w' ⟨rfl,⟨nd,rfl⟩⟩)|((with_reducible refine kQ 103 rfl ?_);refine lL 29 rfl Try.func103 (pO.calls (kv am.out) aw.out bn.out) ?_;rintro e bo ⟨cd,rfl,ak,hb⟩;refine⟨_,rfl,?_⟩;obtain⟨Ao,co,eo⟩:=kK ak;subst eo;have HO:=dm ak;have ax:=dm (nT.below (nT.drewN HX.out nd) hb);have bp:=dm (uG (qO (Below.refl w.heap.size w) nd) hb);clear ak hb hzB hfB;obtain⟨bq,br,aE,_⟩:=ax.out.hB;have ce:bo.cell? ⟨gB,0,none⟩=some (.slice bq a2.length br):=(mq aE 0).trans rfl;have cf:=l8 aE 0))
   first|go_end0|refine bodyPost_ret (results_none rfl _ _ _) rfl ?_
   have h9:=nT.put ax.out (kP HO.out (Nat.le_trans HX.out.b.size (kC (qO (Below.refl w.heap.size w) nd))));exact⟨rfl,h9.1,World.grownBy.trans (tu bp.out _) h9.2⟩
  replace a8:=Bool.eq_false_iff.mpr a8;subst a8;obtain rfl:a2=r:=by rw[if_neg (show¬ (false=true) by decide)]at H;exact Option.some.inj H
  clear H
  go_enter Try.func102,Try.ntmps102
  go_wp2_with (first|(go_at_call 100;refine(rV.calls (kv am.out) aw.out (kv (kr HBR.out).2.2) ((kr HBR.out).2.1) bO.out).mono ?_;rintro e w' ⟨rfl,⟨nd,rfl⟩⟩))
  first|go_end0|refine bodyPost_ret (results_none rfl _ _ _) rfl ?_
  exact⟨rfl,nT.drewN HX.out _,tu (qO (Below.refl w.heap.size w) _) _⟩
 replace a7:=Bool.eq_false_iff.mpr a7;subst a7;replace H:(lZ.l0 k l0 l1 a2 (rd l0 (ab)) n 0 n l3)=some r:=by rw[if_neg (show¬ (false=true) by decide)]at H;exact H
 have H':=dm H;clear H;have bu:w.cell? ⟨gN,0,none⟩=some (.int .i64 n):=(mq HX.out.hN 0).trans rfl;have bv:w.cell? ⟨gN,1,none⟩=some (.slice A3 l3.length c3):=(mq HX.out.hN 1).trans rfl;have bx:=l8 HX.out.hN 0;have bz:=l8 HX.out.hN 1;have HG:=dm (World.grownBy.refl w (some gB))
 go_enter Try.func102,Try.ntmps102
 go_wp2
 go_loopg [32] k (fun kq ct w'=>∃ (aj:List Int) (aa:Int),ct=.int .i64 aa/\jP (lZ.l0 kq l0 l1 aj (rd l0 (ab)) n aa n l3=some r)/\jP (kq<=k)/\jP (Kd.R (Kd.int .i64) 3 w' 0 (fun _=>True) (.slice (some aX) l0.length c0) l0)/\jP (nT w0 gR gB gF gN gW (some bM) c1 l1 n A3 c3 l3 aj w')/\jP (w.grownBy w' (some gB)))
 case atStart=>exact⟨(a2),(0),(ku),H',⟨Nat.le_refl _⟩,⟨HQ.out⟩,⟨HX.out⟩,⟨HG.out⟩⟩
 case round=>
  clear H' HQ HX HG am bu bv bx bz hzR hfR hzF hfF cq bN c6 b6 c7 b7 c8 b8 c9 b9;obtain⟨aj,aa,rfl,HA,aY,HQ,HX,HG⟩:=hrel;have am:=dm (kr HQ.out).2.2;have HB:=dm (Below.refl wr.heap.size wr);cases gk with
  |zero=>exact absurd HA.out (by simp[lZ.l0])
  |succ k1=>
   have H:=HA.out;clear HA;simp only [lZ.l0]at H
   replace H:=lH H;rcases H with⟨a9,H⟩|⟨a9,H⟩
   ·have a5:=dm H;clear H
    go_upto_region 7 with(fail)
    go_cut [44] (fun cu wc=>∃ (kq:Nat) (ay:Bool),cu=.bool ay/\jP (lZ.j1 kq l0 l1 aj (rd l0 (ab)) aa n aa ay n l3=some r)/\jP (kq<=k1)/\jP (Below wr.heap.size wr wc))
    case first=>
     have H:=a5.out;clear a5;have bu:wr.cell? ⟨gN,0,none⟩=some (.int .i64 n):=(mq HX.out.hN 0).trans rfl;have bv:wr.cell? ⟨gN,1,none⟩=some (.slice A3 l3.length c3):=(mq HX.out.hN 1).trans rfl;have bx:=l8 HX.out.hN 0;have bz:=l8 HX.out.hN 1;obtain⟨aZ,bP,H⟩:=kR H
     by_cases a_:aZ=true
     ·subst a_;replace H:((tQ.f k1 l0 aa).bind fun az=>(lZ.j1 k1 l0 l1 aj (rd l0 (ab)) aa n aa (!az) n l3))=some r:=by rw[if_pos rfl]at H;exact H
      obtain⟨az,cv,H⟩:=kR H;have H':=dm H;clear H
      go_wp2_with (first|((with_reducible refine kQ 65 rfl ?_);refine nC 38 rfl Try.func65 (rF.calls (kv (kN bK.out HX.out.b)) bL.out bP.out) ?_;intro cw hb;have n1:=jX HB hb;clear HB hb;have HB:=n1;clear n1)|(go_at_call 89;refine(tQ.calls (kv (kN am.out HB.out)) aw.out cv.out).mono ?_;rintro e w' ⟨rfl,⟨nd,rfl⟩⟩))
      go_meet
      case rel=>exact⟨_,(!az),(ku),H',⟨Nat.le_refl _⟩,⟨jR HB.out⟩⟩
     replace a_:=Bool.eq_false_iff.mpr a_;subst a_;replace H:(lZ.j1 k1 l0 l1 aj (rd l0 (ab)) aa n aa false n l3)=some r:=by rw[if_neg (show¬ (false=true) by decide)]at H;exact H
     have H':=dm H;clear H
     go_wp2_with (first|((with_reducible refine kQ 65 rfl ?_);refine nC 38 rfl Try.func65 (rF.calls (kv (kN bK.out HX.out.b)) bL.out bP.out) ?_;intro cw hb;have n1:=jX HB hb;clear HB hb;have HB:=n1;clear n1))
     go_meet
     case rel=>exact⟨_,(false),(ku),H',⟨Nat.le_refl _⟩,⟨jR HB.out⟩⟩
    case rest=>
     clear a5 HB a9;obtain⟨kq,ay,rfl,HA,aG,HB⟩:=hcut;cases kq with
     |zero=>exact absurd HA.out (by simp[lZ.j1])
     |succ ap=>
      have H:=HA.out;clear HA;simp only [lZ.j1]at H
      by_cases ba:ay=true
      ·subst ba;replace H:((pO.f l0).bind fun ae=>((some (([aa]:List Int):List Int)).bind fun ah=>(if ae.length+ah.length<17592186044416 then((lZ.f ap (ae++ah) l1 aj n l3).bind fun ao=>(lZ.l0 ap l0 l1 ao (rd l0 (ab)) n (wrap64 (aa+1)) n l3)) else(none))))=some r:=by rw[if_pos rfl]at H;exact H
       obtain⟨ae,bQ,H⟩:=kR H;obtain⟨ah,aP⟩:∃y_:List Int,y_=(([aa]:List Int)):=⟨_,rfl⟩;replace H:(if ae.length+ah.length<17592186044416 then((lZ.f ap (ae++ah) l1 aj n l3).bind fun ao=>(lZ.l0 ap l0 l1 ao (rd l0 (ab)) n (wrap64 (aa+1)) n l3)) else(none))=some r:=by rw[aP];exact H
       have aD:=dm aP;clear aP
       obtain⟨bd,H⟩:=mH H;have bF:=dm bd;clear bd;obtain⟨bA,aQ⟩:∃y_:List Int,y_=(ae++ah):=⟨_,rfl⟩;rw[←aQ]at H;have bG:=dm aQ;clear aQ;obtain⟨ao,cx,H⟩:=kR H;have H':=dm H;clear H;try go_wp2
       have BK:=dm (kU (nD HX.out.hW HB.out));have n1:=dm (mg HB.out);clear HB;have HB:=n1;clear n1;refine nk 7 (S:=fun w'=>w'.cell? ⟨gW,0,none⟩=some (.func (.func 102) #[] #[.pointer (some ⟨gR,0,none⟩),.pointer (some ⟨gB,0,none⟩),.pointer (some ⟨gF,0,none⟩),.pointer (some ⟨gN,0,none⟩),.pointer (some ⟨gW,0,none⟩)])) [] (jY BK 0) lZ.wz lZ.vC (fun hHeld HT_ HW_=>?_);generalize wc.drew=cH at BK HB hHeld⊢;refine jW 1 46 2 ?_;refine jW 3 48 10 ?_;refine kL 0 45 11 ?_;refine qZ (σ:=Value×Value) 2 (lJ 7 31) (fun s_=>[(47,s_.1),(49,s_.2)]) (fun s_ w'=>(w'.cell? ⟨gW,0,none⟩=some (.func (.func 102) #[] #[.pointer (some ⟨gR,0,none⟩),.pointer (some ⟨gB,0,none⟩),.pointer (some ⟨gF,0,none⟩),.pointer (some ⟨gN,0,none⟩),.pointer (some ⟨gW,0,none⟩)]))/\(Kd.R (Kd.int .i64) 3 w' wr.heap.size (fun k_=>some k_≠(s_.2:Value).ownBlock) s_.1 ae)/\(Kd.R (Kd.int .i64) 3 w' wr.heap.size (fun k_=>some k_≠(s_.1:Value).ownBlock) s_.2 ah)/\(w'.heap[gW]? =some (.cells #[.func (.func 102) #[] #[.pointer (some ⟨gR,0,none⟩),.pointer (some ⟨gB,0,none⟩),.pointer (some ⟨gF,0,none⟩),.pointer (some ⟨gN,0,none⟩),.pointer (some ⟨gW,0,none⟩)]] 108 (0,0)))/\(Below wr.heap.size wr w')) ?_ ?_;rotate_left
       ·intro tC;refine uA (i:=2) (j:=4) (Ni:=some 47) (Nj:=some 49) (lJ 7 15) (lJ 7 27) rfl rfl rfl rfl (uB HT_.out (by kernel_rfl)) (by decide) (by decide) (fun K hK=>?_) (fun K hK=>?_)
        ·refine oz Try.func103 (pO.calls (kv (kN am.out HB.out)) aw.out bQ.out) ?_;rintro e cy ⟨aH,rfl,ak,hb⟩;refine⟨_,rfl,?_⟩;have ai:=dm (kP ak (kC (jR HB.out)));replace BK:=jU BK hb;replace HB:=jX HB hb;(try clear hb ak);refine hK.out _ _ (jY BK 0) (fun hHeld=>?_);clear hK K;refine ll 47 ?_;refine l6 4 49 31 (fun K hK=>?_);refine qC (Kd.int .i64) _ 3 ?hg (N:=49) ?hd (xs:=([aa]:List Int)) (inner:=[.int .i64 aa]) (ok:=fun _=>True) (okp:=fun _=>True) ?hr ?hp (fun _ hk=>hk) trivial (Below.refl _ _) (Nat.le_refl _) (by simp) ?_;(case hd=>rfl);(case hg=>rfl);(case hr=>first|(go_simp;done)|(go_simp;rfl));(case hp=>exact(kF.one (show Kd.M (Kd.int .i64) _ _ _ aa [.int .i64 aa] from rfl) (kF.none _ _)));intro aT cI aA hb hg_ kV;clear hg_ kV;(first|rw[←aD.out]at aA|(simp only [Int.reduceToNat]at aA;rw[←aD.out]at aA));have ac:=dm (kP (lF aA (kT (jV ai.out))) (kC (jR HB.out)));replace ai:=lK ai aA hb;replace BK:=jU BK hb;replace HB:=jX HB hb;clear hb aA;refine hK.out _ _ (jY BK 0) (fun hHeld=>?_);clear hK K;refine ll 49 ?_;exact ng (by simp only [oG,Act.put,List.setIfInBounds_toArray,List.set_cons_zero,List.set_cons_succ]) (tC (aH,aT) _ ⟨hHeld,((wX)),((vD)),(jZ BK.out),(jR HB.out)⟩)
        refine qC (Kd.int .i64) _ 3 ?hg (N:=49) ?hd (xs:=([aa]:List Int)) (inner:=[.int .i64 aa]) (ok:=fun _=>True) (okp:=fun _=>True) ?hr ?hp (fun _ hk=>hk) trivial (Below.refl _ _) (Nat.le_refl _) (by simp) ?_;(case hd=>rfl);(case hg=>rfl);(case hr=>first|(go_simp;done)|(go_simp;rfl));(case hp=>exact(kF.one (show Kd.M (Kd.int .i64) _ _ _ aa [.int .i64 aa] from rfl) (kF.none _ _)));intro aT cy aI hb hg_ kV;clear hg_ kV;(first|rw[←aD.out]at aI|(simp only [Int.reduceToNat]at aI;rw[←aD.out]at aI));have ac:=dm (kP aI (kC (jR HB.out)));replace BK:=jU BK hb;replace HB:=jX HB hb;clear hb aI;refine hK.out _ _ (jY BK 0) (fun hHeld=>?_);clear hK K;refine ll 49 ?_;refine l6 2 47 31 (fun K hK=>?_);refine oz Try.func103 (pO.calls (kv (kN am.out HB.out)) aw.out bQ.out) ?_;rintro e cJ ⟨aH,rfl,ak,hb⟩;refine⟨_,rfl,?_⟩;have ai:=dm (kP (lF ak (kT (jV ac.out))) (kC (jR HB.out)));replace ac:=lK ac ak hb;replace BK:=jU BK hb;replace HB:=jX HB hb;(try clear hb ak);refine hK.out _ _ (jY BK 0) (fun hHeld=>?_);clear hK K;refine ll 47 ?_;exact ng (by simp only [oG,Act.put,List.setIfInBounds_toArray,List.set_cons_zero,List.set_cons_succ]) (tC (aH,aT) _ ⟨hHeld,((wX)),((vD)),(jZ BK.out),(jR HB.out)⟩)
       rintro⟨aH,aT⟩ cL ⟨hHeld,bR,bS,bT,bU⟩;clear BK HB;have ai:=dm bR;have ac:=dm bS;have BK:=dm bT;have HB:=dm bU;clear bR bS bT bU;obtain⟨cg,ch,ci⟩:=kK ac.out;subst ci;refine ng (a':= ?_) ?_ ?_;rotate_left
       ·simp only [oG,Act.put,List.setIfInBounds_toArray,List.set_cons_zero,List.set_cons_succ];rfl
       refine l6 5 50 63 (fun K hK=>?_);refine xW (Kd.int .i64) (w0:=wr) wr.heap.size (by rfl) (.tmp 47) (.tmp 49) 45 3 (.int .i64 0) 8 rfl Try.underlying45 info3 rfl (by decide) (by omega) aH ae ah _ _ _ (fun k_=>some k_≠(.slice cg ah.length ch:Value).ownBlock) (fun _=>False) rfl rfl ?aO ?aR (fun _ _ h=>h) (fun _ h=>h.elim) ?aF ?aB ?aS ?aL ?_;(case aR=>exact kv (kr ac.out).2.2);(case aB=>exact(jR HB.out));(case aF=>exact(fun k_ hk=>Kd.fresh' (kT (jV ac.out)) k_ hk));(case aO=>exact(jV ai.out));(case aS=>exact(kC (jR HB.out)));(case aL=>have:=bF.out;omega);intro cF cM ho hb hg hat;rw[←bG.out]at ho;have n0:=lY BK hg (lS ai.out BK.out (by decide));clear BK ac HB ai;have BK:=n0;have HB:=dm hb;have aU:=dm ho;clear n0 ho hb hg hat;obtain⟨cj,ck,cl⟩:=kK aU.out;subst cl;refine hK.out _ _ (jY BK 0) (fun hHeld=>?_);clear hK K;refine ll 50 ?_;refine l6 6 51 127 (fun K hK=>?_);have ax:=dm (nT.below HX.out (jR HB.out));have bV:=dm (o7 HQ.out (jR HB.out));have bW:=dm (World.grownBy.trans HG.out (tu (jR HB.out) (some gB)));refine GZ (f:=102) (x:=.tmp 45) (first:= #[]) (cap:= #[.pointer (some ⟨gR,0,none⟩),.pointer (some ⟨gB,0,none⟩),.pointer (some ⟨gF,0,none⟩),.pointer (some ⟨gN,0,none⟩),.pointer (some ⟨gW,0,none⟩)]) Try.func102 (#[.slice cj bA.length ck]++ #[.pointer (some ⟨gR,0,none⟩),.pointer (some ⟨gB,0,none⟩),.pointer (some ⟨gF,0,none⟩),.pointer (some ⟨gN,0,none⟩),.pointer (some ⟨gW,0,none⟩)]) rfl rfl (by first|rfl|(simp only [List.map_toArray,List.map_cons,List.map_nil];rfl)) (by kernel_rfl) rfl (by rfl) rfl ?_;refine(ih ap (by have:=aY.out;have:=aG.out;omega) _ _ bA aj ao _ ?lu ax.out cx.out).mono ?_;(case lu=>exact kz (kP aU.out (Nat.zero_le _)) (fun _ _=>trivial));rintro e bX ⟨rfl,hx_,hg_⟩;refine⟨_,rfl,?_⟩;have n1:=dm (nT.way ax.out bV.out hg_);have n2:=dm (World.grownBy.trans bW.out hg_);have n3:=dm hx_;have n4:=dm (Below.refl bX.heap.size bX);have n5:=dm hx_.hW;clear HQ HX HG bV ax bW HB BK aU hx_ hg_ am;have HQ:=n1;have HG:=n2;have HX:=n3;have HB:=n4;have BK:=n5;clear n1 n2 n3 n4 n5;refine hK.out _ _ (jY BK 0) (fun hHeld=>?_);clear hK K;refine ll 51 ?_;refine mD (mV HT_.out (by kernel_rfl)) ?_;try go_wp2
       go_roundg ap
       case measure=>have:=aY.out;have:=aG.out;omega
       case rel=>exact⟨(ao),(wrap64 (aa+1)),(ku),H',⟨by have:=aY.out;have:=aG.out;omega⟩,⟨jV HQ.out⟩,⟨nT.below HX.out (jR HB.out)⟩,⟨World.grownBy.trans HG.out (tu (jR HB.out) _)⟩⟩
      replace ba:=Bool.eq_false_iff.mpr ba;subst ba;replace H:(lZ.l0 ap l0 l1 aj (rd l0 (ab)) n (wrap64 (aa+1)) n l3)=some r:=by rw[if_neg (show¬ (false=true) by decide)]at H;exact H
      have H':=dm H;clear H
      go_wp2
      go_roundg ap
      case measure=>have:=aY.out;have:=aG.out;omega
      case rel=>exact⟨(aj),(wrap64 (aa+1)),(ku),H',⟨by have:=aY.out;have:=aG.out;omega⟩,⟨o7 HQ.out (jR HB.out)⟩,⟨nT.below HX.out (jR HB.out)⟩,⟨World.grownBy.trans HG.out (tu (jR HB.out) _)⟩⟩
   obtain rfl:=Option.some.inj H
   go_wp2
   first|go_end0|refine bodyPost_ret (results_none rfl _ _ _) rfl ?_
   exact⟨rfl,nT.below HX.out (jR HB.out),World.grownBy.trans HG.out (tu (jR HB.out) _)⟩
def rU.f (k:Nat) (av:Int) (al:List (S59)) (a1:Int) (l2:List Bool):Option (List Int):=lZ.f k [a1] l2 [] av al
theorem rU.calls {k:Nat}{av:Int}{aV:Option Addr}{aW:Nat}{al:List (S59)}{a1:Int}{A2:Option Addr}{c2:Nat}{l2:List Bool}{r:List Int}{w:World}(bf:Kd.C k59 w aV al.length al)(bh:al.length<=aW)(hr2:Kd.C Kd.bool w A2 l2.length l2)(bY:l2.length<=c2)(h:rU.f k av al a1 l2=some r):
  Calls Try.prog 67 #[.agg #[.int .i64 av,.slice aV al.length aW],.int .i64 a1,.slice A2 l2.length c2] w fun e w'=>∃bZ:Value,e=.returned (bZ)/\Kd.R (Kd.int .i64) 3 w' w.heap.size (fun _=>True) bZ r/\Below w.heap.size w w':=by
 obtain⟨y0,bB⟩:∃y_:List Int,y_=(([]:List Int)):=⟨_,rfl⟩;obtain⟨y1,bC⟩:∃y_:List Int,y_=(([a1]:List Int)):=⟨_,rfl⟩;have H:lZ.f k y1 l2 y0 av al=some r:=by rw[bB,bC];exact h
 have b3:=dm bB;have b4:=dm bC;have A1:=dm H;clear bB bC H h;have am:=dm bf;have cz:=dm hr2;clear bf hr2;have aw:=dm bh;have cA:=dm bY;clear bh bY;have hmf:∀ (fn:Fn) (first cap:Array Value) (w:World),(Instr.makeFunc fn first cap).run Try.prog w=.ok (.func fn first cap) w:=fun _ _ _ _=>rfl
 go_enter Try.func67,Try.ntmps67
 go_wp2_with (first
  |((with_reducible refine ky 3 rfl ?_);refine kS #[.int .i64 av,.slice aV al.length aW] 31 ?_;intro gN hg w1 hN hb;have BN:=dm hN;have HB:=dm hb;clear hN hg hb)
  |((with_reducible refine ky 5 rfl ?_);refine kS #[.slice A2 l2.length c2] 54 ?_;intro gR hg w2 hR hb;have BR:=dm hR;have n1:=jU BN hb;have n2:=jX HB hb;clear BN HB hb hg hR;have BN:=n1;have HB:=n2;clear n1 n2)
  |((with_reducible refine ky 10 rfl ?_);refine og (Kd.int .i64) rfl 3 ([]:List Int) [] (kF.none _ _) ?_;intro v0 w3 ho hb hg_ kV;clear hg_ kV;(first|rw[←b3.out]at ho|(simp only [Int.reduceToNat]at ho;rw[←b3.out]at ho));have n0:=dm (kP ho (kC (jR HB.out)));have n1:=jU BN hb;have n2:=jU BR hb;have n3:=jX HB hb;clear BN BR HB hb ho;have HO:=n0;have BN:=n1;have BR:=n2;have HB:=n3;clear n0 n1 n2 n3;obtain⟨Ao,co,eo⟩:=kK HO.out;subst eo)
  |((with_reducible refine ky 7 rfl ?_);refine kS #[.slice none 0 0] 45 ?_;intro gB hg w4 hbB hb;have GE:=dm (show w.heap.size<=gB by rw[hg];exact(kC (jR HB.out)));have BB:=dm hbB;have n0:=kD HO hb;have n1:=jU BN hb;have n2:=jU BR hb;have n3:=jX HB hb;clear HO BN BR HB hb hg hbB;have HO:=n0;have BN:=n1;have BR:=n2;have HB:=n3;clear n0 n1 n2 n3;have hzB:w4.cell? ⟨gB,0,none⟩=some (.slice none 0 0):=(mq BB.out 0).trans rfl;have hfB:=l8 BB.out 0)
  |((with_reducible refine ky 8 rfl ?_);have n0:=dm (wN HO.out BB.out (by decide) 0 (.slice Ao y0.length co));have n1:=dm (pV BN.out (p:=⟨gB,0,none⟩) (qH BN.out BB.out (by decide)) (.slice Ao y0.length co));have n2:=dm (pV BR.out (p:=⟨gB,0,none⟩) (qH BR.out BB.out (by decide)) (.slice Ao y0.length co));have n3:=dm (ou (j:=0) (v:=.slice Ao y0.length co) HB.out GE.out);have n4:=dm (uj BB.out 0 (.slice Ao y0.length co) (cs':= #[.slice Ao y0.length co]) rfl);clear HO BN BR HB BB hzB hfB;have HO:=n0;have BN:=n1;have BR:=n2;have HB:=n3;have BB:=n4;clear n0 n1 n2 n3 n4;refine qc 8 #[.nilFunc] 73 ?_;intro gF hg w5 hbF hb;have GF:=dm (show w.heap.size<=gF by rw[hg];exact(kC (jR HB.out)));have BF:=dm hbF;have n0:=dm (o7 HO.out hb);have n1:=dm (nD BN.out hb);have n2:=dm (nD BR.out hb);have n3:=dm (uG HB.out hb);have n4:=dm (nD BB.out hb);clear HO BN BR HB BB hb hg hbF;have HO:=n0;have BN:=n1;have BR:=n2;have HB:=n3;have BB:=n4;clear n0 n1 n2 n3 n4;have hzF:w5.cell? ⟨gF,0,none⟩=some .nilFunc:=(mq BF.out 0).trans rfl;have hfF:=l8 BF.out 0)
  |((with_reducible refine ky 9 rfl ?_);have n0:=dm (wN HO.out BF.out (by decide) 0 (.func (.func 100) #[] #[]));have n1:=dm (pV BN.out (p:=⟨gF,0,none⟩) (qH BN.out BF.out (by decide)) (.func (.func 100) #[] #[]));have n2:=dm (pV BR.out (p:=⟨gF,0,none⟩) (qH BR.out BF.out (by decide)) (.func (.func 100) #[] #[]));have n3:=dm (ou (j:=0) (v:=.func (.func 100) #[] #[]) HB.out GF.out);have n4:=dm (pV BB.out (p:=⟨gF,0,none⟩) (qH BB.out BF.out (by decide)) (.func (.func 100) #[] #[]));have n5:=dm (uj BF.out 0 (.func (.func 100) #[] #[]) (cs':= #[.func (.func 100) #[] #[]]) rfl);clear HO BN BR HB BB BF hzF hfF;have HO:=n0;have BN:=n1;have BR:=n2;have HB:=n3;have BB:=n4;have BF:=n5;clear n0 n1 n2 n3 n4 n5;refine qc 9 #[.nilFunc] 108 ?_;intro gW hg w6 hbW hb;have GW:=dm (show w.heap.size<=gW by rw[hg];exact(kC (jR HB.out)));have BW:=dm hbW;have n0:=dm (o7 HO.out hb);have n1:=dm (nD BN.out hb);have n2:=dm (nD BR.out hb);have n3:=dm (uG HB.out hb);have n4:=dm (nD BB.out hb);have n5:=dm (nD BF.out hb);clear HO BN BR HB BB BF hb hg hbW;have HO:=n0;have BN:=n1;have BR:=n2;have HB:=n3;have BB:=n4;have BF:=n5;clear n0 n1 n2 n3 n4 n5;have hzW:w6.cell? ⟨gW,0,none⟩=some .nilFunc:=(mq BW.out 0).trans rfl;have hfW:=l8 BW.out 0)
  |((with_reducible refine ky 14 rfl ?_);have HX:=dm (show nT w gR gB gF gN gW A2 c2 l2 av aV aW al y0 (w6.setCell ⟨gW,0,none⟩ (.func (.func 102) #[] #[.pointer (some ⟨gR,0,none⟩),.pointer (some ⟨gB,0,none⟩),.pointer (some ⟨gF,0,none⟩),.pointer (some ⟨gN,0,none⟩),.pointer (some ⟨gW,0,none⟩)])) from⟨ou HB.out GW.out,GE.out,pV BR.out (qH BR.out BW.out (by decide)) _,pV BN.out (qH BN.out BW.out (by decide)) _,pV BF.out (qH BF.out BW.out (by decide)) _,uj BW.out 0 (.func (.func 102) #[] #[.pointer (some ⟨gR,0,none⟩),.pointer (some ⟨gB,0,none⟩),.pointer (some ⟨gF,0,none⟩),.pointer (some ⟨gN,0,none⟩),.pointer (some ⟨gW,0,none⟩)]) rfl,Ao,co,pV BB.out (qH BB.out BW.out (by decide)) _,wN HO.out BW.out (by decide) 0 _⟩);clear HO BN BR HB BB BF BW hzW hfW;refine og (Kd.int .i64) rfl 3 ([a1]:List Int) [.int .i64 a1] (kF.one (show Kd.M (Kd.int .i64) _ _ _ a1 [.int .i64 a1] from rfl) (kF.none _ _)) ?_;intro v1 w7 ho hb hg_ kV;clear hg_ kV;(first|rw[←b4.out]at ho|(simp only [Int.reduceToNat]at ho;rw[←b4.out]at ho));have n0:=dm (kP ho (Nat.zero_le _));have n1:=dm (nT.below HX.out hb);clear HX hb ho;have HX:=n1;have HO:=n0;clear n0 n1;obtain⟨Ap,cp,ep⟩:=kK HO.out;subst ep)
  |((with_reducible refine ky 15 rfl ?_);refine GY (some 15) rfl rfl (f:=102) (x:=.tmp 12) (first:= #[]) (cap:= #[.pointer (some ⟨gR,0,none⟩),.pointer (some ⟨gB,0,none⟩),.pointer (some ⟨gF,0,none⟩),.pointer (some ⟨gN,0,none⟩),.pointer (some ⟨gW,0,none⟩)]) Try.func102 (#[.slice Ap y1.length cp]++ #[.pointer (some ⟨gR,0,none⟩),.pointer (some ⟨gB,0,none⟩),.pointer (some ⟨gF,0,none⟩),.pointer (some ⟨gN,0,none⟩),.pointer (some ⟨gW,0,none⟩)]) rfl rfl (by first|rfl|(simp only [List.map_toArray,List.map_cons,List.map_nil];rfl)) (by kernel_rfl) rfl ?_;refine(lZ.calls cz.out cA.out am.out aw.out k _ _ y1 y0 r _ HO.out HX.out A1.out).mono ?_;rintro e w8 ⟨rfl,hx_,hg_⟩;refine⟨_,rfl,?_⟩;obtain⟨Ar,cr,hbr,hrr⟩:=hx_.hB;have HRR:=dm hrr;have HBB:=dm hx_.b;have hzR:w8.cell? ⟨gB,0,none⟩=some (.slice Ar r.length cr):=(mq hbr 0).trans rfl;clear HX hx_ hg_ hbr hrr))
 go_ret
 exact⟨_,rfl,HRR.out,HBB.out⟩
end Go.Proofs.Ytgeonpciodepgaa.P
