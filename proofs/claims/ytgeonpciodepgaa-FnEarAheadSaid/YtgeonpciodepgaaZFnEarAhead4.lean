/- The proof's parts ahead of the row: of no condition of their own. -/
import Derived.Test.YtgeonpciodepgaaZFnEarAhead3
import Derived.Shelf.SlSortCmp.WholeK
import Derived.Ground.SlsfProg
import Derived.Sort.OwnSortedInts
set_option linter.unusedVariables false
set_option linter.unusedSimpArgs false
namespace Go.Proofs.Ytgeonpciodepgaa.P
set_option maxHeartbeats 8000000
set_option maxRecDepth 100000
open Go.RowKit Go.Proofs.YtgeonpciodepgaaW.PrintWords Go.Proofs.YtgeonpciodepgaaW.PrintLast Go.Proofs.YtgeonpciodepgaaW.PrintMore Go.Proofs.YtgeonpciodepgaaW.PrintWords.Kd Go.Proofs.YtgeonpciodepgaaW.PrintMore.Kd
attribute [local go_sem] zc_ zdb zdK zdG zcK zcL zdc zda
theorem zoR {p:Prop}(h:p:=by exact G.bw ac.out):p:=h
theorem zo6 {p:Prop}(h:p:=by rw[hg];exact Nat.ne_of_lt (zbg (g:=ah) (o:=.cells #[.int .i64 af,.slice aZ ag.length a2] 31 (0,0)) (G.cb ab.out))):p:=h
theorem zo_ {p:Prop}(h:p:=by rw[hg];exact Nat.ne_of_gt (zbg (g:=ah) (o:=.cells #[.int .i64 af,.slice aZ ag.length a2] 31 (0,0)) (G.cb ab.out))):p:=h
theorem zpc {p:Prop}(h:p:=by rw[hg];exact Nat.ne_of_lt (zbg (g:=ah) (o:=.cells #[.int .i64 af,.slice a4 ag.length a5] 31 (0,0)) (G.cb ab.out))):p:=h
theorem zoZ {p:Prop}(h:p:=by rw[hg];exact Nat.ne_of_gt (zbg (g:=ah) (o:=.cells #[.int .i64 af,.slice a4 ag.length a5] 31 (0,0)) (G.cb ab.out))):p:=h
theorem zlU {p:Prop}(h:p:=by(with_reducible repeat(first|apply zav|apply zaw|apply zat));exact zam aa.out (fun _ hk=>hk.2)):p:=h
theorem zls {p:Prop}(h:p:=by(with_reducible repeat(first|apply zav|apply zaw|apply zat));exact zam aF.out (fun _ hk=>hk.2)):p:=h
theorem zlh {p:Prop}(h:p:=by rw[hg];exact Nat.ne_of_lt (zbg (g:=am) (o:=.cells #[.int .i64 0,.slice none 0 0] 31 (0,0)) (G.cb ac.out))):p:=h
theorem zkS {p:Prop}(h:p:=by rw[hg];exact Nat.ne_of_gt (zbg (g:=am) (o:=.cells #[.int .i64 0,.slice none 0 0] 31 (0,0)) (G.cb ac.out))):p:=h
theorem zo1 {p:Prop}(h:p:=by rw[hg];exact Nat.ne_of_lt (zab.lt (show zab w0 _ g ai aT from zck))):p:=h
theorem zoK {p:Prop}(h:p:=by rw[hg];exact Nat.ne_of_gt (zab.lt (show zab w0 _ g ai aT from zck))):p:=h
theorem zgC {p:Prop}(h:p:=by rw[hg];exact(zaB (w:=w) (g:=g) (row:=none) (G.cK HK.out))):p:=h
theorem zl3 {p:Prop}(h:p:=by first|rfl|(simp;done)|(simp[*];done)):p:=h
theorem zji {p:Prop}(h:p:=by kernel_rfl):p:=h
theorem zd_ {p:Prop}(h:p:=by decide):p:=h
theorem zck {p:Prop}(h:p:=by repeat(first|(with_reducible first|exact ak.out|apply zab.alloc|apply zab.drewN|apply zab.drew|apply zab.zgT)|(with_reducible refine zab.far ?_ (zaa.out (by assumption)) _)|exact ak.out)):p:=h
theorem zc1 {B:Nat}{w w1 w2:World}(H:Below B w w1) (h:Below B w w2:=by repeat(first|(with_reducible first|exact HB.out|apply zbo|apply zbi|apply zas)|(with_reducible refine zbn ?_ (zaa.out (by assumption)))|(with_reducible refine zbn ?_ (zab.ge ak.out))|exact HB.out)):Below B w w2:=h
mutual
def zar.l0:Nat->Int->Int->List Int->Int->Int->List (S59)->Option (Int× (List (S59))×Int)
 |0,_,_,_,_,_,_=>none
 |k+1,x4,x5,aV,bk,aL,a3=>if x5<x4 then(if x4=0 then(none) else((zal.f k aL a3 x5 (Int.tmod (wrap64 (x5+1)) x4)).bind fun cD=>(zar.l0 k x4 (wrap64 (x5+1)) aV bk cD.1 cD.2.1))) else(zar.l1 k x4 aV bk aL a3)
def zar.l1:Nat->Int->List Int->Int->Int->List (S59)->Option (Int× (List (S59))×Int)
 |0,_,_,_,_,_=>none
 |k+1,x6,aV,bk,aL,a3=>if x6<aL then((zah.f k aV bk x6).bind fun cd=>((zal.f k aL a3 x6 cd.1).bind fun bE=>((zah.f k aV cd.2 (wrap64 (x6 - 1))).bind fun bl=>(if x6=0 then(none) else((zal.f k bE.1 bE.2.1 x6 (Int.tmod (wrap64 ((wrap64 (cd.1+1))+bl.1)) x6)).bind fun a8=>(zar.l1 k (wrap64 (x6+1)) aV bl.2 a8.1 a8.2.1)))))) else((zah.f k aV bk 5).bind fun cE=>(zar.l2 k cE.1 aV cE.2 aL a3))
def zar.l2:Nat->Int->List Int->Int->Int->List (S59)->Option (Int× (List (S59))×Int)
 |0,_,_,_,_,_=>none
 |k+1,x8,aV,bk,aL,a3=>if x8>0 then((zah.f k aV bk aL).bind fun cF=>((zah.f k aV cF.2 aL).bind fun br=>((zal.f k aL a3 cF.1 br.1).bind fun a9=>(if a9.2.2=true then(zar.l2 k (wrap64 (x8 - 1)) aV br.2 a9.1 a9.2.1) else(zar.l2 k (wrap64 (x8 - 1)) aV br.2 aL a3))))) else((zah.f k aV bk 8).bind fun ce=>(if ce.1=0 then((zcS.f k aV ce.2).bind fun bu=>(some (bu.1,bu.2.1,bu.2.2))) else(some (aL,a3,ce.2))))
end
def zar.f (k:Nat) (ai:List Int) (bA:Int):Option (Int× (List (S59))×Int):=(zah.f k ai bA 6).bind fun bv=>((zah.f k ai bv.2 (wrap64 ((wrap64 (3+bv.1)) - 2))).bind fun bm=>(zar.l0 k (wrap64 (3+bm.1)) 0 ai bm.2 (wrap64 (3+bv.1)) ([]:List (S59))))
def zar.T6:Bool×List (List Nat×List Nat):=(true,[([],[]),([],[]),([],[]),([2],[2]),([],[]),([3,4],[3,4]),([0,1,5],[0,1,5]),([6],[6]),([7],[7]),([7],[7]),([8,6,0,1,2,3,4,5,6,7,8],[8])])
def zar.B6:List Nat:=[0,0,0,4,0,28,63,127,255,255,511]
theorem zar.zqY:zc0 .any (opsOf Try.f73 6)=zar.T6:=by kernel_rfl
theorem zar.zpB:zby zar.T6.2 zar.B6=true:=by kernel_rfl
def zar.T12:Bool×List (List Nat×List Nat):=(true,[([],[]),([],[]),([],[]),([2],[2]),([],[]),([],[]),([5],[5]),([4,6],[4,6]),([3,7],[3,7]),([],[]),([8,9],[8,9]),([0,1,10,7],[0,1,10]),([11],[11]),([12],[12]),([12],[12]),([13,11,0,1,2,3,4,5,6,7,8,9,10,11,12,13],[13])])
def zar.B12:List Nat:=[0,0,0,4,0,0,32,112,252,0,1020,2047,4095,8191,8191,16383]
theorem zar.zhU:zc0 .any (opsOf Try.f73 12)=zar.T12:=by kernel_rfl
theorem zar.zfT:zby zar.T12.2 zar.B12=true:=by kernel_rfl
def zar.T16:Bool×List (List Nat×List Nat):=(true,[([],[]),([],[]),([],[]),([2],[2]),([1,3],[1,3]),([],[]),([],[]),([6],[6]),([5,7,4],[5,7]),([0,4,8,8],[0,4,8]),([9],[9]),([10],[10]),([10],[10]),([],[]),([13,11,9,0,1,2,3,4,5,6,7,8,9,10,11,13],[11,13]),([12,14,0,1,2,3,4,5,6,7,8,9,10,11,12,13,14],[12])])
def zar.B16:List Nat:=[0,0,0,4,14,0,0,64,254,511,1023,2047,2047,0,12287,32767]
theorem zar.zg_:zc0 .any (opsOf Try.f73 16)=zar.T16:=by kernel_rfl
theorem zar.ze4:zby zar.T16.2 zar.B16=true:=by kernel_rfl
theorem zar.calls (k:Nat) (g:Nat) (ai:List Int) (bA:Int) (r1:Int) (r2:List (S59)) (r3:Int) (w0 w:World) (hI:zab w0 w g ai bA) (hB:Below w0.heap.size w0 w) (h:zar.f k ai bA=some (r1,r2,r3)):
  Calls Try.prog 73 #[.pointer (some ⟨g,0,none⟩)] w fun e w'=>∃dz:Value,e=.returned (.agg #[.int .i64 r1,dz])/\Kd.R k59 59 w' w.heap.size (fun _=>True) dz r2/\zab w0 w' g ai r3/\Below w0.heap.size w0 w'/\zaz w w' g none:=by
 have fR:=Try.underlying31;have ak:=G.m hI;have HK:=G.m (zaz.refl w g none);have HL:=G.m hB.size;clear hI;have bC:=G.m hB.size;have HB:=G.m hB;clear hB;unfold zar.f at h;have H:=h;clear h;obtain⟨⟨bw,bN⟩,A2,H⟩:=G.bi H;(try dsimp only at H);obtain⟨⟨bf,bJ⟩,A3,H⟩:=G.bi H;(try dsimp only at H);have H':=G.m H;clear H
 go_enter Try.func73,Try.ntmps73
 go_wp2_with (first|((with_reducible refine G.h 2 rfl ?_);refine G.be 2 #[.int .i64 0,.slice none 0 0] 31 ?_;intro am hg w4 hbox hb;replace HB:=G.m (zao (zc1 HB.out) hb);have ac:=G.m (hbox);have e5:=G.m (zgC:w.heap.size<=am);have e6:=G.m (Nat.le_trans bC.out (zgC:w.heap.size<=am):w0.heap.size<=am);replace HK:=G.kb HK hb;have b6:=G.m ((by rw[hg];exact Nat.ne_of_lt (zab.lt (show zab w0 _ g ai bA from zck)):g≠am));have ax:=G.m ((by rw[hg];exact Nat.ne_of_gt (zab.lt (show zab w0 _ g ai bA from zck)):am≠g));replace ak:=G.m (zab.below (zck) hb);clear hb hbox hg)|((with_reducible refine G.f 104 rfl ?_);refine G.gL 12 Try.func104 #[.pointer (some ⟨g,0,none⟩),.int .i64 6] ?_;(with_reducible refine(zah.calls k g ai bA 6 bw bN w0 _ ?side1 ?side2 A2.out).mono ?_);(case side1=>exact zck);(case side2=>exact zc1 HB.out);rintro e w5 ⟨rfl,hi,hb,hk⟩;refine⟨_,rfl,?_⟩;replace ac:=G.kk ac ax hk;replace HK:=G.kt HK hk;replace HB:=G.m (hb);replace ak:=G.m (hi);(try clear hb hk hi))|((with_reducible refine G.h 3 rfl ?_);refine G.be 3 #[.int .i64 0,.slice none 0 0] 31 ?_;intro ah hg w6 hbox hb;have n0:=G.m (zab.below (zck) hb);have n1:=G.bb ac hb;have n2:=G.kb HK hb;have n3:=G.m (zao (zc1 HB.out) hb);have n4:=G.m (hbox);have n5:=G.m (zgC:w.heap.size<=ah);have n6:=G.m (Nat.le_trans bC.out (zgC:w.heap.size<=ah):w0.heap.size<=ah);have n7:=G.m (zlh:am≠ah);have n8:=G.m (zkS:ah≠am);have n9:=G.m ((by rw[hg];exact Nat.ne_of_lt (zab.lt (show zab w0 _ g ai bN from zck)):g≠ah));have a7:=G.m ((by rw[hg];exact Nat.ne_of_gt (zab.lt (show zab w0 _ g ai bN from zck)):ah≠g));clear ak ac HK HB;revert n0 n1 n2 n3 n4 n5 n6 n7 n8 n9 a7;intro ak ac HK HB ab e7 e8 aA aH bq av;clear hb hbox hg;have fS:=aH.out;have fT:=aA.out;have fU:=av.out;have fV:=bq.out;have⟨cX,cY,cZ,c_⟩:=G.d2 (w:=w6) ab)|((with_reducible refine G.f 104 rfl ?_);refine G.gL 19 Try.func104 #[.pointer (some ⟨g,0,none⟩),.int .i64 (wrap64 ((wrap64 (3+bw)) - 2))] ?_;(with_reducible refine(zah.calls k g ai bN (wrap64 ((wrap64 (3+bw)) - 2)) bf bJ w0 _ ?side1 ?side2 A3.out).mono ?_);(case side1=>exact zck);(case side2=>exact zc1 HB.out);rintro e f_ ⟨rfl,hi,hb,hk⟩;refine⟨_,rfl,?_⟩;replace ac:=G.m (zaz.blk hk (g':=am) (o:=.cells #[.int .i64 0,.slice none 0 0] 31 (0,0)) (zoR) ax.out (by simp));replace ab:=G.m (zaz.blk hk (g':=ah) (o:=.cells #[.int .i64 (wrap64 (3+bw)),.slice none 0 0] 31 (0,0)) (G.bw ab.out) av.out (by simp));replace HK:=G.kt HK hk;replace HB:=G.m (hb);replace ak:=G.m (hi);(try clear hb hk hi)))
 go_loopg [5] k (fun kq v5 w'=>∃ (bj:Int) (aM:Int) (aI:List (S59)) (aJ:Value),v5=.int .i64 bj/\zaa (zar.l0 kq (wrap64 (3+bf)) bj ai bJ aM aI=some (r1,r2,r3))/\zaa (kq<=k)/\zaa (Kd.R k59 59 w' w.heap.size (fun _=>True) aJ aI)/\zaa (w'.heap[am]? =some (.cells #[.int .i64 0,(.slice none 0 0)] 31 (0,0)))/\zaa (w'.heap[ah]? =some (.cells #[.int .i64 aM,aJ] 31 (0,0)))/\zaa (zab w0 w' g ai bJ)/\zaa (zaz w w' g none)/\zaa (Below w0.heap.size w0 w'))
 case atStart=>exact⟨(0),(wrap64 (3+bw)),(([]:List (S59))),(.slice none 0 0),(zl3),H',⟨Nat.le_refl _⟩,⟨by first|exact zeg _ _ _ _ _|exact zeR _ _ _ _ _|exact zeM _ _ _ _ _|exact zeN _ _ _ _ _|exact zeV _ _ _ _ _⟩,⟨G.cb ac.out⟩,⟨G.cb ab.out⟩,⟨zck⟩,⟨G.cK HK.out⟩,⟨zc1 HB.out⟩⟩
 case round=>
  clear H';(try clear cX cY cZ c_);obtain⟨bj,aM,aI,aJ,rfl,HA,bL,aa,ac,ab,ak,HK,HB⟩:=hrel;cases gk with
  |zero=>exact absurd HA.out (by simp[zar.l0])
  |succ k1=>
   have H:=HA.out;clear HA;simp only[zar.l0]at H
   by_cases b7:bj<(wrap64 (3+bf))
   ·rw[if_pos b7]at H;have cG:=decide_eq_true b7;clear b7
    obtain⟨cH,H⟩:=G.np H;have e9:=beq_eq_false_iff_ne.mpr cH;have fa:=bne_iff_ne.mpr cH;obtain⟨⟨bO,bP,dG⟩,eR,H⟩:=G.bi H;(try dsimp only at H);have H':=G.m H;clear H;try go_wp2
    replace aa:=G.m (zat aa.out);replace ac:=G.m (zan ac.out);replace ab:=G.m (zan ab.out);replace ak:=G.m (zab.drew ak.out);replace HK:=G.m (zb3 HK.out);replace HB:=G.m (zas HB.out);obtain⟨bQ,bR,da⟩:=zau aa.out;(first|subst da|(injection da with bn bF bo;have bG:=bn.symm;have bH:=bo.symm;clear bn bF bo;subst bG;subst bH));refine G.st 11 (S:=fun w'=>w'.cell? ⟨ah,0,none⟩=some (.int .i64 aM)/\w'.cell? ⟨ah,1,none⟩=some (.slice bQ aI.length bR)) [10] ⟨G.z ab 0,G.z ab 1⟩ zar.zqY zar.zpB (fun hHeld HT_ HW_=>?_);generalize wr.drew=ga at aa ac ab ak HK HB hHeld⊢;refine G.pu 1 28 2 ?_;refine G.pu 2 29 6 ?_;refine G.pu 3 30 14 ?_;refine G.pu 4 31 30 ?_;refine G.pu 5 32 62 ?_;refine G.ta2 0 27 63 ?_;refine G.on 6 33 127 (fun K hK=>?_);refine G.gs Try.func105 #[.agg #[.int .i64 aM,.slice bQ aI.length bR],.int .i64 bj,.int .i64 (Int.tmod (wrap64 (bj+1)) (wrap64 (3+bf)))] ?_;with_reducible refine(zal.calls k1 aM _ _ aI bj (Int.tmod (wrap64 (bj+1)) (wrap64 (3+bf))) bO bP dG _ ?side1 ?side2 eR.out).mono ?_
    (case side1=>exact G.cC (zaf aa.out).2.2);(case side2=>exact(zaf aa.out).2.1);rintro e dA ⟨fW,rfl,ay,hb⟩;refine⟨_,rfl,?_⟩;have cI:=G.m (zaI (zbq ay (zb0 (G.cR aa.out))) (zaB (w:=w) (g:=g) (row:=none) (G.cK HK.out)));replace aa:=G.re aa ay hb;replace ac:=G.bb ac hb;replace ab:=G.bb ab hb;replace HK:=G.kb HK hb;replace HB:=G.m (zao (zc1 HB.out) hb);replace ak:=G.m (zab.below (zck) hb);(try clear hb cl hk hi ay);obtain⟨db,dc,dd⟩:=zau cI.out;(first|subst dd|(injection dd with bn bF bo;have bG:=bn.symm;have bH:=bo.symm;clear bn bF bo;subst bG;subst bH));refine hK.out _ _ ⟨G.z ab 0,G.z ab 1⟩ (fun hHeld=>?_);clear hK K;refine G.no 33 ?_;refine G.pu 7 26 255 ?_;refine G.pu 8 34 511 ?_;refine G.pu 9 35 1023 ?_;refine G.la 10 (none) (G.fl 11 2047) (fun K hK=>?_);have fX:dA.cell? ⟨ah,0,none⟩=some (.int .i64 aM):=G.z ab 0;have fb:=zaT ab.out 0;have dR:=aA.out;have dS:=aH.out;have fY:dA.cell? ⟨ah,1,none⟩=some (.slice bQ aI.length bR):=G.z ab 1;have fc:=zaT ab.out 1;have dT:=aA.out;have dU:=aH.out;refine zdf (w1:= ?_) (by rfl) rfl ?_ ?_;rotate_left
    ·go_simp
     rfl
    refine hK.out _ _ ?_;clear hK K;refine zbO (zbb HT_.out (zji)) ?_;try go_wp2
    go_roundg k1
    case measure=>have:=bL.out;omega
    case rel=>exact⟨(wrap64 (bj+1)),(bO),(bP),(.slice db bP.length dc),(zl3),H',⟨by have:=bL.out;omega⟩,⟨by(with_reducible repeat(first|apply zav|apply zaw|apply zat));exact zam (zaP (p:=⟨ah,1,none⟩) (zaP (p:=⟨ah,0,none⟩) (zaH cI.out ab.out (zd_)) (fun _ hk=>hk.2) (.int .i64 bO)) (fun _ hk=>hk.2) (.slice db bP.length dc)) (fun _ hk=>trivial)⟩,⟨zoR⟩,⟨G.bw ab.out⟩,⟨zck⟩,⟨G.cK HK.out⟩,⟨zc1 HB.out⟩⟩
   ·rw[if_neg b7]at H;have cG:=decide_eq_false b7;clear b7;have H':=G.m H;clear H
    go_wp2
    go_loopg [6] k1 (fun kq v6 w'=>∃ (aw:Int) (bh:Int) (aD:Int) (aC:List (S59)) (aJ:Value),v6=.int .i64 aw/\zaa (zar.l1 kq aw ai bh aD aC=some (r1,r2,r3))/\zaa (kq<=k1)/\zaa (Kd.R k59 59 w' w.heap.size (fun _=>True) aJ aC)/\zaa (w'.heap[am]? =some (.cells #[.int .i64 0,(.slice none 0 0)] 31 (0,0)))/\zaa (w'.heap[ah]? =some (.cells #[.int .i64 aD,aJ] 31 (0,0)))/\zaa (zab w0 w' g ai bh)/\zaa (zaz w w' g none)/\zaa (Below w0.heap.size w0 w'))
    case atStart=>exact⟨((wrap64 (3+bf))),(bJ),(aM),(aI),(aJ),(zl3),H',⟨Nat.le_refl _⟩,⟨G.cR aa.out⟩,⟨G.cb ac.out⟩,⟨G.cb ab.out⟩,⟨zck⟩,⟨G.cK HK.out⟩,⟨zc1 HB.out⟩⟩
    case round=>
     clear H';(try clear cG);obtain⟨aw,bh,aD,aC,aJ,rfl,HA,b8,aa,ac,ab,ak,HK,HB⟩:=hrel;cases gk with
     |zero=>exact absurd HA.out (by simp[zar.l1])
     |succ k2=>
      have H:=HA.out;clear HA;simp only[zar.l1]at H
      by_cases b9:aw<aD
      ·rw[if_pos b9]at H;have cJ:=decide_eq_true b9;clear b9;obtain⟨⟨bx,bD⟩,eS,H⟩:=G.bi H;(try dsimp only at H);obtain⟨⟨aU,aK,dH⟩,eT,H⟩:=G.bi H;(try dsimp only at H);obtain⟨⟨cf,cg⟩,eU,H⟩:=G.bi H;(try dsimp only at H)
       obtain⟨cL,H⟩:=G.np H;have fd:=beq_eq_false_iff_ne.mpr cL;have fe:=bne_iff_ne.mpr cL;obtain⟨⟨bS,bT,dI⟩,eV,H⟩:=G.bi H;(try dsimp only at H);have H':=G.m H;clear H;have ff:=aH.out;have fg:=aA.out;have fh:=av.out;have fi:=bq.out;have⟨dV,dW,dX,dY⟩:=G.d2 (w:=wr) ab;try go_wp2_with (first|((with_reducible refine G.f 104 rfl ?_);refine G.gL 45 Try.func104 #[.pointer (some ⟨g,0,none⟩),.int .i64 aw] ?_;(with_reducible refine(zah.calls k2 g ai bh aw bx bD w0 _ ?side1 ?side2 eS.out).mono ?_);(case side1=>exact zck);(case side2=>exact zc1 HB.out);rintro e eW ⟨rfl,hi,hb,hk⟩;refine⟨_,rfl,?_⟩;replace aa:=G.m (zam (zbu (zab.apart (show zab w0 _ g ai bh from zck) (G.cR aa.out) (zd_)) hk (fun _ h=>h.2)) (fun _ h=>h.1));replace ac:=G.kk ac ax hk;replace ab:=G.kk ab av hk;replace HK:=G.kt HK hk;replace HB:=G.m (hb);replace ak:=G.m (hi);(try clear hb hk hi);have⟨dZ,d7,d8,d9⟩:=G.d2 (w:=eW) ab;obtain⟨bU,bV,dJ⟩:=zau aa.out;subst dJ)|((with_reducible refine G.f 105 rfl ?_);refine G.gL 50 Try.func105 #[.agg #[.int .i64 aD,.slice bU aC.length bV],.int .i64 aw,.int .i64 bx] ?_;(with_reducible refine(zal.calls k2 aD _ _ aC aw bx aU aK dH _ ?side1 ?side2 eT.out).mono ?_);(case side1=>exact G.cC (zaf aa.out).2.2);(case side2=>exact(zaf aa.out).2.1);rintro e bI ⟨fZ,rfl,ay,hb⟩;refine⟨_,rfl,?_⟩;have aN:=G.m (zaI (zbq ay (zb0 (G.cR aa.out))) (zaB (w:=w) (g:=g) (row:=none) (G.cK HK.out)));replace aa:=G.re aa ay hb;replace ac:=G.bb ac hb;replace ab:=G.bb ab hb;replace HK:=G.kb HK hb;replace HB:=G.m (zao (zc1 HB.out) hb);replace ak:=G.m (zab.below (zck) hb);(try clear hb ay);have⟨d_,ea,eb,ec⟩:=G.d2 (w:=bI) ab;obtain⟨aX,aY,dK⟩:=zau aN.out;subst dK))
       have n0:zaa (Kd.R k59 59 ((bI.setCell ⟨ah,0,none⟩ (.int .i64 aU)).setCell ⟨ah,1,none⟩ (.slice aX aK.length aY)) w.heap.size (fun k_=>some k_≠(.slice aX aK.length aY:Value).ownBlock) (.slice bU aC.length bV) aC):=⟨by(with_reducible repeat(first|apply zav|apply zaw|apply zat));exact zam (zaP (p:=⟨ah,1,none⟩) (zaP (p:=⟨ah,0,none⟩) (zaH aa.out ab.out (zd_)) (fun _ hk=>hk.2) (.int .i64 aU)) (fun _ hk=>hk.2) (.slice aX aK.length aY)) (fun _ hk=>hk.1.2)⟩;have n1:zaa (Kd.R k59 59 ((bI.setCell ⟨ah,0,none⟩ (.int .i64 aU)).setCell ⟨ah,1,none⟩ (.slice aX aK.length aY)) w.heap.size (fun k_=>some k_≠(.slice bU aC.length bV:Value).ownBlock) (.slice aX aK.length aY) aK):=⟨by(with_reducible repeat(first|apply zav|apply zaw|apply zat));exact zam (zaP (p:=⟨ah,1,none⟩) (zaP (p:=⟨ah,0,none⟩) (zaH aN.out ab.out (zd_)) (fun _ hk=>hk.2) (.int .i64 aU)) (fun _ hk=>hk.2) (.slice aX aK.length aY)) (fun _ hk=>hk.1.2)⟩;have n2:zaa (((bI.setCell ⟨ah,0,none⟩ (.int .i64 aU)).setCell ⟨ah,1,none⟩ (.slice aX aK.length aY)).heap[am]? =some (.cells #[.int .i64 0,.slice none 0 0] 31 (0,0))):=⟨zoR⟩;have n3:zaa (((bI.setCell ⟨ah,0,none⟩ (.int .i64 aU)).setCell ⟨ah,1,none⟩ (.slice aX aK.length aY)).heap[ah]? =some (.cells #[.int .i64 aU,.slice aX aK.length aY] 31 (0,0))):=⟨G.bw ab.out⟩;have n4:zaa (zab w0 ((bI.setCell ⟨ah,0,none⟩ (.int .i64 aU)).setCell ⟨ah,1,none⟩ (.slice aX aK.length aY)) g ai bD):=⟨zck⟩;have n5:zaa (zaz w ((bI.setCell ⟨ah,0,none⟩ (.int .i64 aU)).setCell ⟨ah,1,none⟩ (.slice aX aK.length aY)) g none):=⟨G.cK HK.out⟩;have n6:zaa (Below w0.heap.size w0 ((bI.setCell ⟨ah,0,none⟩ (.int .i64 aU)).setCell ⟨ah,1,none⟩ (.slice aX aK.length aY))):=⟨zc1 HB.out⟩;(try clear aa aN ac ab ak HK HB);generalize((bI.setCell ⟨ah,0,none⟩ (.int .i64 aU)).setCell ⟨ah,1,none⟩ (.slice aX aK.length aY))=eX at n0 n1 n2 n3 n4 n5 n6⊢;revert n0 n1 n2 n3 n4 n5 n6;intro aa aN ac ab ak HK HB;replace aa:=G.m (zat aa.out);replace aN:=G.m (zat aN.out);replace ac:=G.m (zan ac.out);replace ab:=G.m (zan ab.out);replace ak:=G.m (zab.drew ak.out);replace HK:=G.m (zb3 HK.out);replace HB:=G.m (zas HB.out);refine G.st 16 (S:=fun w'=>w'.cell? ⟨ah,0,none⟩=some (.int .i64 aU)/\w'.cell? ⟨ah,1,none⟩=some (.slice aX aK.length aY)) [15] ⟨G.z ab 0,G.z ab 1⟩ zar.zhU zar.zfT (fun hHeld HT_ HW_=>?_);generalize eX.drew=gb at aa aN ac ab ak HK HB hHeld⊢;refine G.pu 1 55 2 ?_;refine G.pu 2 56 6 ?_;refine G.pu 3 57 14 ?_;refine G.pu 4 58 30 ?_;refine G.pu 5 59 62 ?_;refine G.pu 6 60 126 ?_;refine G.pu 9 63 638 ?_;refine G.ta2 0 54 639 ?_;refine G.on 7 61 767 (fun K hK=>?_);refine G.gs Try.func104 #[.pointer (some ⟨g,0,none⟩),.int .i64 (wrap64 (aw - 1))] ?_;with_reducible refine(zah.calls k2 g ai bD (wrap64 (aw - 1)) cf cg w0 _ ?side1 ?side2 eU.out).mono ?_
       (case side1=>exact zck);(case side2=>exact zc1 HB.out);rintro e gc ⟨rfl,hi,hb,hk⟩;refine⟨_,rfl,?_⟩;replace aa:=G.m (zam (zbu (zab.apart (show zab w0 _ g ai bD from zck) (G.cR aa.out) (zd_)) hk (fun _ h=>h.2)) (fun _ h=>h.1));replace ac:=G.kk ac ax hk;replace ab:=G.kk ab av hk;replace aN:=G.m (zam (zbu (zab.apart (show zab w0 _ g ai bD from zck) (G.cR aN.out) (zd_)) hk (fun _ h=>h.2)) (fun _ h=>h.1));replace HK:=G.kt HK hk;replace HB:=G.m (hb);replace ak:=G.m (hi);(try clear hb cl hk hi);refine hK.out _ _ ⟨G.z ab 0,G.z ab 1⟩ (fun hHeld=>?_);clear hK K;refine G.no 61 ?_;refine G.pu 8 62 1023 ?_;refine G.pu 10 64 2047 ?_;refine G.on 11 65 4095 (fun K hK=>?_);refine G.gs Try.func105 #[.agg #[.int .i64 aU,.slice aX aK.length aY],.int .i64 aw,.int .i64 (Int.tmod (wrap64 ((wrap64 (bx+1))+cf)) aw)] ?_;with_reducible refine(zal.calls k2 aU _ _ aK aw (Int.tmod (wrap64 ((wrap64 (bx+1))+cf)) aw) bS bT dI _ ?side1 ?side2 eV.out).mono ?_
       (case side1=>exact G.cC (zaf aN.out).2.2);(case side2=>exact(zaf aN.out).2.1);rintro e dB ⟨f2,rfl,ay,hb⟩;refine⟨_,rfl,?_⟩;have cM:=G.m (zaI (zbq (zbq ay (zb0 (G.cR aa.out))) (zb0 (G.cR aN.out))) (zaB (w:=w) (g:=g) (row:=none) (G.cK HK.out)));replace aa:=G.re aa ay hb;replace aN:=G.re aN ay hb;replace ac:=G.bb ac hb;replace ab:=G.bb ab hb;replace HK:=G.kb HK hb;replace HB:=G.m (zao (zc1 HB.out) hb);replace ak:=G.m (zab.below (zck) hb);(try clear hb ay);obtain⟨de,df,dg⟩:=zau cM.out;(first|subst dg|(injection dg with bn bF bo;have bG:=bn.symm;have bH:=bo.symm;clear bn bF bo;subst bG;subst bH));refine hK.out _ _ ⟨G.z ab 0,G.z ab 1⟩ (fun hHeld=>?_);clear hK K;refine G.no 65 ?_;refine G.pu 12 53 8191 ?_;refine G.pu 13 66 16383 ?_;refine G.pu 14 67 32767 ?_;refine G.la 15 (none) (G.fl 16 65535) (fun K hK=>?_);have f3:dB.cell? ⟨ah,0,none⟩=some (.int .i64 aU):=G.z ab 0;have fj:=zaT ab.out 0;have ed:=aA.out;have ee:=aH.out;have f4:dB.cell? ⟨ah,1,none⟩=some (.slice aX aK.length aY):=G.z ab 1;have fk:=zaT ab.out 1;have ef:=aA.out;have eg:=aH.out;refine zdf (w1:= ?_) (by rfl) rfl ?_ ?_;rotate_left
       ·go_simp
        rfl
       refine hK.out _ _ ?_;clear hK K;refine zbO (zbb HT_.out (zji)) ?_;try go_wp2
       go_roundg k2
       case measure=>have:=bL.out;have:=b8.out;omega
       case rel=>exact⟨(wrap64 (aw+1)),(cg),(bS),(bT),(.slice de bT.length df),(zl3),H',⟨by have:=bL.out;have:=b8.out;omega⟩,⟨by(with_reducible repeat(first|apply zav|apply zaw|apply zat));exact zam (zaP (p:=⟨ah,1,none⟩) (zaP (p:=⟨ah,0,none⟩) (zaH cM.out ab.out (zd_)) (fun _ hk=>hk.2) (.int .i64 bS)) (fun _ hk=>hk.2) (.slice de bT.length df)) (fun _ hk=>trivial)⟩,⟨zoR⟩,⟨G.bw ab.out⟩,⟨zck⟩,⟨G.cK HK.out⟩,⟨zc1 HB.out⟩⟩
      ·rw[if_neg b9]at H;have cJ:=decide_eq_false b9;clear b9;obtain⟨⟨cx,cy⟩,eY,H⟩:=G.bi H;(try dsimp only at H);have H':=G.m H;clear H;have fm:=aH.out;have fo:=aA.out;have fp:=av.out;have fq:=bq.out;have⟨cS,cT,cU,cW⟩:=G.d2 (w:=wr) ab
       go_wp2_with (first|((with_reducible refine G.f 104 rfl ?_);refine G.gL 69 Try.func104 #[.pointer (some ⟨g,0,none⟩),.int .i64 5] ?_;(with_reducible refine(zah.calls k2 g ai bh 5 cx cy w0 _ ?side1 ?side2 eY.out).mono ?_);(case side1=>exact zck);(case side2=>exact zc1 HB.out);rintro e gf ⟨rfl,hi,hb,hk⟩;refine⟨_,rfl,?_⟩;replace aa:=G.m (zam (zbu (zab.apart (show zab w0 _ g ai bh from zck) (G.cR aa.out) (zd_)) hk (fun _ h=>h.2)) (fun _ h=>h.1));replace ac:=G.kk ac ax hk;replace ab:=G.kk ab av hk;replace HK:=G.kt HK hk;replace HB:=G.m (hb);replace ak:=G.m (hi);(try clear hb hk hi)))
       go_loopg [8] k2 (fun kq v8 w'=>∃ (a6:Int) (az:Int) (af:Int) (ag:List (S59)) (aJ:Value),v8=.int .i64 a6/\zaa (zar.l2 kq a6 ai az af ag=some (r1,r2,r3))/\zaa (kq<=k2)/\zaa (Kd.R k59 59 w' w.heap.size (fun _=>True) aJ ag)/\zaa (w'.heap[am]? =some (.cells #[.int .i64 0,(.slice none 0 0)] 31 (0,0)))/\zaa (w'.heap[ah]? =some (.cells #[.int .i64 af,aJ] 31 (0,0)))/\zaa (zab w0 w' g ai az)/\zaa (zaz w w' g none)/\zaa (Below w0.heap.size w0 w'))
       case atStart=>exact⟨(cx),(cy),(aD),(aC),(aJ),(zl3),H',⟨Nat.le_refl _⟩,⟨G.cR aa.out⟩,⟨G.cb ac.out⟩,⟨G.cb ab.out⟩,⟨zck⟩,⟨G.cK HK.out⟩,⟨zc1 HB.out⟩⟩
       case round=>
        clear H';(try clear cJ cS cT cU cW);obtain⟨a6,az,af,ag,aJ,rfl,HA,cN,aa,ac,ab,ak,HK,HB⟩:=hrel;cases gk with
        |zero=>exact absurd HA.out (by simp[zar.l2])
        |succ k3=>
         have H:=HA.out;clear HA;simp only[zar.l2]at H
         by_cases b_:a6>0
         ·rw[if_pos b_]at H;have dw:=decide_eq_true b_;clear b_;obtain⟨⟨aG,aQ⟩,cO,H⟩:=G.bi H;(try dsimp only at H);obtain⟨⟨aE,aT⟩,ca,H⟩:=G.bi H;(try dsimp only at H);obtain⟨⟨aR,aW,dh⟩,bM,H⟩:=G.bi H;(try dsimp only at H)
          rcases G.bc H with⟨h_,H_⟩|⟨h_,H_⟩<;> (subst h_;clear H;have H:=H_;clear H_)
          ·have H':=G.m H;clear H;obtain⟨aZ,a2,dL⟩:=zau aa.out;subst dL;try go_wp2
           replace aa:=G.m (zat aa.out);replace ac:=G.m (zan ac.out);replace ab:=G.m (zan ab.out);replace ak:=G.m (zab.drew ak.out);replace HK:=G.m (zb3 HK.out);replace HB:=G.m (zas HB.out);refine G.st 16 (S:=fun w'=>w'.cell? ⟨ah,0,none⟩=some (.int .i64 af)/\w'.cell? ⟨ah,1,none⟩=some (.slice aZ ag.length a2)) [] ⟨G.z ab 0,G.z ab 1⟩ zar.zg_ zar.ze4 (fun hHeld HT_ HW_=>?_);generalize wr.drew=gg at aa ac ab ak HK HB hHeld⊢;refine G.pu 1 76 2 ?_;refine G.pu 2 77 6 ?_;refine G.pu 5 80 38 ?_;refine G.pu 6 81 102 ?_;refine G.ta2 0 75 103 ?_;refine G.ta2 3 78 111 ?_;refine G.ta2 7 82 239 ?_;refine zdX (σ:=Value×Nat) 2 (G.fl 16 16383) (fun s_=>[(79,.int .i64 aG),(83,.int .i64 aE),(84,.tuple #[.agg #[.int .i64 aR,s_.1],.bool true]),(9,.pointer (some ⟨s_.2,0,none⟩)),(74,.tuple #[.agg #[.int .i64 aR,s_.1],.bool true]),(85,.agg #[.int .i64 aR,s_.1]),(86,.bool true)]) (fun s_ w'=>(w'.cell? ⟨ah,0,none⟩=some (.int .i64 af)/\w'.cell? ⟨ah,1,none⟩=some (.slice aZ ag.length a2))/\(Kd.R k59 59 w' w.heap.size (fun k_=>some k_≠(.slice aZ ag.length a2:Value).ownBlock) s_.1 aW)/\(Kd.R k59 59 w' w.heap.size (fun k_=>some k_≠(s_.1:Value).ownBlock) (.slice aZ ag.length a2) ag)/\(w'.heap[am]? =some (.cells #[.int .i64 0,.slice none 0 0] 31 (0,0)))/\(w'.heap[ah]? =some (.cells #[.int .i64 af,.slice aZ ag.length a2] 31 (0,0)))/\(w'.heap[s_.2]? =some (.cells #[.int .i64 0,.slice none 0 0] 31 (0,0)))/\(w.heap.size<=s_.2)/\(w0.heap.size<=s_.2)/\(g≠s_.2)/\(s_.2≠g)/\(am≠s_.2)/\(s_.2≠am)/\(ah≠s_.2)/\(s_.2≠ah)/\(zab w0 w' g ai aT)/\(zaz w w' g none)/\(Below w0.heap.size w0 w')) ?_ ?_;rotate_left
           ·intro hCont;refine zgk (i:=4) (j:=13) (Ni:=some 79) (Nj:=some 9) (G.fl 16 255) (G.fl 16 8431) rfl rfl rfl rfl (zcM HT_.out (zji)) (zd_) (zd_) (fun K hK=>?_) (fun K hK=>?_)
            ·skip;refine G.gs Try.func104 #[.pointer (some ⟨g,0,none⟩),.int .i64 af] ?_;with_reducible refine(zah.calls k3 g ai az af aG aQ w0 _ ?side1 ?side2 cO.out).mono ?_
             (case side1=>exact zck);(case side2=>exact zc1 HB.out);rintro e eZ ⟨rfl,hi,hb,hk⟩;refine⟨_,rfl,?_⟩;replace aa:=G.m (zam (zbu (zab.apart (show zab w0 _ g ai az from zck) (G.cR aa.out) (zd_)) hk (fun _ h=>h.2)) (fun _ h=>h.1));replace ac:=G.kk ac ax hk;replace ab:=G.kk ab av hk;replace HK:=G.kt HK hk;replace HB:=G.m (hb);replace ak:=G.m (hi);(try clear hb cl hk hi);refine hK.out _ _ ⟨G.z ab 0,G.z ab 1⟩ (fun hHeld=>?_);clear hK K;refine G.no 79 ?_;refine zgk (i:=8) (j:=13) (Ni:=some 83) (Nj:=some 9) (G.fl 16 511) (G.fl 16 8447) rfl rfl rfl rfl (zcM HT_.out (zji)) (zd_) (zd_) (fun K hK=>?_) (fun K hK=>?_)
             ·skip;refine G.gs Try.func104 #[.pointer (some ⟨g,0,none⟩),.int .i64 af] ?_;with_reducible refine(zah.calls k3 g ai aQ af aE aT w0 _ ?side1 ?side2 ca.out).mono ?_
              (case side1=>exact zck);(case side2=>exact zc1 HB.out);rintro e dC ⟨rfl,hi,hb,hk⟩;refine⟨_,rfl,?_⟩;replace aa:=G.m (zam (zbu (zab.apart (show zab w0 _ g ai aQ from zck) (G.cR aa.out) (zd_)) hk (fun _ h=>h.2)) (fun _ h=>h.1));replace ac:=G.kk ac ax hk;replace ab:=G.kk ab av hk;replace HK:=G.kt HK hk;replace HB:=G.m (hb);replace ak:=G.m (hi);(try clear hb hk hi);refine hK.out _ _ ⟨G.z ab 0,G.z ab 1⟩ (fun hHeld=>?_);clear hK K;refine G.no 83 ?_;refine zgk (i:=9) (j:=13) (Ni:=some 84) (Nj:=some 9) (G.fl 16 1023) (G.fl 16 8703) rfl rfl rfl rfl (zcM HT_.out (zji)) (zd_) (zd_) (fun K hK=>?_) (fun K hK=>?_)
              ·skip;refine G.gs Try.func105 #[.agg #[.int .i64 af,.slice aZ ag.length a2],.int .i64 aG,.int .i64 aE] ?_;with_reducible refine(zal.calls k3 af _ _ ag aG aE aR aW true _ ?side1 ?side2 bM.out).mono ?_
               (case side1=>exact G.cC (zaf aa.out).2.2);(case side2=>exact(zaf aa.out).2.1);rintro e di ⟨aS,rfl,ay,hb⟩;refine⟨_,rfl,?_⟩;have aF:=G.m (zaI (zbq ay (zb0 (G.cR aa.out))) (zaB (w:=w) (g:=g) (row:=none) (G.cK HK.out)));replace aa:=G.re aa ay hb;replace ac:=G.bb ac hb;replace ab:=G.bb ab hb;replace HK:=G.kb HK hb;replace HB:=G.m (zao (zc1 HB.out) hb);replace ak:=G.m (zab.below (zck) hb);(try clear hb ay);refine hK.out _ _ ⟨G.z ab 0,G.z ab 1⟩ (fun hHeld=>?_);clear hK K;refine G.no 84 ?_;refine G.pu 10 74 2047 ?_;refine G.pu 11 85 4095 ?_;refine G.pu 12 86 8191 ?_;refine G.on 13 9 16383 (fun K hK=>?_);refine zbF ?hg (N:=9) ?hd (cs:= #[.int .i64 0,.slice none 0 0]) (t:=31) ?hr ?_;(case hd=>rfl);(case hg=>rfl);(case hr=>first|(go_simp;done)|(go_simp;rfl));intro ae hg dj hbox hb;have n0:=G.rb aa hb;have n1:=G.rb aF hb;have n2:=G.bb ac hb;have n3:=G.bb ab hb;have n4:=G.m (zab.below (zck) hb);have n5:=G.kb HK hb;have n6:=G.m (zao (zc1 HB.out) hb);have n7:=G.m (hbox);have n8:=G.m (zgC:w.heap.size<=ae);have n9:=G.m (Nat.le_trans bC.out (zgC:w.heap.size<=ae):w0.heap.size<=ae);have a7:=G.m (zlh:am≠ae);have a_:=G.m (zkS:ae≠am);have ba:=G.m (zo6:ah≠ae);have bc:=G.m (zo_:ae≠ah);have bd:=G.m (zo1:g≠ae);have bW:=G.m (zoK:ae≠g);clear aa aF ac ab ak HK HB;revert n0 n1 n2 n3 n4 n5 n6 n7 n8 n9 a7 a_ ba bc bd bW;intro aa aF ac ab ak HK HB aj aO aP ao ap al aq aB au;clear hb hbox hg;refine hK.out _ _ ⟨G.z ab 0,G.z ab 1⟩ (fun hHeld=>?_);clear hK K;refine G.no 9 ?_;exact zbV (by simp only[zbI,Act.put,List.setIfInBounds_toArray,List.set_cons_zero,List.set_cons_succ]) (hCont (aS,ae) _ ⟨hHeld,(zls),(zlU),(G.cb ac.out),(G.cb ab.out),(G.cb aj.out),aO.out,aP.out,aB.out,au.out,ao.out,ap.out,al.out,aq.out,(zck),(G.cK HK.out),(zc1 HB.out)⟩)
              ·skip;refine zbF ?hg (N:=9) ?hd (cs:= #[.int .i64 0,.slice none 0 0]) (t:=31) ?hr ?_;(case hd=>rfl);(case hg=>rfl);(case hr=>first|(go_simp;done)|(go_simp;rfl));intro ae hg di hbox hb;have n0:=G.rb aa hb;have n1:=G.bb ac hb;have n2:=G.bb ab hb;have n3:=G.m (zab.below (zck) hb);have n4:=G.kb HK hb;have n5:=G.m (zao (zc1 HB.out) hb);have n6:=G.m (hbox);have n7:=G.m (zgC:w.heap.size<=ae);have n8:=G.m (Nat.le_trans bC.out (zgC:w.heap.size<=ae):w0.heap.size<=ae);have n9:=G.m (zlh:am≠ae);have a7:=G.m (zkS:ae≠am);have a_:=G.m (zo6:ah≠ae);have ba:=G.m (zo_:ae≠ah);have bc:=G.m (zo1:g≠ae);have bd:=G.m (zoK:ae≠g);clear aa ac ab ak HK HB;revert n0 n1 n2 n3 n4 n5 n6 n7 n8 n9 a7 a_ ba bc bd;intro aa ac ab ak HK HB aj aO aP ao ap al aq aB au;clear hb hbox hg;refine hK.out _ _ ⟨G.z ab 0,G.z ab 1⟩ (fun hHeld=>?_);clear hK K;refine G.no 9 ?_;refine G.on 9 84 9215 (fun K hK=>?_);refine G.gs Try.func105 #[.agg #[.int .i64 af,.slice aZ ag.length a2],.int .i64 aG,.int .i64 aE] ?_;with_reducible refine(zal.calls k3 af _ _ ag aG aE aR aW true _ ?side1 ?side2 bM.out).mono ?_
               (case side1=>exact G.cC (zaf aa.out).2.2);(case side2=>exact(zaf aa.out).2.1);rintro e dj ⟨aS,rfl,ay,hb⟩;refine⟨_,rfl,?_⟩;have aF:=G.m (zaI (zbq ay (zb0 (G.cR aa.out))) (zaB (w:=w) (g:=g) (row:=none) (G.cK HK.out)));replace aa:=G.re aa ay hb;replace ac:=G.bb ac hb;replace ab:=G.bb ab hb;replace aj:=G.bb aj hb;replace HK:=G.kb HK hb;replace HB:=G.m (zao (zc1 HB.out) hb);replace ak:=G.m (zab.below (zck) hb);(try clear hb ay);refine hK.out _ _ ⟨G.z ab 0,G.z ab 1⟩ (fun hHeld=>?_);clear hK K;refine G.no 84 ?_;refine G.pu 10 74 10239 ?_;refine G.pu 11 85 12287 ?_;refine G.pu 12 86 16383 ?_;exact zbV (by simp only[zbI,Act.put,List.setIfInBounds_toArray,List.set_cons_zero,List.set_cons_succ]) (hCont (aS,ae) _ ⟨hHeld,(zls),(zlU),(G.cb ac.out),(G.cb ab.out),(G.cb aj.out),aO.out,aP.out,aB.out,au.out,ao.out,ap.out,al.out,aq.out,(zck),(G.cK HK.out),(zc1 HB.out)⟩)
             ·skip;refine zbF ?hg (N:=9) ?hd (cs:= #[.int .i64 0,.slice none 0 0]) (t:=31) ?hr ?_;(case hd=>rfl);(case hg=>rfl);(case hr=>first|(go_simp;done)|(go_simp;rfl));intro ae hg dC hbox hb;have n0:=G.rb aa hb;have n1:=G.bb ac hb;have n2:=G.bb ab hb;have n3:=G.m (zab.below (zck) hb);have n4:=G.kb HK hb;have n5:=G.m (zao (zc1 HB.out) hb);have n6:=G.m (hbox);have n7:=G.m (zgC:w.heap.size<=ae);have n8:=G.m (Nat.le_trans bC.out (zgC:w.heap.size<=ae):w0.heap.size<=ae);have n9:=G.m (zlh:am≠ae);have a7:=G.m (zkS:ae≠am);have a_:=G.m (zo6:ah≠ae);have ba:=G.m (zo_:ae≠ah);have bc:=G.m ((by rw[hg];exact Nat.ne_of_lt (zab.lt (show zab w0 _ g ai aQ from zck)):g≠ae));have bd:=G.m ((by rw[hg];exact Nat.ne_of_gt (zab.lt (show zab w0 _ g ai aQ from zck)):ae≠g));clear aa ac ab ak HK HB;revert n0 n1 n2 n3 n4 n5 n6 n7 n8 n9 a7 a_ ba bc bd;intro aa ac ab ak HK HB aj aO aP ao ap al aq aB au;clear hb hbox hg;refine hK.out _ _ ⟨G.z ab 0,G.z ab 1⟩ (fun hHeld=>?_);clear hK K;refine G.no 9 ?_;refine G.on 8 83 8703 (fun K hK=>?_);refine G.gs Try.func104 #[.pointer (some ⟨g,0,none⟩),.int .i64 af] ?_;with_reducible refine(zah.calls k3 g ai aQ af aE aT w0 _ ?side1 ?side2 ca.out).mono ?_
              (case side1=>exact zck);(case side2=>exact zc1 HB.out);rintro e di ⟨rfl,hi,hb,hk⟩;refine⟨_,rfl,?_⟩;replace aa:=G.m (zam (zbu (zab.apart (show zab w0 _ g ai aQ from zck) (G.cR aa.out) (zd_)) hk (fun _ h=>h.2)) (fun _ h=>h.1));replace ac:=G.kk ac ax hk;replace ab:=G.kk ab av hk;replace aj:=G.kk aj au hk;replace HK:=G.kt HK hk;replace HB:=G.m (hb);replace ak:=G.m (hi);(try clear hb hk hi);refine hK.out _ _ ⟨G.z ab 0,G.z ab 1⟩ (fun hHeld=>?_);clear hK K;refine G.no 83 ?_;refine G.on 9 84 9215 (fun K hK=>?_);refine G.gs Try.func105 #[.agg #[.int .i64 af,.slice aZ ag.length a2],.int .i64 aG,.int .i64 aE] ?_;with_reducible refine(zal.calls k3 af _ _ ag aG aE aR aW true _ ?side1 ?side2 bM.out).mono ?_
              (case side1=>exact G.cC (zaf aa.out).2.2);(case side2=>exact(zaf aa.out).2.1);rintro e dj ⟨aS,rfl,ay,hb⟩;refine⟨_,rfl,?_⟩;have aF:=G.m (zaI (zbq ay (zb0 (G.cR aa.out))) (zaB (w:=w) (g:=g) (row:=none) (G.cK HK.out)));replace aa:=G.re aa ay hb;replace ac:=G.bb ac hb;replace ab:=G.bb ab hb;replace aj:=G.bb aj hb;replace HK:=G.kb HK hb;replace HB:=G.m (zao (zc1 HB.out) hb);replace ak:=G.m (zab.below (zck) hb);(try clear hb ay);refine hK.out _ _ ⟨G.z ab 0,G.z ab 1⟩ (fun hHeld=>?_);clear hK K;refine G.no 84 ?_;refine G.pu 10 74 10239 ?_;refine G.pu 11 85 12287 ?_;refine G.pu 12 86 16383 ?_;exact zbV (by simp only[zbI,Act.put,List.setIfInBounds_toArray,List.set_cons_zero,List.set_cons_succ]) (hCont (aS,ae) _ ⟨hHeld,(zls),(zlU),(G.cb ac.out),(G.cb ab.out),(G.cb aj.out),aO.out,aP.out,aB.out,au.out,ao.out,ap.out,al.out,aq.out,(zck),(G.cK HK.out),(zc1 HB.out)⟩)
            ·skip;refine zbF ?hg (N:=9) ?hd (cs:= #[.int .i64 0,.slice none 0 0]) (t:=31) ?hr ?_;(case hd=>rfl);(case hg=>rfl);(case hr=>first|(go_simp;done)|(go_simp;rfl));intro ae hg eZ hbox hb;have n0:=G.rb aa hb;have n1:=G.bb ac hb;have n2:=G.bb ab hb;have n3:=G.m (zab.below (zck) hb);have n4:=G.kb HK hb;have n5:=G.m (zao (zc1 HB.out) hb);have n6:=G.m (hbox);have n7:=G.m (zgC:w.heap.size<=ae);have n8:=G.m (Nat.le_trans bC.out (zgC:w.heap.size<=ae):w0.heap.size<=ae);have n9:=G.m (zlh:am≠ae);have a7:=G.m (zkS:ae≠am);have a_:=G.m (zo6:ah≠ae);have ba:=G.m (zo_:ae≠ah);have bc:=G.m ((by rw[hg];exact Nat.ne_of_lt (zab.lt (show zab w0 _ g ai az from zck)):g≠ae));have bd:=G.m ((by rw[hg];exact Nat.ne_of_gt (zab.lt (show zab w0 _ g ai az from zck)):ae≠g));clear aa ac ab ak HK HB;revert n0 n1 n2 n3 n4 n5 n6 n7 n8 n9 a7 a_ ba bc bd;intro aa ac ab ak HK HB aj aO aP ao ap al aq aB au;clear hb hbox hg;refine hK.out _ _ ⟨G.z ab 0,G.z ab 1⟩ (fun hHeld=>?_);clear hK K;refine G.no 9 ?_;refine G.on 4 79 8447 (fun K hK=>?_);refine G.gs Try.func104 #[.pointer (some ⟨g,0,none⟩),.int .i64 af] ?_;with_reducible refine(zah.calls k3 g ai az af aG aQ w0 _ ?side1 ?side2 cO.out).mono ?_
             (case side1=>exact zck);(case side2=>exact zc1 HB.out);rintro e dC ⟨rfl,hi,hb,hk⟩;refine⟨_,rfl,?_⟩;replace aa:=G.m (zam (zbu (zab.apart (show zab w0 _ g ai az from zck) (G.cR aa.out) (zd_)) hk (fun _ h=>h.2)) (fun _ h=>h.1));replace ac:=G.kk ac ax hk;replace ab:=G.kk ab av hk;replace aj:=G.kk aj au hk;replace HK:=G.kt HK hk;replace HB:=G.m (hb);replace ak:=G.m (hi);(try clear hb cl hk hi);refine hK.out _ _ ⟨G.z ab 0,G.z ab 1⟩ (fun hHeld=>?_);clear hK K;refine G.no 79 ?_;refine G.on 8 83 8703 (fun K hK=>?_);refine G.gs Try.func104 #[.pointer (some ⟨g,0,none⟩),.int .i64 af] ?_;with_reducible refine(zah.calls k3 g ai aQ af aE aT w0 _ ?side1 ?side2 ca.out).mono ?_
             (case side1=>exact zck);(case side2=>exact zc1 HB.out);rintro e di ⟨rfl,hi,hb,hk⟩;refine⟨_,rfl,?_⟩;replace aa:=G.m (zam (zbu (zab.apart (show zab w0 _ g ai aQ from zck) (G.cR aa.out) (zd_)) hk (fun _ h=>h.2)) (fun _ h=>h.1));replace ac:=G.kk ac ax hk;replace ab:=G.kk ab av hk;replace aj:=G.kk aj au hk;replace HK:=G.kt HK hk;replace HB:=G.m (hb);replace ak:=G.m (hi);(try clear hb hk hi);refine hK.out _ _ ⟨G.z ab 0,G.z ab 1⟩ (fun hHeld=>?_);clear hK K;refine G.no 83 ?_;refine G.on 9 84 9215 (fun K hK=>?_);refine G.gs Try.func105 #[.agg #[.int .i64 af,.slice aZ ag.length a2],.int .i64 aG,.int .i64 aE] ?_;with_reducible refine(zal.calls k3 af _ _ ag aG aE aR aW true _ ?side1 ?side2 bM.out).mono ?_
             (case side1=>exact G.cC (zaf aa.out).2.2);(case side2=>exact(zaf aa.out).2.1);rintro e dj ⟨aS,rfl,ay,hb⟩;refine⟨_,rfl,?_⟩;have aF:=G.m (zaI (zbq ay (zb0 (G.cR aa.out))) (zaB (w:=w) (g:=g) (row:=none) (G.cK HK.out)));replace aa:=G.re aa ay hb;replace ac:=G.bb ac hb;replace ab:=G.bb ab hb;replace aj:=G.bb aj hb;replace HK:=G.kb HK hb;replace HB:=G.m (zao (zc1 HB.out) hb);replace ak:=G.m (zab.below (zck) hb);(try clear hb ay);refine hK.out _ _ ⟨G.z ab 0,G.z ab 1⟩ (fun hHeld=>?_);clear hK K;refine G.no 84 ?_;refine G.pu 10 74 10239 ?_;refine G.pu 11 85 12287 ?_;refine G.pu 12 86 16383 ?_;exact zbV (by simp only[zbI,Act.put,List.setIfInBounds_toArray,List.set_cons_zero,List.set_cons_succ]) (hCont (aS,ae) _ ⟨hHeld,(zls),(zlU),(G.cb ac.out),(G.cb ab.out),(G.cb aj.out),aO.out,aP.out,aB.out,au.out,ao.out,ap.out,al.out,aq.out,(zck),(G.cK HK.out),(zc1 HB.out)⟩)
           rintro⟨aS,ae⟩ bp ⟨hS_,cm,cn,co,cp,cq,cr,ct,cu,cv,cw,bX,bY,bZ,b1,b2,b3⟩;have n0:zaa (Kd.R k59 59 bp w.heap.size (fun k_=>some k_≠(.slice aZ ag.length a2:Value).ownBlock) aS aW):=⟨cm⟩;have n1:zaa (Kd.R k59 59 bp w.heap.size (fun k_=>some k_≠(aS:Value).ownBlock) (.slice aZ ag.length a2) ag):=⟨cn⟩;have n2:zaa (bp.heap[am]? =some (.cells #[.int .i64 0,.slice none 0 0] 31 (0,0))):=⟨co⟩;have n3:zaa (bp.heap[ah]? =some (.cells #[.int .i64 af,.slice aZ ag.length a2] 31 (0,0))):=⟨cp⟩;have n4:zaa (bp.heap[ae]? =some (.cells #[.int .i64 0,.slice none 0 0] 31 (0,0))):=⟨cq⟩;have n5:zaa (w.heap.size<=ae):=⟨cr⟩;have n6:zaa (w0.heap.size<=ae):=⟨ct⟩;have n7:zaa (g≠ae):=⟨cu⟩;have n8:zaa (ae≠g):=⟨cv⟩;have n9:zaa (am≠ae):=⟨cw⟩;have a7:zaa (ae≠am):=⟨bX⟩;have a_:zaa (ah≠ae):=⟨bY⟩;have ba:zaa (ae≠ah):=⟨bZ⟩;have bc:zaa (zab w0 bp g ai aT):=⟨b1⟩;have bd:zaa (zaz w bp g none):=⟨b2⟩;have bW:zaa (Below w0.heap.size w0 bp):=⟨b3⟩;clear aa ac ab ak HK HB;clear cm cn co cp cq cr ct cu cv cw bX bY bZ b1 b2 b3;revert n0 n1 n2 n3 n4 n5 n6 n7 n8 n9 a7 a_ ba bc bd bW;intro aF aa ac ab aj aO aP aB au ao ap al aq ak HK HB;have hHeld:bp.cell? ⟨ah,0,none⟩=some (.int .i64 af)/\bp.cell? ⟨ah,1,none⟩=some (.slice aZ ag.length a2):=hS_;obtain⟨cz,cA,dk⟩:=zau aF.out;(first|subst dk|(injection dk with bn bF bo;have bG:=bn.symm;have bH:=bo.symm;clear bn bF bo;subst bG;subst bH));refine zbV (a':= ?_) ?_ ?_;rotate_left
           ·simp only[zbI,Act.put,List.setIfInBounds_toArray,List.set_cons_zero,List.set_cons_succ];rfl
           refine G.onN 14 (none) (G.fl 16 32767) (fun K hK=>?_);have f5:bp.cell? ⟨ae,0,none⟩=some (.int .i64 0):=G.z aj 0;have ft:=zaT aj.out 0;have eh:=ao.out;have ei:=al.out;have ej:=ap.out;have ek:=aq.out;have f6:bp.cell? ⟨ae,1,none⟩=some (.slice none 0 0):=G.z aj 1;have fu:=zaT aj.out 1;have el:=ao.out;have em:=al.out;have en:=ap.out;have eo:=aq.out;refine zdf (w1:= ?_) (by rfl) rfl ?_ ?_;rotate_left
           ·go_simp
            rfl
           refine hK.out _ _ ⟨((cell_far (p:=⟨ae,_,none⟩) al.out _).trans (((cell_far (p:=⟨ae,_,none⟩) al.out _).trans (hHeld.1)))),((cell_far (p:=⟨ae,_,none⟩) al.out _).trans (((cell_far (p:=⟨ae,_,none⟩) al.out _).trans (hHeld.2))))⟩ (fun hHeld=>?_);clear hK K;refine G.pu 15 10 65535 ?_;refine zbO (zbb HT_.out (zji)) ?_;have fv:=ap.out;have fw:=ao.out;have fx:=aq.out;have fy:=al.out;have fz:=au.out;have fA:=aB.out;have⟨ep,eq,er,es⟩:=G.d2 (w:=bp) aj;have fB:=aH.out;have fC:=aA.out;have fD:=av.out;have fE:=bq.out;have⟨et,eu,ev,ew⟩:=G.d2 (w:=bp) ab;try go_wp2
           go_roundg k3
           case measure=>have:=bL.out;have:=b8.out;have:=cN.out;omega
           case rel=>exact⟨(wrap64 (a6 - 1)),(aT),(aR),(aW),(.slice cz aW.length cA),(zl3),H',⟨by have:=bL.out;have:=b8.out;have:=cN.out;omega⟩,⟨by(with_reducible repeat(first|apply zav|apply zaw|apply zat));exact zam (zaP (p:=⟨ah,1,none⟩) (zaP (p:=⟨ah,0,none⟩) (zaP (p:=⟨ae,1,none⟩) (zaP (p:=⟨ae,0,none⟩) (zaH (zaH aF.out aj.out (zd_)) ab.out (zd_)) (fun _ hk=>hk.1.2) (.int .i64 aR)) (fun _ hk=>hk.1.2) (.slice cz aW.length cA)) (fun _ hk=>hk.2) (.int .i64 aR)) (fun _ hk=>hk.2) (.slice cz aW.length cA)) (fun _ hk=>trivial)⟩,⟨G.bw ac.out⟩,⟨G.bw ab.out⟩,⟨zck⟩,⟨G.cK HK.out⟩,⟨zc1 HB.out⟩⟩
          ·have H':=G.m H;clear H;obtain⟨a4,a5,dM⟩:=zau aa.out;subst dM;try go_wp2
           replace aa:=G.m (zat aa.out);replace ac:=G.m (zan ac.out);replace ab:=G.m (zan ab.out);replace ak:=G.m (zab.drew ak.out);replace HK:=G.m (zb3 HK.out);replace HB:=G.m (zas HB.out);refine G.st 16 (S:=fun w'=>w'.cell? ⟨ah,0,none⟩=some (.int .i64 af)/\w'.cell? ⟨ah,1,none⟩=some (.slice a4 ag.length a5)) [] ⟨G.z ab 0,G.z ab 1⟩ zar.zg_ zar.ze4 (fun hHeld HT_ HW_=>?_);generalize wr.drew=gh at aa ac ab ak HK HB hHeld⊢;refine G.pu 1 76 2 ?_;refine G.pu 2 77 6 ?_;refine G.pu 5 80 38 ?_;refine G.pu 6 81 102 ?_;refine G.ta2 0 75 103 ?_;refine G.ta2 3 78 111 ?_;refine G.ta2 7 82 239 ?_;refine zdX (σ:=Value×Nat) 2 (G.fl 16 16383) (fun s_=>[(79,.int .i64 aG),(83,.int .i64 aE),(84,.tuple #[.agg #[.int .i64 aR,s_.1],.bool false]),(9,.pointer (some ⟨s_.2,0,none⟩)),(74,.tuple #[.agg #[.int .i64 aR,s_.1],.bool false]),(85,.agg #[.int .i64 aR,s_.1]),(86,.bool false)]) (fun s_ w'=>(w'.cell? ⟨ah,0,none⟩=some (.int .i64 af)/\w'.cell? ⟨ah,1,none⟩=some (.slice a4 ag.length a5))/\(Kd.R k59 59 w' w.heap.size (fun k_=>some k_≠(.slice a4 ag.length a5:Value).ownBlock) s_.1 aW)/\(Kd.R k59 59 w' w.heap.size (fun k_=>some k_≠(s_.1:Value).ownBlock) (.slice a4 ag.length a5) ag)/\(w'.heap[am]? =some (.cells #[.int .i64 0,.slice none 0 0] 31 (0,0)))/\(w'.heap[ah]? =some (.cells #[.int .i64 af,.slice a4 ag.length a5] 31 (0,0)))/\(w'.heap[s_.2]? =some (.cells #[.int .i64 0,.slice none 0 0] 31 (0,0)))/\(w.heap.size<=s_.2)/\(w0.heap.size<=s_.2)/\(g≠s_.2)/\(s_.2≠g)/\(am≠s_.2)/\(s_.2≠am)/\(ah≠s_.2)/\(s_.2≠ah)/\(zab w0 w' g ai aT)/\(zaz w w' g none)/\(Below w0.heap.size w0 w')) ?_ ?_;rotate_left
           ·intro hCont;refine zgk (i:=4) (j:=13) (Ni:=some 79) (Nj:=some 9) (G.fl 16 255) (G.fl 16 8431) rfl rfl rfl rfl (zcM HT_.out (zji)) (zd_) (zd_) (fun K hK=>?_) (fun K hK=>?_)
            ·skip;refine G.gs Try.func104 #[.pointer (some ⟨g,0,none⟩),.int .i64 af] ?_;with_reducible refine(zah.calls k3 g ai az af aG aQ w0 _ ?side1 ?side2 cO.out).mono ?_
             (case side1=>exact zck);(case side2=>exact zc1 HB.out);rintro e e2 ⟨rfl,hi,hb,hk⟩;refine⟨_,rfl,?_⟩;replace aa:=G.m (zam (zbu (zab.apart (show zab w0 _ g ai az from zck) (G.cR aa.out) (zd_)) hk (fun _ h=>h.2)) (fun _ h=>h.1));replace ac:=G.kk ac ax hk;replace ab:=G.kk ab av hk;replace HK:=G.kt HK hk;replace HB:=G.m (hb);replace ak:=G.m (hi);(try clear hb cl hk hi);refine hK.out _ _ ⟨G.z ab 0,G.z ab 1⟩ (fun hHeld=>?_);clear hK K;refine G.no 79 ?_;refine zgk (i:=8) (j:=13) (Ni:=some 83) (Nj:=some 9) (G.fl 16 511) (G.fl 16 8447) rfl rfl rfl rfl (zcM HT_.out (zji)) (zd_) (zd_) (fun K hK=>?_) (fun K hK=>?_)
             ·skip;refine G.gs Try.func104 #[.pointer (some ⟨g,0,none⟩),.int .i64 af] ?_;with_reducible refine(zah.calls k3 g ai aQ af aE aT w0 _ ?side1 ?side2 ca.out).mono ?_
              (case side1=>exact zck);(case side2=>exact zc1 HB.out);rintro e dD ⟨rfl,hi,hb,hk⟩;refine⟨_,rfl,?_⟩;replace aa:=G.m (zam (zbu (zab.apart (show zab w0 _ g ai aQ from zck) (G.cR aa.out) (zd_)) hk (fun _ h=>h.2)) (fun _ h=>h.1));replace ac:=G.kk ac ax hk;replace ab:=G.kk ab av hk;replace HK:=G.kt HK hk;replace HB:=G.m (hb);replace ak:=G.m (hi);(try clear hb hk hi);refine hK.out _ _ ⟨G.z ab 0,G.z ab 1⟩ (fun hHeld=>?_);clear hK K;refine G.no 83 ?_;refine zgk (i:=9) (j:=13) (Ni:=some 84) (Nj:=some 9) (G.fl 16 1023) (G.fl 16 8703) rfl rfl rfl rfl (zcM HT_.out (zji)) (zd_) (zd_) (fun K hK=>?_) (fun K hK=>?_)
              ·skip;refine G.gs Try.func105 #[.agg #[.int .i64 af,.slice a4 ag.length a5],.int .i64 aG,.int .i64 aE] ?_;with_reducible refine(zal.calls k3 af _ _ ag aG aE aR aW false _ ?side1 ?side2 bM.out).mono ?_
               (case side1=>exact G.cC (zaf aa.out).2.2);(case side2=>exact(zaf aa.out).2.1);rintro e dl ⟨aS,rfl,ay,hb⟩;refine⟨_,rfl,?_⟩;have aF:=G.m (zaI (zbq ay (zb0 (G.cR aa.out))) (zaB (w:=w) (g:=g) (row:=none) (G.cK HK.out)));replace aa:=G.re aa ay hb;replace ac:=G.bb ac hb;replace ab:=G.bb ab hb;replace HK:=G.kb HK hb;replace HB:=G.m (zao (zc1 HB.out) hb);replace ak:=G.m (zab.below (zck) hb);(try clear hb ay);refine hK.out _ _ ⟨G.z ab 0,G.z ab 1⟩ (fun hHeld=>?_);clear hK K;refine G.no 84 ?_;refine G.pu 10 74 2047 ?_;refine G.pu 11 85 4095 ?_;refine G.pu 12 86 8191 ?_;refine G.on 13 9 16383 (fun K hK=>?_);refine zbF ?hg (N:=9) ?hd (cs:= #[.int .i64 0,.slice none 0 0]) (t:=31) ?hr ?_;(case hd=>rfl);(case hg=>rfl);(case hr=>first|(go_simp;done)|(go_simp;rfl));intro ae hg dn hbox hb;have n0:=G.rb aa hb;have n1:=G.rb aF hb;have n2:=G.bb ac hb;have n3:=G.bb ab hb;have n4:=G.m (zab.below (zck) hb);have n5:=G.kb HK hb;have n6:=G.m (zao (zc1 HB.out) hb);have n7:=G.m (hbox);have n8:=G.m (zgC:w.heap.size<=ae);have n9:=G.m (Nat.le_trans bC.out (zgC:w.heap.size<=ae):w0.heap.size<=ae);have a7:=G.m (zlh:am≠ae);have a_:=G.m (zkS:ae≠am);have ba:=G.m (zpc:ah≠ae);have bc:=G.m (zoZ:ae≠ah);have bd:=G.m (zo1:g≠ae);have bW:=G.m (zoK:ae≠g);clear aa aF ac ab ak HK HB;revert n0 n1 n2 n3 n4 n5 n6 n7 n8 n9 a7 a_ ba bc bd bW;intro aa aF ac ab ak HK HB aj aO aP ao ap al aq aB au;clear hb hbox hg;refine hK.out _ _ ⟨G.z ab 0,G.z ab 1⟩ (fun hHeld=>?_);clear hK K;refine G.no 9 ?_;exact zbV (by simp only[zbI,Act.put,List.setIfInBounds_toArray,List.set_cons_zero,List.set_cons_succ]) (hCont (aS,ae) _ ⟨hHeld,(zls),(zlU),(G.cb ac.out),(G.cb ab.out),(G.cb aj.out),aO.out,aP.out,aB.out,au.out,ao.out,ap.out,al.out,aq.out,(zck),(G.cK HK.out),(zc1 HB.out)⟩)
              ·skip;refine zbF ?hg (N:=9) ?hd (cs:= #[.int .i64 0,.slice none 0 0]) (t:=31) ?hr ?_;(case hd=>rfl);(case hg=>rfl);(case hr=>first|(go_simp;done)|(go_simp;rfl));intro ae hg dl hbox hb;have n0:=G.rb aa hb;have n1:=G.bb ac hb;have n2:=G.bb ab hb;have n3:=G.m (zab.below (zck) hb);have n4:=G.kb HK hb;have n5:=G.m (zao (zc1 HB.out) hb);have n6:=G.m (hbox);have n7:=G.m (zgC:w.heap.size<=ae);have n8:=G.m (Nat.le_trans bC.out (zgC:w.heap.size<=ae):w0.heap.size<=ae);have n9:=G.m (zlh:am≠ae);have a7:=G.m (zkS:ae≠am);have a_:=G.m (zpc:ah≠ae);have ba:=G.m (zoZ:ae≠ah);have bc:=G.m (zo1:g≠ae);have bd:=G.m (zoK:ae≠g);clear aa ac ab ak HK HB;revert n0 n1 n2 n3 n4 n5 n6 n7 n8 n9 a7 a_ ba bc bd;intro aa ac ab ak HK HB aj aO aP ao ap al aq aB au;clear hb hbox hg;refine hK.out _ _ ⟨G.z ab 0,G.z ab 1⟩ (fun hHeld=>?_);clear hK K;refine G.no 9 ?_;refine G.on 9 84 9215 (fun K hK=>?_);refine G.gs Try.func105 #[.agg #[.int .i64 af,.slice a4 ag.length a5],.int .i64 aG,.int .i64 aE] ?_;with_reducible refine(zal.calls k3 af _ _ ag aG aE aR aW false _ ?side1 ?side2 bM.out).mono ?_
               (case side1=>exact G.cC (zaf aa.out).2.2);(case side2=>exact(zaf aa.out).2.1);rintro e dn ⟨aS,rfl,ay,hb⟩;refine⟨_,rfl,?_⟩;have aF:=G.m (zaI (zbq ay (zb0 (G.cR aa.out))) (zaB (w:=w) (g:=g) (row:=none) (G.cK HK.out)));replace aa:=G.re aa ay hb;replace ac:=G.bb ac hb;replace ab:=G.bb ab hb;replace aj:=G.bb aj hb;replace HK:=G.kb HK hb;replace HB:=G.m (zao (zc1 HB.out) hb);replace ak:=G.m (zab.below (zck) hb);(try clear hb ay);refine hK.out _ _ ⟨G.z ab 0,G.z ab 1⟩ (fun hHeld=>?_);clear hK K;refine G.no 84 ?_;refine G.pu 10 74 10239 ?_;refine G.pu 11 85 12287 ?_;refine G.pu 12 86 16383 ?_;exact zbV (by simp only[zbI,Act.put,List.setIfInBounds_toArray,List.set_cons_zero,List.set_cons_succ]) (hCont (aS,ae) _ ⟨hHeld,(zls),(zlU),(G.cb ac.out),(G.cb ab.out),(G.cb aj.out),aO.out,aP.out,aB.out,au.out,ao.out,ap.out,al.out,aq.out,(zck),(G.cK HK.out),(zc1 HB.out)⟩)
             ·skip;refine zbF ?hg (N:=9) ?hd (cs:= #[.int .i64 0,.slice none 0 0]) (t:=31) ?hr ?_;(case hd=>rfl);(case hg=>rfl);(case hr=>first|(go_simp;done)|(go_simp;rfl));intro ae hg dD hbox hb;have n0:=G.rb aa hb;have n1:=G.bb ac hb;have n2:=G.bb ab hb;have n3:=G.m (zab.below (zck) hb);have n4:=G.kb HK hb;have n5:=G.m (zao (zc1 HB.out) hb);have n6:=G.m (hbox);have n7:=G.m (zgC:w.heap.size<=ae);have n8:=G.m (Nat.le_trans bC.out (zgC:w.heap.size<=ae):w0.heap.size<=ae);have n9:=G.m (zlh:am≠ae);have a7:=G.m (zkS:ae≠am);have a_:=G.m (zpc:ah≠ae);have ba:=G.m (zoZ:ae≠ah);have bc:=G.m ((by rw[hg];exact Nat.ne_of_lt (zab.lt (show zab w0 _ g ai aQ from zck)):g≠ae));have bd:=G.m ((by rw[hg];exact Nat.ne_of_gt (zab.lt (show zab w0 _ g ai aQ from zck)):ae≠g));clear aa ac ab ak HK HB;revert n0 n1 n2 n3 n4 n5 n6 n7 n8 n9 a7 a_ ba bc bd;intro aa ac ab ak HK HB aj aO aP ao ap al aq aB au;clear hb hbox hg;refine hK.out _ _ ⟨G.z ab 0,G.z ab 1⟩ (fun hHeld=>?_);clear hK K;refine G.no 9 ?_;refine G.on 8 83 8703 (fun K hK=>?_);refine G.gs Try.func104 #[.pointer (some ⟨g,0,none⟩),.int .i64 af] ?_;with_reducible refine(zah.calls k3 g ai aQ af aE aT w0 _ ?side1 ?side2 ca.out).mono ?_
              (case side1=>exact zck);(case side2=>exact zc1 HB.out);rintro e dl ⟨rfl,hi,hb,hk⟩;refine⟨_,rfl,?_⟩;replace aa:=G.m (zam (zbu (zab.apart (show zab w0 _ g ai aQ from zck) (G.cR aa.out) (zd_)) hk (fun _ h=>h.2)) (fun _ h=>h.1));replace ac:=G.kk ac ax hk;replace ab:=G.kk ab av hk;replace aj:=G.kk aj au hk;replace HK:=G.kt HK hk;replace HB:=G.m (hb);replace ak:=G.m (hi);(try clear hb hk hi);refine hK.out _ _ ⟨G.z ab 0,G.z ab 1⟩ (fun hHeld=>?_);clear hK K;refine G.no 83 ?_;refine G.on 9 84 9215 (fun K hK=>?_);refine G.gs Try.func105 #[.agg #[.int .i64 af,.slice a4 ag.length a5],.int .i64 aG,.int .i64 aE] ?_;with_reducible refine(zal.calls k3 af _ _ ag aG aE aR aW false _ ?side1 ?side2 bM.out).mono ?_
              (case side1=>exact G.cC (zaf aa.out).2.2);(case side2=>exact(zaf aa.out).2.1);rintro e dn ⟨aS,rfl,ay,hb⟩;refine⟨_,rfl,?_⟩;have aF:=G.m (zaI (zbq ay (zb0 (G.cR aa.out))) (zaB (w:=w) (g:=g) (row:=none) (G.cK HK.out)));replace aa:=G.re aa ay hb;replace ac:=G.bb ac hb;replace ab:=G.bb ab hb;replace aj:=G.bb aj hb;replace HK:=G.kb HK hb;replace HB:=G.m (zao (zc1 HB.out) hb);replace ak:=G.m (zab.below (zck) hb);(try clear hb ay);refine hK.out _ _ ⟨G.z ab 0,G.z ab 1⟩ (fun hHeld=>?_);clear hK K;refine G.no 84 ?_;refine G.pu 10 74 10239 ?_;refine G.pu 11 85 12287 ?_;refine G.pu 12 86 16383 ?_;exact zbV (by simp only[zbI,Act.put,List.setIfInBounds_toArray,List.set_cons_zero,List.set_cons_succ]) (hCont (aS,ae) _ ⟨hHeld,(zls),(zlU),(G.cb ac.out),(G.cb ab.out),(G.cb aj.out),aO.out,aP.out,aB.out,au.out,ao.out,ap.out,al.out,aq.out,(zck),(G.cK HK.out),(zc1 HB.out)⟩)
            ·skip;refine zbF ?hg (N:=9) ?hd (cs:= #[.int .i64 0,.slice none 0 0]) (t:=31) ?hr ?_;(case hd=>rfl);(case hg=>rfl);(case hr=>first|(go_simp;done)|(go_simp;rfl));intro ae hg e2 hbox hb;have n0:=G.rb aa hb;have n1:=G.bb ac hb;have n2:=G.bb ab hb;have n3:=G.m (zab.below (zck) hb);have n4:=G.kb HK hb;have n5:=G.m (zao (zc1 HB.out) hb);have n6:=G.m (hbox);have n7:=G.m (zgC:w.heap.size<=ae);have n8:=G.m (Nat.le_trans bC.out (zgC:w.heap.size<=ae):w0.heap.size<=ae);have n9:=G.m (zlh:am≠ae);have a7:=G.m (zkS:ae≠am);have a_:=G.m (zpc:ah≠ae);have ba:=G.m (zoZ:ae≠ah);have bc:=G.m ((by rw[hg];exact Nat.ne_of_lt (zab.lt (show zab w0 _ g ai az from zck)):g≠ae));have bd:=G.m ((by rw[hg];exact Nat.ne_of_gt (zab.lt (show zab w0 _ g ai az from zck)):ae≠g));clear aa ac ab ak HK HB;revert n0 n1 n2 n3 n4 n5 n6 n7 n8 n9 a7 a_ ba bc bd;intro aa ac ab ak HK HB aj aO aP ao ap al aq aB au;clear hb hbox hg;refine hK.out _ _ ⟨G.z ab 0,G.z ab 1⟩ (fun hHeld=>?_);clear hK K;refine G.no 9 ?_;refine G.on 4 79 8447 (fun K hK=>?_);refine G.gs Try.func104 #[.pointer (some ⟨g,0,none⟩),.int .i64 af] ?_;with_reducible refine(zah.calls k3 g ai az af aG aQ w0 _ ?side1 ?side2 cO.out).mono ?_
             (case side1=>exact zck);(case side2=>exact zc1 HB.out);rintro e dD ⟨rfl,hi,hb,hk⟩;refine⟨_,rfl,?_⟩;replace aa:=G.m (zam (zbu (zab.apart (show zab w0 _ g ai az from zck) (G.cR aa.out) (zd_)) hk (fun _ h=>h.2)) (fun _ h=>h.1));replace ac:=G.kk ac ax hk;replace ab:=G.kk ab av hk;replace aj:=G.kk aj au hk;replace HK:=G.kt HK hk;replace HB:=G.m (hb);replace ak:=G.m (hi);(try clear hb cl hk hi);refine hK.out _ _ ⟨G.z ab 0,G.z ab 1⟩ (fun hHeld=>?_);clear hK K;refine G.no 79 ?_;refine G.on 8 83 8703 (fun K hK=>?_);refine G.gs Try.func104 #[.pointer (some ⟨g,0,none⟩),.int .i64 af] ?_;with_reducible refine(zah.calls k3 g ai aQ af aE aT w0 _ ?side1 ?side2 ca.out).mono ?_
             (case side1=>exact zck);(case side2=>exact zc1 HB.out);rintro e dl ⟨rfl,hi,hb,hk⟩;refine⟨_,rfl,?_⟩;replace aa:=G.m (zam (zbu (zab.apart (show zab w0 _ g ai aQ from zck) (G.cR aa.out) (zd_)) hk (fun _ h=>h.2)) (fun _ h=>h.1));replace ac:=G.kk ac ax hk;replace ab:=G.kk ab av hk;replace aj:=G.kk aj au hk;replace HK:=G.kt HK hk;replace HB:=G.m (hb);replace ak:=G.m (hi);(try clear hb hk hi);refine hK.out _ _ ⟨G.z ab 0,G.z ab 1⟩ (fun hHeld=>?_);clear hK K;refine G.no 83 ?_;refine G.on 9 84 9215 (fun K hK=>?_);refine G.gs Try.func105 #[.agg #[.int .i64 af,.slice a4 ag.length a5],.int .i64 aG,.int .i64 aE] ?_;with_reducible refine(zal.calls k3 af _ _ ag aG aE aR aW false _ ?side1 ?side2 bM.out).mono ?_
             (case side1=>exact G.cC (zaf aa.out).2.2);(case side2=>exact(zaf aa.out).2.1);rintro e dn ⟨aS,rfl,ay,hb⟩;refine⟨_,rfl,?_⟩;have aF:=G.m (zaI (zbq ay (zb0 (G.cR aa.out))) (zaB (w:=w) (g:=g) (row:=none) (G.cK HK.out)));replace aa:=G.re aa ay hb;replace ac:=G.bb ac hb;replace ab:=G.bb ab hb;replace aj:=G.bb aj hb;replace HK:=G.kb HK hb;replace HB:=G.m (zao (zc1 HB.out) hb);replace ak:=G.m (zab.below (zck) hb);(try clear hb ay);refine hK.out _ _ ⟨G.z ab 0,G.z ab 1⟩ (fun hHeld=>?_);clear hK K;refine G.no 84 ?_;refine G.pu 10 74 10239 ?_;refine G.pu 11 85 12287 ?_;refine G.pu 12 86 16383 ?_;exact zbV (by simp only[zbI,Act.put,List.setIfInBounds_toArray,List.set_cons_zero,List.set_cons_succ]) (hCont (aS,ae) _ ⟨hHeld,(zls),(zlU),(G.cb ac.out),(G.cb ab.out),(G.cb aj.out),aO.out,aP.out,aB.out,au.out,ao.out,ap.out,al.out,aq.out,(zck),(G.cK HK.out),(zc1 HB.out)⟩)
           rintro⟨aS,ae⟩ bz ⟨hS_,cm,cn,co,cp,cq,cr,ct,cu,cv,cw,bX,bY,bZ,b1,b2,b3⟩;have n0:zaa (Kd.R k59 59 bz w.heap.size (fun k_=>some k_≠(.slice a4 ag.length a5:Value).ownBlock) aS aW):=⟨cm⟩;have n1:zaa (Kd.R k59 59 bz w.heap.size (fun k_=>some k_≠(aS:Value).ownBlock) (.slice a4 ag.length a5) ag):=⟨cn⟩;have n2:zaa (bz.heap[am]? =some (.cells #[.int .i64 0,.slice none 0 0] 31 (0,0))):=⟨co⟩;have n3:zaa (bz.heap[ah]? =some (.cells #[.int .i64 af,.slice a4 ag.length a5] 31 (0,0))):=⟨cp⟩;have n4:zaa (bz.heap[ae]? =some (.cells #[.int .i64 0,.slice none 0 0] 31 (0,0))):=⟨cq⟩;have n5:zaa (w.heap.size<=ae):=⟨cr⟩;have n6:zaa (w0.heap.size<=ae):=⟨ct⟩;have n7:zaa (g≠ae):=⟨cu⟩;have n8:zaa (ae≠g):=⟨cv⟩;have n9:zaa (am≠ae):=⟨cw⟩;have a7:zaa (ae≠am):=⟨bX⟩;have a_:zaa (ah≠ae):=⟨bY⟩;have ba:zaa (ae≠ah):=⟨bZ⟩;have bc:zaa (zab w0 bz g ai aT):=⟨b1⟩;have bd:zaa (zaz w bz g none):=⟨b2⟩;have bW:zaa (Below w0.heap.size w0 bz):=⟨b3⟩;clear aa ac ab ak HK HB;clear cm cn co cp cq cr ct cu cv cw bX bY bZ b1 b2 b3;revert n0 n1 n2 n3 n4 n5 n6 n7 n8 n9 a7 a_ ba bc bd bW;intro aF aa ac ab aj aO aP aB au ao ap al aq ak HK HB;have hHeld:bz.cell? ⟨ah,0,none⟩=some (.int .i64 af)/\bz.cell? ⟨ah,1,none⟩=some (.slice a4 ag.length a5):=hS_;obtain⟨dN,dO,dp⟩:=zau aF.out;(first|subst dp|(injection dp with bn bF bo;have bG:=bn.symm;have bH:=bo.symm;clear bn bF bo;subst bG;subst bH));refine zbV (a':= ?_) ?_ ?_;rotate_left
           ·simp only[zbI,Act.put,List.setIfInBounds_toArray,List.set_cons_zero,List.set_cons_succ];rfl
           refine G.onN 14 (none) (G.fl 16 32767) (fun K hK=>?_);have f7:bz.cell? ⟨ae,0,none⟩=some (.int .i64 0):=G.z aj 0;have fF:=zaT aj.out 0;have ex:=ao.out;have ey:=al.out;have ez:=ap.out;have eA:=aq.out;have f8:bz.cell? ⟨ae,1,none⟩=some (.slice none 0 0):=G.z aj 1;have fG:=zaT aj.out 1;have eB:=ao.out;have eC:=al.out;have eD:=ap.out;have eE:=aq.out;refine zdf (w1:= ?_) (by rfl) rfl ?_ ?_;rotate_left
           ·go_simp
            rfl
           refine hK.out _ _ ⟨((cell_far (p:=⟨ae,_,none⟩) al.out _).trans (((cell_far (p:=⟨ae,_,none⟩) al.out _).trans (hHeld.1)))),((cell_far (p:=⟨ae,_,none⟩) al.out _).trans (((cell_far (p:=⟨ae,_,none⟩) al.out _).trans (hHeld.2))))⟩ (fun hHeld=>?_);clear hK K;refine G.pu 15 10 65535 ?_;refine zbO (zbb HT_.out (zji)) ?_;try go_wp2
           go_roundg k3
           case measure=>have:=bL.out;have:=b8.out;have:=cN.out;omega
           case rel=>exact⟨(wrap64 (a6 - 1)),(aT),(af),(ag),(.slice a4 ag.length a5),(zl3),H',⟨by have:=bL.out;have:=b8.out;have:=cN.out;omega⟩,⟨by(with_reducible repeat(first|apply zav|apply zaw|apply zat));exact zam (zaP (p:=⟨ae,1,none⟩) (zaP (p:=⟨ae,0,none⟩) (zaH aa.out aj.out (zd_)) (fun _ hk=>hk.2) (.int .i64 aR)) (fun _ hk=>hk.2) (.slice dN aW.length dO)) (fun _ hk=>trivial)⟩,⟨G.bw ac.out⟩,⟨G.bw ab.out⟩,⟨zck⟩,⟨G.cK HK.out⟩,⟨zc1 HB.out⟩⟩
         ·rw[if_neg b_]at H;have dw:=decide_eq_false b_;clear b_;obtain⟨⟨bB,bK⟩,dE,H⟩:=G.bi H;(try dsimp only at H)
          by_cases b4:bB=0
          ·rw[if_pos b4]at H;have dx:=beq_iff_eq.mpr b4;have dy:=bne_eq_false_iff_eq.mpr b4;clear b4;obtain⟨⟨b5,ch,dq⟩,e3,H⟩:=G.bi H;(try dsimp only at H);simp only[Option.some.injEq,Prod.mk.injEq]at H;obtain⟨rfl,rfl,rfl⟩:=H
           go_wp2_with (first|((with_reducible refine G.f 104 rfl ?_);refine G.gL 90 Try.func104 #[.pointer (some ⟨g,0,none⟩),.int .i64 8] ?_;(with_reducible refine(zah.calls k3 g ai az 8 bB bK w0 _ ?side1 ?side2 dE.out).mono ?_);(case side1=>exact zck);(case side2=>exact zc1 HB.out);rintro e gi ⟨rfl,hi,hb,hk⟩;refine⟨_,rfl,?_⟩;replace aa:=G.m (zam (zbu (zab.apart (show zab w0 _ g ai az from zck) (G.cR aa.out) (zd_)) hk (fun _ h=>h.2)) (fun _ h=>h.1));replace ac:=G.kk ac ax hk;replace ab:=G.kk ab av hk;replace HK:=G.kt HK hk;replace HB:=G.m (hb);replace ak:=G.m (hi);(try clear hb hk hi))|((with_reducible refine G.f 106 rfl ?_);refine G.gL 93 Try.func106 #[.pointer (some ⟨g,0,none⟩)] ?_;(with_reducible refine(zcS.calls k3 g ai bK b5 ch dq w0 _ ?side1 ?side2 e3.out).mono ?_);(case side1=>exact zck);(case side2=>exact zc1 HB.out);rintro e e4 ⟨f9,rfl,ay,hi,hb,hk⟩;refine⟨_,rfl,?_⟩;replace ac:=G.kk ac ax hk;replace ab:=G.kk ab av hk;have cQ:=G.m (zaI (zbq ay (zb0 (G.cR aa.out))) (zaB (w:=w) (g:=g) (row:=none) (G.cK HK.out)));replace aa:=G.m (zam (zlW (zlF (zab.apart (show zab w0 _ g ai bK from zck) (G.cR aa.out) (zd_)) hk) (zcA ay)) (fun _ h_=>h_.1));replace HK:=G.kt HK hk;replace HB:=G.m (hb);replace ak:=G.m (hi);(try clear hb hk hi ay);have fH:=aA.out;have fI:=aH.out;have fJ:=ax.out;have fK:=b6.out;have⟨eF,eG,eH,eI⟩:=G.d2 (w:=e4) ac;obtain⟨dr,dt,dP⟩:=zau cQ.out;subst dP))
           refine bodyPost_ret (results_cell_row rfl _ _ am 31 #[.int .i64 b5,.slice dr ch.length dt] (0,0) _ rfl (G.bw ac.out) Try.underlying31 rfl (zji)) rfl ?_;exact⟨_,G.er,by(with_reducible repeat(first|apply zav|apply zaw|apply zat));exact zam (zaP (p:=⟨am,1,none⟩) (zaP (p:=⟨am,0,none⟩) (zaH cQ.out ac.out (zd_)) (fun _ hk=>hk.2) (.int .i64 b5)) (fun _ hk=>hk.2) (.slice dr ch.length dt)) (fun _ hk=>trivial),zck,zc1 HB.out,G.cK HK.out⟩
          ·rw[if_neg b4]at H;have dx:=beq_eq_false_iff_ne.mpr b4;have dy:=bne_iff_ne.mpr b4;simp only[Option.some.injEq,Prod.mk.injEq]at H;obtain⟨rfl,rfl,rfl⟩:=H
           go_wp2_with (first|((with_reducible refine G.f 104 rfl ?_);refine G.gL 90 Try.func104 #[.pointer (some ⟨g,0,none⟩),.int .i64 8] ?_;(with_reducible refine(zah.calls k3 g ai az 8 bB bK w0 _ ?side1 ?side2 dE.out).mono ?_);(case side1=>exact zck);(case side2=>exact zc1 HB.out);rintro e dF ⟨rfl,hi,hb,hk⟩;refine⟨_,rfl,?_⟩;replace aa:=G.m (zam (zbu (zab.apart (show zab w0 _ g ai az from zck) (G.cR aa.out) (zd_)) hk (fun _ h=>h.2)) (fun _ h=>h.1));replace ac:=G.kk ac ax hk;replace ab:=G.kk ab av hk;replace HK:=G.kt HK hk;replace HB:=G.m (hb);replace ak:=G.m (hi);(try clear hb hk hi);have fL:=aH.out;have fM:=aA.out;have fN:=av.out;have fO:=bq.out;have⟨eJ,eK,eL,eM⟩:=G.d2 (w:=dF) ab;have fP:=ax.out;have fQ:=b6.out;have⟨eN,eO,eP,eQ⟩:=G.d2 (w:=dF) ac;obtain⟨du,dv,dQ⟩:=zau aa.out;subst dQ))
           refine bodyPost_ret (results_cell_row rfl _ _ am 31 #[.int .i64 af,.slice du ag.length dv] (0,0) _ rfl (G.bw ac.out) Try.underlying31 rfl (zji)) rfl ?_;exact⟨_,G.er,by(with_reducible repeat(first|apply zav|apply zaw|apply zat));exact zam (zaP (p:=⟨am,1,none⟩) (zaP (p:=⟨am,0,none⟩) (zaH aa.out ac.out (zd_)) (fun _ hk=>hk.2) (.int .i64 af)) (fun _ hk=>hk.2) (.slice du ag.length dv)) (fun _ hk=>trivial),zck,zc1 HB.out,G.cK HK.out⟩
end Go.Proofs.Ytgeonpciodepgaa.P
namespace Go.Proofs.Ytgeonpciodepgaa.P
open Go.RowKit Go.Proofs.YtgeonpciodepgaaW.PrintWords Go.Proofs.YtgeonpciodepgaaW.PrintLast Go.Proofs.YtgeonpciodepgaaW.PrintMore Go.Proofs.YtgeonpciodepgaaW.PrintWords.Kd
theorem zkE {e t base n cap:Nat}{W:World}{ok:Nat->Prop}{ad:Addr}{xs:List (List Int)}(h:Kd.S (Kd.slice t (Kd.int .i64)) e W base ok (.slice (some ad) n cap) xs) (i j x:Int)
  (h0:0<=i) (h1:i<(xs.length:Int)) (j0:0<=j) (j1:j<((xs.getD i.toNat []).length:Int)) {A:Option Addr}{m c:Nat}(hc:W.cell? (ad.add i.toNat)=some (.slice A m c)):
  ∃ge:Nat,A=some ⟨ge,0,none⟩/\ok ge/\(∃cells,W.heap[ge]? =some (.cells cells t (0,0)))/\(∃y:Value,W.cell? ⟨ge,j.toNat,none⟩=some y)/\W.frozen? ⟨ge,j.toNat,none⟩=false/\
   Kd.S (Kd.slice t (Kd.int .i64)) e (W.setCell ⟨ge,j.toNat,none⟩ (.int .i64 x)) base ok (.slice (some ad) n cap) (xs.set i.toNat ((xs.getD i.toNat []).set j.toNat x)):=by
 have hn:=(zkH h).1
 obtain⟨oki,ce,hcl,hM,hcc,hok,hbk⟩:=zlk h [] i h0 (by rw[hn];exact h1)
 obtain⟨v,rfl,hR⟩:=hM
 have hR:Kd.R (Kd.int .i64) t W base oki v (xs.getD i.toNat []):=hR
 have hv:=hcc 0 _ rfl
 rw[Nat.add_zero,show((Kd.slice t (Kd.int .i64))).sz=1 from rfl,Nat.mul_one]at hv
 replace hv:=Option.some.inj (hv.symm.trans hc)
 subst hv
 obtain⟨ge,cap',he,hb,hlt,hcells⟩:=ze2 hR (by omega)
 injection he with e1 e2 e3
 subst e1;subst e2;subst e3
 have hget:oki ge:=hR.1 ge (by simp[Value.ownBlock])
 obtain⟨hce,hfr⟩:=zdH (d:=(0:Int)) hR j j0 j1
 have hp:=zfA hR j x
 refine⟨ge,rfl,(hok ge hget).1,hcells,⟨_,hce⟩,hfr,hbk hp.2 (fun k hk=>?_) ⟨_,rfl,?_⟩⟩
 ·injection hk with hk;rw[←hk];exact hget
 ·exact hp.1
end Go.Proofs.Ytgeonpciodepgaa.P
namespace Go.Proofs.Ytgeonpciodepgaa.P
set_option maxHeartbeats 8000000
set_option maxRecDepth 100000
open Go.RowKit Go.Proofs.YtgeonpciodepgaaW.PrintWords Go.Proofs.YtgeonpciodepgaaW.PrintLast Go.Proofs.YtgeonpciodepgaaW.PrintMore Go.Proofs.YtgeonpciodepgaaW.PrintWords.Kd
attribute [local go_sem] zc_ zdb zdK zdG zcK zcL zdc zda
theorem zik {p:Prop}(h:p:=by exact G.bw ah.out):p:=h
theorem zmg {p:Prop}(h:p:=by exact G.bw aa.out):p:=h
theorem ziG {p:Prop}(h:p:=by exact G.bw aa.out):p:=h
theorem zpN {p:Prop}(h:p:=by(with_reducible repeat(first|apply zav|apply zaw|apply zat));exact(zam (zaP (p:=⟨ae,1,none⟩) (zaP (p:=⟨ae,0,none⟩) (zaH af.out ah.out (by decide)) (fun _ hk=>hk.2) (.int .i64 ak)) (fun _ hk=>hk.2) (.slice a2 ag.length aY)) (fun _ h_=>h_.1))):p:=h
theorem zpv {p:Prop}(h:p:=by(with_reducible repeat(first|apply zav|apply zaw|apply zat));exact(zam (zaP (p:=⟨ae,1,none⟩) (zaP (p:=⟨ae,0,none⟩) (zaH af.out ah.out (by decide)) (fun _ hk=>hk.2) (.int .i64 ak)) (fun _ hk=>hk.2) (.slice aN ag.length aM)) (fun _ h_=>h_.1))):p:=h
theorem zpY {p:Prop}(h:p:=by(with_reducible repeat(first|apply zav|apply zaw|apply zat));exact(zam (zaP (p:=⟨ae,1,none⟩) (zaP (p:=⟨ae,0,none⟩) (zaH af.out ah.out (by decide)) (fun _ hk=>hk.2) (.int .i64 ak)) (fun _ hk=>hk.2) (.slice bd ag.length ba)) (fun _ h_=>h_.1))):p:=h
theorem zpj {p:Prop}(h:p:=by(with_reducible repeat(first|apply zav|apply zaw|apply zat));exact(zam (zaP (p:=⟨ae,1,none⟩) (zaP (p:=⟨ae,0,none⟩) (zaH af.out ah.out (by decide)) (fun _ hk=>hk.2) (.int .i64 ak)) (fun _ hk=>hk.2) (.slice bc ag.length a9)) (fun _ h_=>h_.1))):p:=h
theorem zph {p:Prop}(h:p:=by(with_reducible repeat(first|apply zav|apply zaw|apply zat));exact(zam (zaP (p:=⟨ae,1,none⟩) (zaP (p:=⟨ae,0,none⟩) (zaH af.out ah.out (by decide)) (fun _ hk=>hk.2) (.int .i64 ak)) (fun _ hk=>hk.2) (.slice aJ ag.length aH)) (fun _ h_=>h_.1))):p:=h
theorem zpu {p:Prop}(h:p:=by(with_reducible repeat(first|apply zav|apply zaw|apply zat));exact(zam (zaP (p:=⟨ae,1,none⟩) (zaP (p:=⟨ae,0,none⟩) (zaH af.out ah.out (by decide)) (fun _ hk=>hk.2) (.int .i64 ak)) (fun _ hk=>hk.2) (.slice a7 ag.length a4)) (fun _ h_=>h_.1))):p:=h
theorem zpC {p:Prop}(h:p:=by(with_reducible repeat(first|apply zav|apply zaw|apply zat));exact(zam (zaP (p:=⟨ae,1,none⟩) (zaP (p:=⟨ae,0,none⟩) (zaH af.out ah.out (by decide)) (fun _ hk=>hk.2) (.int .i64 ak)) (fun _ hk=>hk.2) (.slice a_ ag.length a8)) (fun _ h_=>h_.1))):p:=h
theorem zoQ {p:Prop}(h:p:=by first|(rw[add_block];exact zgR (zab.zef am.out (Kd.S_N aj.out) (by decide)))|(show(Addr.add _ _).block≠_;rw[add_block];exact zgR (zab.zef am.out (Kd.S_N aj.out) (by decide)))|exact zgR (zab.zef am.out (Kd.S_N aj.out) (by decide))):p:=h
theorem zmT {p:Prop}(h:p:=by rw[hg];exact Nat.ne_of_lt (zbg (g:=ab) (o:=.cells #[.int .i64 0,.slice none 0 0] 31 (0,0)) (G.cb aa.out))):p:=h
theorem zl2 {p:Prop}(h:p:=by rw[hg];exact Nat.ne_of_gt (zbg (g:=ab) (o:=.cells #[.int .i64 0,.slice none 0 0] 31 (0,0)) (G.cb aa.out))):p:=h
theorem zgh {p:Prop}(h:p:=by(with_reducible repeat(first|apply zbA|apply zbz|apply zbP));exact aj.out):p:=h
theorem zo5 {p:Prop}(h:p:=by(with_reducible repeat(first|apply zdh|apply zdk|apply zdx));exact aj.out):p:=h
theorem zmn {p:Prop}(h:p:=by rw[hg];exact Nat.ne_of_lt (zab.lt (show zab w0 _ g ao bf from zcg))):p:=h
theorem zmZ {p:Prop}(h:p:=by rw[hg];exact Nat.ne_of_gt (zab.lt (show zab w0 _ g ao bf from zcg))):p:=h
theorem zm1 {p:Prop}(h:p:=by rw[hg];exact Nat.ne_of_lt (zab.lt (show zab w0 _ g ao aC from zcg))):p:=h
theorem zmi {p:Prop}(h:p:=by rw[hg];exact Nat.ne_of_gt (zab.lt (show zab w0 _ g ao aC from zcg))):p:=h
theorem ze8 {p:Prop}(h:p:=by rw[hg];exact(zaB (w:=w) (g:=g) (row:=none) (G.cK HK.out))):p:=h
theorem zkK {p:Prop}(h:p:=by kernel_rfl):p:=h
theorem zcr {p:Prop}(h:p:=by decide):p:=h
theorem zcg {p:Prop}(h:p:=by repeat(first|(with_reducible first|exact am.out|apply zab.alloc|apply zab.drewN|apply zab.drew|apply zab.zgT)|(with_reducible refine zab.far ?_ (zaa.out (by assumption)) _)|exact am.out)):p:=h
theorem zcW {B:Nat}{w w1 w2:World}(H:Below B w w1) (h:Below B w w2:=by repeat(first|(with_reducible first|exact HB.out|apply zbo|apply zbi|apply zas)|(with_reducible refine zbn ?_ (zaa.out (by assumption)))|(with_reducible refine zbn ?_ (zab.ge am.out))|exact HB.out)):Below B w w2:=h
def za0.l0:Nat->List (List Int)->Int->List Int->Int->List Int->Int->Int->List (S59)->Option (Int× (List (S59))× (List (List Int))×Int)
 |0,_,_,_,_,_,_,_,_=>none
 |k+1,x5,x7,x8,x9,gm,eD,dc,dd=>if x9>=0 then(if 0<=x7 then(if x7<(x5.length:Int) then(if 0<=x9 then(if x9<((zax x5 x7).length:Int) then(if x8.length<17592186044416 then(za0.l0 k x5 x7 (x8++[rd (zax x5 x7) x9]) (wrap64 (x9 - 1)) gm eD dc dd) else(none)) else(none)) else(none)) else(none)) else(none)) else(if 0<=x7 then(if x7<(x5.length:Int) then(some (dc,dd,(x5.set (x7:Int).toNat x8),eD)) else(none)) else(none))
def za0.f (k:Nat) (ao:List Int) (bf:Int):Option (Int× (List (S59))× (List (List Int))×Int):=(zar.f k ao bf).bind fun aw=>((zaq.f k aw.1 aw.2.1).bind fun ap=>(if(ap.1.length:Int)=0 then(some (aw.1,aw.2.1,(([(([0,1,2,0]:List Int))]:List (List Int))),aw.2.2)) else((zah.f k ao aw.2.2 (ap.1.length:Int)).bind fun al=>((zah.f k ao al.2 8).bind fun aq=>(if aq.1=0 then((some (([]:List (List Int)):List (List Int))).bind fun aU=>(if 0<=al.1 then(if al.1<=(ap.1.length:Int) then((some (ap.1.take (al.1:Int).toNat:List (List Int))).bind fun aI=>(if aU.length+aI.length<5864062014805 then((some (aU++aI:List (List Int))).bind fun aD=>(if 0<=(wrap64 (al.1+1)) then(if(wrap64 (al.1+1))<=(ap.1.length:Int) then((some (ap.1.drop ((wrap64 (al.1+1)):Int).toNat:List (List Int))).bind fun ax=>(if aD.length+ax.length<5864062014805 then(some (aw.1,aw.2.1,(aD++ax),aq.2)) else(none))) else(none)) else(none))) else(none))) else(none)) else(none))) else(if aq.1=1 then(if 0<=al.1 then(if al.1<(ap.1.length:Int) then(if 1<=((zax ap.1 al.1).length:Int) then(some (aw.1,aw.2.1,(ap.1.set (al.1:Int).toNat ((zax ap.1 al.1).drop 1)),aq.2)) else(none)) else(none)) else(none)) else(if aq.1=2 then(if ap.1.length<5864062014805 then(some (aw.1,aw.2.1,(ap.1++[(([0,1]:List Int))]),aq.2)) else(none)) else(if aq.1=3 then(if 0<=al.1 then(if al.1<(ap.1.length:Int) then((zah.f k ao aq.2 ((zax ap.1 al.1).length:Int)).bind fun aA=>((zah.f k ao aA.2 9).bind fun aQ=>(if 0<=aA.1 then(if aA.1<((zax ap.1 al.1).length:Int) then(some (aw.1,aw.2.1,(ap.1.set (al.1:Int).toNat ((zax ap.1 al.1).set (aA.1:Int).toNat aQ.1)),aQ.2)) else(none)) else(none)))) else(none)) else(none)) else(if aq.1=4 then(if 0<=al.1 then(if al.1<(ap.1.length:Int) then(za0.l0 k ap.1 al.1 (([]:List Int)) (wrap64 (((zax ap.1 al.1).length:Int) - 1)) ao aq.2 aw.1 aw.2.1) else(none)) else(none)) else(some (aw.1,aw.2.1,ap.1,aq.2)))))))))))
def za0.T8:Bool×List (List Nat×List Nat):=(true,[([],[]),([],[]),([],[]),([1,2],[1,2]),([0,3],[0,3]),([],[]),([],[]),([6],[6]),([5,7],[5,7]),([4,8,4],[4,8]),([9,9,0,1,2,3,4,5,6,7,8,9],[1,5,9])])
def za0.B8:List Nat:=[0,0,0,6,15,0,0,64,224,511,1023]
theorem za0.zlx:zc0 .any (opsOf Try.f71 8)=za0.T8:=by kernel_rfl
theorem za0.zhv:zby za0.T8.2 za0.B8=true:=by kernel_rfl
def za0.T14:Bool×List (List Nat×List Nat):=(true,[([],[]),([],[]),([0,1],[0,1]),([2],[2]),([],[]),([],[]),([],[]),([5,6],[5,6]),([7],[7]),([8],[8]),([4,9],[4,9]),([],[]),([11,10],[11]),([3,10,0,1,2,3,4,5,6,7,8,9,10,11,12],[3,10]),([13,12,12,0,1,2,3,4,5,6,7,8,9,10,11,12],[12,13])])
def za0.B14:List Nat:=[0,0,3,7,0,0,0,96,224,480,1008,0,4080,8191,16383]
theorem za0.zk4:zc0 .any (opsOf Try.f71 14)=za0.T14:=by kernel_rfl
theorem za0.zih:zby za0.T14.2 za0.B14=true:=by kernel_rfl
theorem za0.calls (k:Nat) (g:Nat) (ao:List Int) (bf:Int) (r1:Int) (r2:List (S59)) (r3:List (List Int)) (r4:Int) (w0 w:World) (hI:zab w0 w g ao bf) (hB:Below w0.heap.size w0 w) (h:za0.f k ao bf=some (r1,r2,r3,r4)):
  Calls Try.prog 71 #[.pointer (some ⟨g,0,none⟩)] w fun e w'=>∃fv gQ:Value,e=.returned (.tuple #[.agg #[.int .i64 r1,fv],gQ])/\Kd.R k59 59 w' w.heap.size (fun k_=>(w.heap.size<=k_)) fv r2/\Kd.N (Kd.slice 3 (Kd.int .i64)) 45 w' w.heap.size (fun k_=>(w.heap.size<=k_)/\some k_≠(fv:Value).ownBlock) gQ r3/\zab w0 w' g ao r4/\Below w0.heap.size w0 w'/\zaz w w' g none:=by
 have l9:=Try.underlying31;have am:=G.m hI;have HK:=G.m (zaz.refl w g none);have HL:=G.m hB.size;clear hI;have br:=G.m hB.size;have HB:=G.m hB;clear hB;unfold za0.f at h;have H:=h;clear h;obtain⟨⟨ak,ag,aC⟩,A2,H⟩:=G.bi H;(try dsimp only at H)
 obtain⟨⟨ac,bV⟩,A3,H⟩:=G.bi H;(try dsimp only at H)
 by_cases c4:(ac.length:Int)=0
 ·rw[if_pos c4]at H;have g2:=beq_iff_eq.mpr c4;have g3:=bne_eq_false_iff_eq.mpr c4;clear c4;obtain⟨ci,bY⟩:∃y_:List Int,y_=(([0,1,2,0]:List Int)):=⟨_,rfl⟩;replace H:(some (ak,ag,(([ci]:List (List Int))),aC))=some (r1,r2,r3,r4):=G.y0 bY H
  have eE:=G.m bY;clear bY;obtain⟨g4,bZ⟩:∃y_:List (List Int),y_=(([ci]:List (List Int))):=⟨_,rfl⟩;replace H:(some (ak,ag,g4,aC))=some (r1,r2,r3,r4):=G.y0 bZ H
  have eF:=G.m bZ;clear bZ;simp only[Option.some.injEq,Prod.mk.injEq]at H;obtain⟨rfl,rfl,rfl,rfl⟩:=H
  go_enter Try.func71,Try.ntmps71
  go_wp2_with (first|((with_reducible refine G.h 2 rfl ?_);refine G.be 2 #[.int .i64 0,.slice none 0 0] 31 ?_;intro ab hg w5 hbox hb;replace HB:=G.m (zao (zcW HB.out) hb);have aa:=G.m (hbox);have bG:=G.m (ze8:w.heap.size<=ab);have bH:=G.m (Nat.le_trans br.out (ze8:w.heap.size<=ab):w0.heap.size<=ab);replace HK:=G.kb HK hb;have aW:=G.m (zmn:g≠ab);have au:=G.m (zmZ:ab≠g);replace am:=G.m (zab.below (zcg) hb);clear hb hbox hg)|((with_reducible refine G.f 73 rfl ?_);refine G.gL 11 Try.func73 #[.pointer (some ⟨g,0,none⟩)] ?_;(with_reducible refine(zar.calls k g ao bf ak ag aC w0 _ ?side1 ?side2 A2.out).mono ?_);(case side1=>exact zcg);(case side2=>exact zcW HB.out);rintro e w6 ⟨cj,rfl,aG,hi,hb,hk⟩;refine⟨_,rfl,?_⟩;replace aa:=G.kk aa au hk;have af:=G.m (zaI (zek (M:=fun k_=>(w.heap.size<=k_)) aG (zaB (w:=w) (g:=g) (row:=none) (G.cK HK.out)) (fun k_ h_=>h_)) (zaB (w:=w) (g:=g) (row:=none) (G.cK HK.out)));replace HK:=G.kt HK hk;replace HB:=G.m (hb);replace am:=G.m (hi);(try clear hb hk hi aG))|((with_reducible refine G.h 4 rfl ?_);refine G.be 4 #[.int .i64 0,.slice none 0 0] 31 ?_;intro ae hg w7 hbox hb;have n0:=G.rb af hb;have n1:=G.m (zab.below (zcg) hb);have n2:=G.bb aa hb;have n3:=G.kb HK hb;have n4:=G.m (zao (zcW HB.out) hb);have n5:=G.m (hbox);have n6:=G.m (ze8:w.heap.size<=ae);have n7:=G.m (Nat.le_trans br.out (ze8:w.heap.size<=ae):w0.heap.size<=ae);have n8:=G.m (zmT:ab≠ae);have n9:=G.m (zl2:ae≠ab);have bx:=G.m (zm1:g≠ae);have bz:=G.m (zmi:ae≠g);clear af am aa HK HB;revert n0 n1 n2 n3 n4 n5 n6 n7 n8 n9 bx bz;intro af am aa HK HB ah bI bJ az aE aT av;clear hb hbox hg;have l_:=aE.out;have ma:=az.out;have mb:=av.out;have mc:=aT.out;have⟨iX,iY,iZ,i1⟩:=G.d2 (w:=w7) ah;obtain⟨bc,a9,g5⟩:=zau af.out;subst g5)|((with_reducible refine G.f 22 rfl ?_);refine G.gL 14 Try.func22 #[.agg #[.int .i64 ak,.slice bc ag.length a9]] ?_;(with_reducible refine(zaq.calls k ak _ _ ag ac bV _ ?side1 ?side2 A3.out).mono ?_);(case side1=>refine(zaf (e:=59) (base:=w.heap.size) (ok:=fun k_=>((w.heap.size<=k_)/\True)) (n:=ag.length) (c:=a9) ?_).2.2;exact(zpj));(case side2=>exact(zaf af.out).2.1);rintro e j9 ⟨ck,rfl,aG,hb⟩;refine⟨_,rfl,?_⟩;have aj:=G.m (zdy (zbh (ok':=fun k_=>(w.heap.size<=k_)/\some k_≠(.slice bc ag.length a9:Value).ownBlock/\k_≠ab/\k_≠ae/\k_≠g) (Kd.S_N (zej aG)) (fun k_ hk_=>⟨(Nat.le_trans (zaB (w:=w) (g:=g) (row:=none) (G.cK HK.out)) hk_.2.1),(Kd.fresh' (zb0 (zpj)) k_ hk_.2.1),(zb2 (g:=ab) (o:=.cells #[.int .i64 0,.slice none 0 0] 31 (0,0)) (ziG) k_ hk_.2.1),(zb2 (g:=ae) (o:=.cells #[.int .i64 ak,.slice bc ag.length a9] 31 (0,0)) (zik) k_ hk_.2.1),(zab.fresh (zcg) k_ hk_.2.1)⟩)) (zaB (w:=w) (g:=g) (row:=none) (G.cK HK.out)));replace af:=G.m (zcX (zpj) hb);replace aa:=G.m (zbE (g:=ab) (o:=.cells #[.int .i64 0,.slice none 0 0] 31 (0,0)) (ziG) hb);replace ah:=G.m (zbE (g:=ae) (o:=.cells #[.int .i64 ak,.slice bc ag.length a9] 31 (0,0)) (zik) hb);replace HK:=G.kb HK hb;replace HB:=G.m (zao (zcW HB.out) hb);replace am:=G.m (zab.below (show zab w0 ((w7.setCell ⟨ae,0,none⟩ (.int .i64 ak)).setCell ⟨ae,1,none⟩ (.slice bc ag.length a9)) g ao aC from zcg) hb);(try clear hb aG);obtain⟨cM,cN,g6⟩:=zd1 aj.out;subst g6;have⟨i2,i3,i4,i5⟩:=G.d2 (w:=j9) ah)|((with_reducible refine G.h 21 rfl ?_);refine zcV (Kd.int .i64) _ 3 ?hg (N:=21) ?hd (xs:=([0,1,2,0]:List Int)) (inner:=[.int .i64 0,.int .i64 1,.int .i64 2,.int .i64 0]) (ok:=fun _=>True) (okp:=fun _=>True) ?hr ?hp (fun _ hk=>hk) trivial (Below.refl _ _) (Nat.le_refl _) (by simp) ?_;(case hd=>rfl);(case hg=>rfl);(case hr=>first|(go_simp;done)|(go_simp;rfl));(case hp=>exact(zbK.one (show Kd.M (Kd.int .i64) _ _ _ 0 [.int .i64 0] from rfl) (zbK.one (show Kd.M (Kd.int .i64) _ _ _ 1 [.int .i64 1] from rfl) (zbK.one (show Kd.M (Kd.int .i64) _ _ _ 2 [.int .i64 2] from rfl) (zbK.one (show Kd.M (Kd.int .i64) _ _ _ 0 [.int .i64 0] from rfl) (zbK.none _ _))))));intro me ka cl hb hg_ hnew_;clear hg_ hnew_;(first|rw[←eE.out]at cl|(simp only[Int.reduceToNat]at cl;rw[←eE.out]at cl));replace af:=G.rb af hb;replace aj:=G.m (zcN (zgh) (zcA cl) hb);have cI:=G.m (zaI (zek (M:=fun k_=>(w.heap.size<=k_)) cl (zaB (w:=w) (g:=g) (row:=none) (G.cK HK.out)) (fun k_ h_=>h_)) (zaB (w:=w) (g:=g) (row:=none) (G.cK HK.out)));replace aa:=G.bb aa hb;replace ah:=G.bb ah hb;replace HK:=G.kb HK hb;replace HB:=G.m (zao (zcW HB.out) hb);replace am:=G.m (zab.below (zcg) hb);clear hb cl;obtain⟨fw,fx,g7⟩:=zau cI.out;subst g7)|((with_reducible refine G.h 22 rfl ?_);refine zof (Kd.slice 3 (Kd.int .i64)) _ 45 ?hg (N':=22) ?hd (xs:=([ci]:List (List Int))) (inner:=[.slice fw ci.length fx]) (ok:=(fun k_=>(w.heap.size<=k_)/\some k_≠(.slice bc ag.length a9:Value).ownBlock/\some k_≠(.slice cM ac.length cN:Value).ownBlock/\k_≠ab/\k_≠ae/\k_≠g)) (okp:=(fun k_=>(w.heap.size<=k_)/\some k_≠(.slice bc ag.length a9:Value).ownBlock/\some k_≠(.slice cM ac.length cN:Value).ownBlock/\k_≠ab/\k_≠ae/\k_≠g)) ?hr ?hp (fun _ hk=>hk) ((show∀k_,ka.heap.size<=k_->(fun k_=>(w.heap.size<=k_)/\some k_≠(.slice bc ag.length a9:Value).ownBlock/\some k_≠(.slice cM ac.length cN:Value).ownBlock/\k_≠ab/\k_≠ae/\k_≠g) k_ from fun k_ hk=>⟨(Nat.le_trans (zaB (w:=w) (g:=g) (row:=none) (G.cK HK.out)) hk),Kd.fresh' (zb0 (G.cR af.out)) k_ hk,Kd.fresh' (znH (zgh)) k_ hk,zb2 (g:=ab) (o:=.cells #[.int .i64 0,.slice none 0 0] 31 (0,0)) (G.cb aa.out) k_ hk,zb2 (g:=ae) (o:=.cells #[.int .i64 ak,.slice bc ag.length a9] 31 (0,0)) (G.cb ah.out) k_ hk,zab.fresh (zcg) k_ hk⟩) _ (Nat.le_refl _)) (Below.refl _ _) (Nat.le_refl _) (by simp) ?_;(case hd=>rfl);(case hg=>rfl);(case hr=>first|(go_simp;done)|(go_simp;rfl));(case hp=>exact(zbK.one (show Kd.FK (Kd.slice 3 (Kd.int .i64)) _ _ ci [.slice fw ci.length fx] from(zdz (zaf (zam (ok':=(fun k_=>(w.heap.size<=k_)/\some k_≠(.slice bc ag.length a9:Value).ownBlock/\some k_≠(.slice cM ac.length cN:Value).ownBlock/\k_≠ab/\k_≠ae/\k_≠g)) (zab.apart am.out (zaH (zaH (zb1 (zb1 (cI.out) (zbx af.out) (zcr)) (zcx aj.out) (zcr)) aa.out (zcr)) ah.out (zcr)) (zcr)) (fun k_ hk=>⟨hk.1.1.1.1.1.1,⟨hk.1.1.1.1.2,⟨hk.1.1.1.2,⟨hk.1.1.2,⟨hk.1.2,hk.2⟩⟩⟩⟩⟩))).2.1 (Kd.R_F (zam (ok':=(fun k_=>(w.heap.size<=k_)/\some k_≠(.slice bc ag.length a9:Value).ownBlock/\some k_≠(.slice cM ac.length cN:Value).ownBlock/\k_≠ab/\k_≠ae/\k_≠g)) (zab.apart am.out (zaH (zaH (zb1 (zb1 (cI.out) (zbx af.out) (zcr)) (zcx aj.out) (zcr)) aa.out (zcr)) ah.out (zcr)) (zcr)) (fun k_ hk=>⟨hk.1.1.1.1.1.1,⟨hk.1.1.1.1.2,⟨hk.1.1.1.2,⟨hk.1.1.2,⟨hk.1.2,hk.2⟩⟩⟩⟩⟩))))) (zbK.none _ _)));intro mf kc cm hb hg_ hnew_;clear hg_ hnew_;(first|rw[←eF.out]at cm|(simp only[Int.reduceToNat]at cm;rw[←eF.out]at cm));have n0:=G.rb af hb;have n1:=G.m (zcN (zgh) (zhu cm) hb);have n2:=G.m (zdy cm (zaB (w:=w) (g:=g) (row:=none) (G.cK HK.out)));have n3:=G.m (zab.below (zcg) hb);have n4:=G.bb aa hb;have n5:=G.bb ah hb;have n6:=G.kb HK hb;have n7:=G.m (zao (zcW HB.out) hb);clear af aj am aa ah HK HB cI;revert n0 n1 n2 n3 n4 n5 n6 n7;intro af aj gn am aa ah HK HB;clear hb cm;have k8:=au.out;have k9:=aW.out;have⟨i6,i7,i8,i9⟩:=G.d2 (w:=kc) aa))
  refine bodyPost_ret (zbM rfl _ _ ab 31 #[.int .i64 ak,.slice bc ag.length a9] (0,0) _ rfl (zmg) Try.underlying31 rfl (zkK)) rfl ?_;exact⟨_,_,G.er,by(with_reducible repeat(first|apply zav|apply zaw|apply zat));exact zam (zaP (p:=⟨ab,1,none⟩) (zaP (p:=⟨ab,0,none⟩) (zaH af.out aa.out (zcr)) (fun _ hk=>hk.2) (.int .i64 ak)) (fun _ hk=>hk.2) (.slice bc ag.length a9)) (fun _ hk=>hk.1.1),by(with_reducible repeat(first|apply zbA|apply zbz|apply zbP));exact zbh (zdo (p:=⟨ab,1,none⟩) (zdo (p:=⟨ab,0,none⟩) (zbh gn.out (fun k_ hk=>(⟨hk,hk.2.2.2.1⟩:_/\k_≠ab))) (fun _ hk=>hk.2) (.int .i64 ak)) (fun _ hk=>hk.2) (.slice bc ag.length a9)) (fun _ hk=>⟨hk.1.1,hk.1.2.1⟩),zcg,zcW HB.out,G.cK HK.out⟩
 ·rw[if_neg c4]at H;have g2:=beq_eq_false_iff_ne.mpr c4;have g3:=bne_iff_ne.mpr c4;have mg:¬ (ac=[]):=fun h_=>c4 (by rw[h_];rfl);obtain⟨⟨ai,a3⟩,cO,H⟩:=G.bi H;(try dsimp only at H);obtain⟨⟨aB,aK⟩,cP,H⟩:=G.bi H;(try dsimp only at H)
  by_cases cE:aB=0
  ·rw[if_pos cE]at H;have eG:=beq_iff_eq.mpr cE;have eH:=bne_eq_false_iff_eq.mpr cE;clear cE;obtain⟨aU,b1⟩:∃y_:List (List Int),y_=(([]:List (List Int))):=⟨_,rfl⟩;replace H:(if 0<=ai then(if ai<=(ac.length:Int) then((some (ac.take (ai:Int).toNat:List (List Int))).bind fun aI=>(if aU.length+aI.length<5864062014805 then((some (aU++aI:List (List Int))).bind fun aD=>(if 0<=(wrap64 (ai+1)) then(if(wrap64 (ai+1))<=(ac.length:Int) then((some (ac.drop ((wrap64 (ai+1)):Int).toNat:List (List Int))).bind fun ax=>(if aD.length+ax.length<5864062014805 then(some (ak,ag,(aD++ax),aK)) else(none))) else(none)) else(none))) else(none))) else(none)) else(none))=some (r1,r2,r3,r4):=G.y0 b1 H
   have eI:=G.m b1;clear b1
   obtain⟨dY,H⟩:=G.ip H;have lb:=eq_true dY;have lc:=decide_eq_true dY;clear dY
   obtain⟨dZ,H⟩:=G.ip H;have ld:=eq_true dZ;have le:=decide_eq_true dZ;clear dZ;obtain⟨aI,b2⟩:∃y_:List (List Int),y_=(ac.take (ai:Int).toNat):=⟨_,rfl⟩;replace H:(if aU.length+aI.length<5864062014805 then((some (aU++aI:List (List Int))).bind fun aD=>(if 0<=(wrap64 (ai+1)) then(if(wrap64 (ai+1))<=(ac.length:Int) then((some (ac.drop ((wrap64 (ai+1)):Int).toNat:List (List Int))).bind fun ax=>(if aD.length+ax.length<5864062014805 then(some (ak,ag,(aD++ax),aK)) else(none))) else(none)) else(none))) else(none))=some (r1,r2,r3,r4):=G.y0 b2 H
   have eJ:=G.m b2;clear b2
   obtain⟨eK,H⟩:=G.ip H;have gp:=G.m eK;clear eK;obtain⟨aD,b3⟩:∃y_:List (List Int),y_=(aU++aI):=⟨_,rfl⟩;replace H:(if 0<=(wrap64 (ai+1)) then(if(wrap64 (ai+1))<=(ac.length:Int) then((some (ac.drop ((wrap64 (ai+1)):Int).toNat:List (List Int))).bind fun ax=>(if aD.length+ax.length<5864062014805 then(some (ak,ag,(aD++ax),aK)) else(none))) else(none)) else(none))=some (r1,r2,r3,r4):=G.y0 b3 H
   have gq:=G.m b3;clear b3;obtain⟨a5,bu⟩:∃j_:Int,(wrap64 (ai+1))=j_:=⟨_,rfl⟩;replace H:(if 0<=(a5) then(if(a5)<=(ac.length:Int) then((some (ac.drop ((a5):Int).toNat:List (List Int))).bind fun ax=>(if aD.length+ax.length<5864062014805 then(some (ak,ag,(aD++ax),aK)) else(none))) else(none)) else(none))=some (r1,r2,r3,r4):=by first|(rw[bu]at H;exact H)|(simp only[bu]at H⊢;exact H)
   (try rw[bu]at A2);(try rw[bu]at A3);(try rw[bu]at cO);(try rw[bu]at cP);have kd:(IntKind.i64.wrap (ai+1))=a5:=(zb4 _).trans bu
   obtain⟨d7,H⟩:=G.ip H;have lf:=eq_true d7;have lg:=decide_eq_true d7;clear d7
   obtain⟨d8,H⟩:=G.ip H;have lh:=eq_true d8;have ll:=decide_eq_true d8;clear d8;obtain⟨ax,b4⟩:∃y_:List (List Int),y_=(ac.drop ((a5):Int).toNat):=⟨_,rfl⟩;replace H:(if aD.length+ax.length<5864062014805 then(some (ak,ag,(aD++ax),aK)) else(none))=some (r1,r2,r3,r4):=G.y0 b4 H
   have eL:=G.m b4;clear b4
   obtain⟨eM,H⟩:=G.ip H;have gr:=G.m eM;clear eM;obtain⟨g8,b5⟩:∃y_:List (List Int),y_=(aD++ax):=⟨_,rfl⟩;replace H:(some (ak,ag,g8,aK))=some (r1,r2,r3,r4):=G.y0 b5 H
   have gt:=G.m b5;clear b5;simp only[Option.some.injEq,Prod.mk.injEq]at H;obtain⟨rfl,rfl,rfl,rfl⟩:=H
   go_enter Try.func71,Try.ntmps71;try go_wp2_with (first|((with_reducible refine G.h 2 rfl ?_);refine G.be 2 #[.int .i64 0,.slice none 0 0] 31 ?_;intro ab hg mV hbox hb;replace HB:=G.m (zao (zcW HB.out) hb);have aa:=G.m (hbox);have bG:=G.m (ze8:w.heap.size<=ab);have bH:=G.m (Nat.le_trans br.out (ze8:w.heap.size<=ab):w0.heap.size<=ab);replace HK:=G.kb HK hb;have aW:=G.m (zmn:g≠ab);have au:=G.m (zmZ:ab≠g);replace am:=G.m (zab.below (zcg) hb);clear hb hbox hg)|((with_reducible refine G.f 73 rfl ?_);refine G.gL 11 Try.func73 #[.pointer (some ⟨g,0,none⟩)] ?_;(with_reducible refine(zar.calls k g ao bf ak ag aC w0 _ ?side1 ?side2 A2.out).mono ?_);(case side1=>exact zcg);(case side2=>exact zcW HB.out);rintro e mW ⟨cj,rfl,aG,hi,hb,hk⟩;refine⟨_,rfl,?_⟩;replace aa:=G.kk aa au hk;have af:=G.m (zaI (zek (M:=fun k_=>(w.heap.size<=k_)) aG (zaB (w:=w) (g:=g) (row:=none) (G.cK HK.out)) (fun k_ h_=>h_)) (zaB (w:=w) (g:=g) (row:=none) (G.cK HK.out)));replace HK:=G.kt HK hk;replace HB:=G.m (hb);replace am:=G.m (hi);(try clear hb hk hi aG))|((with_reducible refine G.h 4 rfl ?_);refine G.be 4 #[.int .i64 0,.slice none 0 0] 31 ?_;intro ae hg gR hbox hb;have n0:=G.rb af hb;have n1:=G.m (zab.below (zcg) hb);have n2:=G.bb aa hb;have n3:=G.kb HK hb;have n4:=G.m (zao (zcW HB.out) hb);have n5:=G.m (hbox);have n6:=G.m (ze8:w.heap.size<=ae);have n7:=G.m (Nat.le_trans br.out (ze8:w.heap.size<=ae):w0.heap.size<=ae);have n8:=G.m (zmT:ab≠ae);have n9:=G.m (zl2:ae≠ab);have bx:=G.m (zm1:g≠ae);have bz:=G.m (zmi:ae≠g);clear af am aa HK HB;revert n0 n1 n2 n3 n4 n5 n6 n7 n8 n9 bx bz;intro af am aa HK HB ah bI bJ az aE aT av;clear hb hbox hg;have lp:=aE.out;have lr:=az.out;have ls:=av.out;have lu:=aT.out;have⟨i_,ja,jb,jc⟩:=G.d2 (w:=gR) ah;obtain⟨aJ,aH,g9⟩:=zau af.out;subst g9)|((with_reducible refine G.f 22 rfl ?_);refine G.gL 14 Try.func22 #[.agg #[.int .i64 ak,.slice aJ ag.length aH]] ?_;(with_reducible refine(zaq.calls k ak _ _ ag ac bV _ ?side1 ?side2 A3.out).mono ?_);(case side1=>refine(zaf (e:=59) (base:=w.heap.size) (ok:=fun k_=>((w.heap.size<=k_)/\True)) (n:=ag.length) (c:=aH) ?_).2.2;exact(zph));(case side2=>exact(zaf af.out).2.1);rintro e mX ⟨ck,rfl,aG,hb⟩;refine⟨_,rfl,?_⟩;have aj:=G.m (zdy (zbh (ok':=fun k_=>(w.heap.size<=k_)/\some k_≠(.slice aJ ag.length aH:Value).ownBlock/\k_≠ab/\k_≠ae/\k_≠g) (Kd.S_N (zej aG)) (fun k_ hk_=>⟨(Nat.le_trans (zaB (w:=w) (g:=g) (row:=none) (G.cK HK.out)) hk_.2.1),(Kd.fresh' (zb0 (zph)) k_ hk_.2.1),(zb2 (g:=ab) (o:=.cells #[.int .i64 0,.slice none 0 0] 31 (0,0)) (ziG) k_ hk_.2.1),(zb2 (g:=ae) (o:=.cells #[.int .i64 ak,.slice aJ ag.length aH] 31 (0,0)) (zik) k_ hk_.2.1),(zab.fresh (zcg) k_ hk_.2.1)⟩)) (zaB (w:=w) (g:=g) (row:=none) (G.cK HK.out)));replace af:=G.m (zcX (zph) hb);replace aa:=G.m (zbE (g:=ab) (o:=.cells #[.int .i64 0,.slice none 0 0] 31 (0,0)) (ziG) hb);replace ah:=G.m (zbE (g:=ae) (o:=.cells #[.int .i64 ak,.slice aJ ag.length aH] 31 (0,0)) (zik) hb);replace HK:=G.kb HK hb;replace HB:=G.m (zao (zcW HB.out) hb);replace am:=G.m (zab.below (show zab w0 ((gR.setCell ⟨ae,0,none⟩ (.int .i64 ak)).setCell ⟨ae,1,none⟩ (.slice aJ ag.length aH)) g ao aC from zcg) hb);(try clear hb aG);obtain⟨bv,bm,g_⟩:=zd1 aj.out;subst g_)|((with_reducible refine G.f 104 rfl ?_);refine G.gL 26 Try.func104 #[.pointer (some ⟨g,0,none⟩),.int .i64 (ac.length:Int)] ?_;(with_reducible refine(zah.calls k g ao aC (ac.length:Int) ai a3 w0 _ ?side1 ?side2 cO.out).mono ?_);(case side1=>exact zcg);(case side2=>exact zcW HB.out);rintro e mY ⟨rfl,hi,hb,hk⟩;refine⟨_,rfl,?_⟩;replace aa:=G.kk aa au hk;replace af:=G.m (zam (zbu (zab.apart (show zab w0 _ g ao aC from zcg) (G.cR af.out) (zcr)) hk (fun _ h=>h.2)) (fun _ h=>h.1));replace ah:=G.kk ah av hk;replace aj:=G.m (zbh (zeB (zbh (ok:=fun k_=>(((w.heap.size<=k_))/\(some k_≠(.slice aJ ag.length aH:Value).ownBlock/\(k_≠ab/\(k_≠ae/\k_≠g))))) (zgh) (fun k_ hk_=>(⟨hk_,hk_.2.2.2.2⟩:_/\k_≠g))) hk (fun _ h=>h.2)) (fun _ h=>h.1));replace HK:=G.kt HK hk;replace HB:=G.m (hb);replace am:=G.m (hi);(try clear hb hk hi))|((with_reducible refine G.f 104 rfl ?_);refine G.gL 28 Try.func104 #[.pointer (some ⟨g,0,none⟩),.int .i64 8] ?_;(with_reducible refine(zah.calls k g ao a3 8 aB aK w0 _ ?side1 ?side2 cP.out).mono ?_);(case side1=>exact zcg);(case side2=>exact zcW HB.out);rintro e ke ⟨rfl,hi,hb,hk⟩;refine⟨_,rfl,?_⟩;replace aa:=G.kk aa au hk;replace af:=G.m (zam (zbu (zab.apart (show zab w0 _ g ao a3 from zcg) (G.cR af.out) (zcr)) hk (fun _ h=>h.2)) (fun _ h=>h.1));replace ah:=G.kk ah av hk;replace aj:=G.m (zbh (zeB (zbh (ok:=fun k_=>(((w.heap.size<=k_))/\(some k_≠(.slice aJ ag.length aH:Value).ownBlock/\(k_≠ab/\(k_≠ae/\k_≠g))))) (zgh) (fun k_ hk_=>(⟨hk_,hk_.2.2.2.2⟩:_/\k_≠g))) hk (fun _ h=>h.2)) (fun _ h=>h.1));replace HK:=G.kt HK hk;replace HB:=G.m (hb);replace am:=G.m (hi);(try clear hb hk hi)))
   replace af:=G.m (zat af.out);replace aj:=G.m (zbP aj.out);replace aa:=G.m (zan aa.out);replace ah:=G.m (zan ah.out);replace am:=G.m (zab.drew am.out);replace HK:=G.m (zb3 HK.out);replace HB:=G.m (zas HB.out);have fy:(ai:Int)<=((ac.length:Int):Int):=G.da;obtain⟨mh,eN,_,gu,_⟩:=info_parts zgb;have de:ac.length<=bm:=(zbp aj.out).2.1;have fz:Kd.F (Kd.slice 3 (Kd.int .i64)) _ _ bv ac.length ac:=(zmm (base:=w.heap.size) (Kd.N_V aj.out)).2.2;have fA:=zoi (P:=Try.prog) 25 45 .i64 Try.underlying25 eN bv ac.length bm ai G.da fy de;have en:=zoj (m:=(ai:Int).toNat) fz (by omega);have eo:aI.length=(ai:Int).toNat:=(by rw[eJ.out,List.length_take];omega);rw[←eJ.out]at en;rw[←eo]at fA;have bh:=G.m (show Kd.V (Kd.slice 3 (Kd.int .i64)) 45 _ w.heap.size _ (.slice bv aI.length bm) aI from zhN (by omega) en);have lv:=G.m (show aI.length<=bm from by omega);clear en fz de eN gu;have mi:=G.m eo;clear eo;replace fy:=eq_true fy;have fB:((a5):Int)<=((ac.length:Int):Int):=G.da;obtain⟨mj,eO,_,eP,_⟩:=info_parts zgb;have bK:ac.length<=bm:=(zbp aj.out).2.1;have fC:Kd.F (Kd.slice 3 (Kd.int .i64)) _ _ bv ac.length ac:=(zmm (base:=w.heap.size) (Kd.N_V aj.out)).2.2;have hD:(0:Int)<=((a5):Int):=G.da;have fD:=zfE (P:=Try.prog) 25 45 .i64 Try.underlying25 eO 1 eP bv ac.length bm (a5) hD fB;have cQ:=znO (m:=((a5):Int).toNat) (c:=bm) fC (by omega) bK;obtain⟨gS,dv⟩:∃A1,A1=(if bm=((a5):Int).toNat then bv else(bv:Option Addr).map (·.add (((a5):Int).toNat*1))):=⟨_,rfl⟩;obtain⟨gT,dw⟩:∃c1,c1=bm - ((a5):Int).toNat:=⟨_,rfl⟩;have cS:ax.length=ac.length - ((a5):Int).toNat:=(by rw[eL.out,List.length_drop]<;>omega);rw[show(ac).drop ((a5):Int).toNat=ax from eL.out.symm]at cQ;replace cQ:Kd.F (Kd.slice 3 (Kd.int .i64)) _ _ gS ax.length ax:=(by rw[dv];exact cQ);rw[←cS,←dv,←dw]at fD;have bj:=G.m (show Kd.V (Kd.slice 3 (Kd.int .i64)) 45 _ w.heap.size _ (.slice gS ax.length gT) ax from zhN (by rw[cS,dw];exact Nat.sub_le_sub_right bK _) cQ);have lw:=G.m (show ax.length<=gT from by rw[cS,dw];exact Nat.sub_le_sub_right bK _);clear cQ fC bK eO eP dw;have ml:=G.m cS;have mm:=G.m dv;clear cS dv;replace fB:=eq_true fB;refine G.st 11 (S:=fun w'=>True) [] trivial za0.zlx za0.zhv (fun hHeld HT_ HW_=>?_);generalize ke.drew=kf at af aj aa ah am HK HB bh bj hHeld⊢;refine G.pu 1 32 2 ?_;refine G.pu 2 33 6 ?_;refine G.pu 3 34 14 ?_;refine G.pu 5 36 46 ?_;refine G.pu 6 37 110 ?_;refine G.pu 7 38 238 ?_;refine G.pu 8 39 494 ?_;refine G.on 0 31 495 (fun K hK=>?_);refine ziT (Kd.slice 3 (Kd.int .i64)) _ 45 ?hg (N':=31) ?hd (xs:=([]:List (List Int))) (inner:=[]) (ok:=(fun k_=>(w.heap.size<=k_)/\some k_≠(.slice aJ ag.length aH:Value).ownBlock/\some k_≠(.slice bv ac.length bm:Value).ownBlock/\k_≠ab/\k_≠ae/\k_≠g)) (okp:=(fun k_=>(w.heap.size<=k_)/\some k_≠(.slice aJ ag.length aH:Value).ownBlock/\some k_≠(.slice bv ac.length bm:Value).ownBlock/\k_≠ab/\k_≠ae/\k_≠g)) ?hr ?hp (fun _ hk=>hk) ((show∀k_,kf.heap.size<=k_->(fun k_=>(w.heap.size<=k_)/\some k_≠(.slice aJ ag.length aH:Value).ownBlock/\some k_≠(.slice bv ac.length bm:Value).ownBlock/\k_≠ab/\k_≠ae/\k_≠g) k_ from fun k_ hk=>⟨(Nat.le_trans (zaB (w:=w) (g:=g) (row:=none) (G.cK HK.out)) hk),Kd.fresh' (zb0 (G.cR af.out)) k_ hk,Kd.fresh' (znH (zgh)) k_ hk,zb2 (g:=ab) (o:=.cells #[.int .i64 0,.slice none 0 0] 31 (0,0)) (G.cb aa.out) k_ hk,zb2 (g:=ae) (o:=.cells #[.int .i64 ak,.slice aJ ag.length aH] 31 (0,0)) (G.cb ah.out) k_ hk,zab.fresh (zcg) k_ hk⟩) _ (Nat.le_refl _)) (Below.refl _ _) (Nat.le_refl _) (by simp) ?_;(case hd=>rfl);(case hg=>rfl);(case hr=>first|(go_simp;done)|(go_simp;rfl));(case hp=>exact(zbK.none _ _))
   intro ep mZ bE hb hg_ hnew_;clear hg_ hnew_;(first|rw[←eI.out]at bE|(simp only[Int.reduceToNat]at bE;rw[←eI.out]at bE));replace af:=G.rb af hb;replace aj:=G.m (zcN (zgh) (zhu bE) hb);replace bh:=G.m (zeZ (G.cV bh.out) (zhu bE) hb);replace bj:=G.m (zeZ (G.cV bj.out) (zhu bE) hb);have bA:=G.m (zdy bE (zaB (w:=w) (g:=g) (row:=none) (G.cK HK.out)));replace aa:=G.bb aa hb;replace ah:=G.bb ah hb;replace HK:=G.kb HK hb;replace HB:=G.m (zao (zcW HB.out) hb);replace am:=G.m (zab.below (zcg) hb);clear hb bE;refine hK.out _ _ trivial (fun hHeld=>?_);clear hK K;refine G.no 31 ?_;refine G.on 4 35 511 (fun K hK=>?_);refine zdF (Kd.slice 3 (Kd.int .i64)) w.heap.size (by rfl) (.tmp 31) (.tmp 34) 25 45 (.slice none 0 0) 24 rfl Try.underlying25 zgb rfl (zcr) (by omega) ep aU aI _ _ _ (fun k_=>(w.heap.size<=k_)/\some k_≠(.slice aJ ag.length aH:Value).ownBlock/\k_≠ab/\k_≠ae/\k_≠g) (fun k_=>((fun k_=>(w.heap.size<=k_)/\some k_≠(.slice aJ ag.length aH:Value).ownBlock/\k_≠ab/\k_≠ae/\k_≠g)) k_/\some k_≠(ep:Value).ownBlock) rfl rfl ?aO ?aR (fun _ hk=>hk) ?aF (Below.refl _ _) ?aS ?aL ?_;(case aR=>exact(by skip;exact Kd.V_F (zc3 (ok':=(fun k_=>((fun k_=>(w.heap.size<=k_)/\some k_≠(.slice aJ ag.length aH:Value).ownBlock/\k_≠ab/\k_≠ae/\k_≠g)) k_/\some k_≠(ep:Value).ownBlock)) (bh.out) (fun k_ hk=>⟨⟨hk.1.1,⟨hk.1.2.1,⟨hk.1.2.2.1,⟨hk.1.2.2.2.1,hk.1.2.2.2.2⟩⟩⟩⟩,hk.2⟩))));(case aF=>exact(fun k_ hk=>⟨(Nat.le_trans (zaB (w:=w) (g:=g) (row:=none) (G.cK HK.out)) hk),Kd.fresh' (zb0 (G.cR af.out)) k_ hk,zb2 (g:=ab) (o:=.cells #[.int .i64 0,.slice none 0 0] 31 (0,0)) (G.cb aa.out) k_ hk,zb2 (g:=ae) (o:=.cells #[.int .i64 ak,.slice aJ ag.length aH] 31 (0,0)) (G.cb ah.out) k_ hk,zab.fresh (zcg) k_ hk⟩));(case aO=>exact(by(with_reducible repeat(first|apply zbA|apply zbz|apply zbP));exact zbh bA.out (fun _ hk=>⟨hk.1,⟨hk.2.1,⟨hk.2.2.2.1,⟨hk.2.2.2.2.1,hk.2.2.2.2.2⟩⟩⟩⟩)));(case aS=>exact(zaB (w:=w) (g:=g) (row:=none) (G.cK HK.out)));(case aL=>have:=gp.out;omega);intro eq m0 ho hb hg hat;rw[←gq.out]at ho;have n0:=G.m (zab.grown (zcg) hg (zab.zef am.out bA.out (zcr)));have n1:=G.bg aa hg (zi9 bA.out aa.out (zcr));have n2:=G.m (zbC (G.cR af.out) (zcx (by(with_reducible repeat(first|apply zbA|apply zbz|apply zbP));exact bA.out)) (zcr) hg);have n3:=G.bg ah hg (zi9 bA.out ah.out (zcr));have n4:=G.m (zcY (ok:=(fun k_=>(w.heap.size<=k_)/\some k_≠(.slice aJ ag.length aH:Value).ownBlock/\k_≠ab/\k_≠ae/\k_≠g)) (zgh) hg hat);have n5:=G.m (zcz (ok:=(fun k_=>(w.heap.size<=k_)/\some k_≠(.slice aJ ag.length aH:Value).ownBlock/\k_≠ab/\k_≠ae/\k_≠g)) (G.cV bh.out) hg hat);have n6:=G.m (zcz (ok:=(fun k_=>(w.heap.size<=k_)/\some k_≠(.slice aJ ag.length aH:Value).ownBlock/\k_≠ab/\k_≠ae/\k_≠g)) (G.cV bj.out) hg hat);have n7:=G.m (zct (zcW HB.out) HL.out hb);have n8:=G.m (zaz.trans (G.cK HK.out) (zaz.zcO hg g) (zf2 bA.out));have n9:=G.m (ho);clear am aa af ah aj bh bj HB HK bA;revert n0 n1 n2 n3 n4 n5 n6 n7 n8 n9;intro am aa af ah aj bh bj HB HK bB;clear ho hb hg hat;refine hK.out _ _ trivial (fun hHeld=>?_);clear hK K;refine G.no 35 ?_;refine G.on 9 40 1023 (fun K hK=>?_)
   refine zdF (Kd.slice 3 (Kd.int .i64)) w.heap.size (by rfl) (.tmp 35) (.tmp 39) 25 45 (.slice none 0 0) 24 rfl Try.underlying25 zgb rfl (zcr) (by omega) eq aD ax _ _ _ (fun k_=>(w.heap.size<=k_)/\some k_≠(.slice aJ ag.length aH:Value).ownBlock/\k_≠ab/\k_≠ae/\k_≠g) (fun k_=>((fun k_=>(w.heap.size<=k_)/\some k_≠(.slice aJ ag.length aH:Value).ownBlock/\k_≠ab/\k_≠ae/\k_≠g)) k_/\some k_≠(eq:Value).ownBlock) rfl rfl ?aO ?aR (fun _ hk=>hk) ?aF (Below.refl _ _) ?aS ?aL ?_;(case aR=>exact(by skip;exact Kd.V_F (zc3 (ok':=(fun k_=>((fun k_=>(w.heap.size<=k_)/\some k_≠(.slice aJ ag.length aH:Value).ownBlock/\k_≠ab/\k_≠ae/\k_≠g)) k_/\some k_≠(eq:Value).ownBlock)) (bj.out) (fun k_ hk=>⟨⟨hk.1.1,⟨hk.1.2.1,⟨hk.1.2.2.1,⟨hk.1.2.2.2.1,hk.1.2.2.2.2⟩⟩⟩⟩,hk.2⟩))));(case aF=>exact(fun k_ hk=>⟨(Nat.le_trans (zaB (w:=w) (g:=g) (row:=none) (G.cK HK.out)) hk),Kd.fresh' (zb0 (G.cR af.out)) k_ hk,zb2 (g:=ab) (o:=.cells #[.int .i64 0,.slice none 0 0] 31 (0,0)) (G.cb aa.out) k_ hk,zb2 (g:=ae) (o:=.cells #[.int .i64 ak,.slice aJ ag.length aH] 31 (0,0)) (G.cb ah.out) k_ hk,zab.fresh (zcg) k_ hk⟩));(case aO=>exact(by(with_reducible repeat(first|apply zbA|apply zbz|apply zbP));exact bB.out));(case aS=>exact(zaB (w:=w) (g:=g) (row:=none) (G.cK HK.out)));(case aL=>have:=gr.out;omega);intro mo gU ho hb hg hat;rw[←gt.out]at ho;have n0:=G.m (zab.grown (zcg) hg (zab.zef am.out bB.out (zcr)));have n1:=G.bg aa hg (zi9 bB.out aa.out (zcr));have n2:=G.m (zbC (G.cR af.out) (zcx (by(with_reducible repeat(first|apply zbA|apply zbz|apply zbP));exact bB.out)) (zcr) hg);have n3:=G.bg ah hg (zi9 bB.out ah.out (zcr));have n4:=G.m (zcY (ok:=(fun k_=>(w.heap.size<=k_)/\some k_≠(.slice aJ ag.length aH:Value).ownBlock/\k_≠ab/\k_≠ae/\k_≠g)) (zgh) hg hat);have n5:=G.m (zcz (ok:=(fun k_=>(w.heap.size<=k_)/\some k_≠(.slice aJ ag.length aH:Value).ownBlock/\k_≠ab/\k_≠ae/\k_≠g)) (G.cV bh.out) hg hat);have n6:=G.m (zcz (ok:=(fun k_=>(w.heap.size<=k_)/\some k_≠(.slice aJ ag.length aH:Value).ownBlock/\k_≠ab/\k_≠ae/\k_≠g)) (G.cV bj.out) hg hat);have n7:=G.m (zct (zcW HB.out) HL.out hb);have n8:=G.m (zaz.trans (G.cK HK.out) (zaz.zcO hg g) (zf2 bB.out));have n9:=G.m (ho);clear am aa af ah aj bh bj HB HK bB;revert n0 n1 n2 n3 n4 n5 n6 n7 n8 n9;intro am aa af ah aj bh bj HB HK gv;clear ho hb hg hat;refine hK.out _ _ trivial (fun hHeld=>?_);clear hK K;refine G.no 40 ?_;refine G.pu 10 5 2047 ?_;refine zbO (zbb HT_.out (zkK)) ?_;have⟨jd,je,jf,jg⟩:=G.d2 (w:=gU) ah;have lx:=au.out;have ly:=aW.out;have⟨jh,ji,jj,jk⟩:=G.d2 (w:=gU) aa;try go_wp2
   refine bodyPost_ret (zbM rfl _ _ ab 31 #[.int .i64 ak,.slice aJ ag.length aH] (0,0) _ rfl (zmg) Try.underlying31 rfl (zkK)) rfl ?_;exact⟨_,_,by first|rfl|(simp[za1,za2]<;>rfl)|(simp only[←bu];first|rfl|(simp[za1,za2]<;>rfl))|(simp[*,za1,za2]<;>rfl),by(with_reducible repeat(first|apply zav|apply zaw|apply zat));exact zam (zaP (p:=⟨ab,1,none⟩) (zaP (p:=⟨ab,0,none⟩) (zaH af.out aa.out (zcr)) (fun _ hk=>hk.2) (.int .i64 ak)) (fun _ hk=>hk.2) (.slice aJ ag.length aH)) (fun _ hk=>hk.1.1),by(with_reducible repeat(first|apply zbA|apply zbz|apply zbP));exact zbh (zdo (p:=⟨ab,1,none⟩) (zdo (p:=⟨ab,0,none⟩) (zbh gv.out (fun k_ hk=>(⟨hk,hk.2.2.1⟩:_/\k_≠ab))) (fun _ hk=>hk.2) (.int .i64 ak)) (fun _ hk=>hk.2) (.slice aJ ag.length aH)) (fun _ hk=>⟨hk.1.1,hk.1.2.1⟩),zcg,zcW HB.out,G.cK HK.out⟩
  ·rw[if_neg cE]at H;have eG:=beq_eq_false_iff_ne.mpr cE;have eH:=bne_iff_ne.mpr cE
   by_cases cF:aB=1
   ·rw[if_pos cF]at H;have eQ:=beq_iff_eq.mpr cF;have eR:=bne_eq_false_iff_eq.mpr cF;clear cF
    obtain⟨lz,H⟩:=G.dp H
    obtain⟨lA,H⟩:=G.dp H
    obtain⟨d9,H⟩:=G.ip H;have lB:=eq_true d9;have lC:=decide_eq_true d9;clear d9;obtain⟨bn,b6⟩:∃y_:List Int,y_=((zax ac ai).drop 1):=⟨_,rfl⟩;replace H:(some (ak,ag,(ac.set (ai:Int).toNat bn),aK))=some (r1,r2,r3,r4):=G.y0 b6 H
    have eU:=G.m b6;clear b6;obtain⟨fE,b7⟩:∃y_:List (List Int),y_=(ac.set (ai:Int).toNat bn):=⟨_,rfl⟩;replace H:(some (ak,ag,fE,aK))=some (r1,r2,r3,r4):=G.y0 b7 H
    have gw:=G.m b7;clear b7;simp only[Option.some.injEq,Prod.mk.injEq]at H;obtain⟨rfl,rfl,rfl,rfl⟩:=H
    go_enter Try.func71,Try.ntmps71
    go_wp2_with (first|((with_reducible refine G.h 2 rfl ?_);refine G.be 2 #[.int .i64 0,.slice none 0 0] 31 ?_;intro ab hg m1 hbox hb;replace HB:=G.m (zao (zcW HB.out) hb);have aa:=G.m (hbox);have bG:=G.m (ze8:w.heap.size<=ab);have bH:=G.m (Nat.le_trans br.out (ze8:w.heap.size<=ab):w0.heap.size<=ab);replace HK:=G.kb HK hb;have aW:=G.m (zmn:g≠ab);have au:=G.m (zmZ:ab≠g);replace am:=G.m (zab.below (zcg) hb);clear hb hbox hg)|((with_reducible refine G.f 73 rfl ?_);refine G.gL 11 Try.func73 #[.pointer (some ⟨g,0,none⟩)] ?_;(with_reducible refine(zar.calls k g ao bf ak ag aC w0 _ ?side1 ?side2 A2.out).mono ?_);(case side1=>exact zcg);(case side2=>exact zcW HB.out);rintro e m2 ⟨cj,rfl,aG,hi,hb,hk⟩;refine⟨_,rfl,?_⟩;replace aa:=G.kk aa au hk;have af:=G.m (zaI (zek (M:=fun k_=>(w.heap.size<=k_)) aG (zaB (w:=w) (g:=g) (row:=none) (G.cK HK.out)) (fun k_ h_=>h_)) (zaB (w:=w) (g:=g) (row:=none) (G.cK HK.out)));replace HK:=G.kt HK hk;replace HB:=G.m (hb);replace am:=G.m (hi);(try clear hb hk hi aG))|((with_reducible refine G.h 4 rfl ?_);refine G.be 4 #[.int .i64 0,.slice none 0 0] 31 ?_;intro ae hg gV hbox hb;have n0:=G.rb af hb;have n1:=G.m (zab.below (zcg) hb);have n2:=G.bb aa hb;have n3:=G.kb HK hb;have n4:=G.m (zao (zcW HB.out) hb);have n5:=G.m (hbox);have n6:=G.m (ze8:w.heap.size<=ae);have n7:=G.m (Nat.le_trans br.out (ze8:w.heap.size<=ae):w0.heap.size<=ae);have n8:=G.m (zmT:ab≠ae);have n9:=G.m (zl2:ae≠ab);have bx:=G.m (zm1:g≠ae);have bz:=G.m (zmi:ae≠g);clear af am aa HK HB;revert n0 n1 n2 n3 n4 n5 n6 n7 n8 n9 bx bz;intro af am aa HK HB ah bI bJ az aE aT av;clear hb hbox hg;have lD:=aE.out;have lE:=az.out;have lF:=av.out;have lG:=aT.out;have⟨jl,jm,jn,jo⟩:=G.d2 (w:=gV) ah;obtain⟨a7,a4,hJ⟩:=zau af.out;subst hJ)|((with_reducible refine G.f 22 rfl ?_);refine G.gL 14 Try.func22 #[.agg #[.int .i64 ak,.slice a7 ag.length a4]] ?_;(with_reducible refine(zaq.calls k ak _ _ ag ac bV _ ?side1 ?side2 A3.out).mono ?_);(case side1=>refine(zaf (e:=59) (base:=w.heap.size) (ok:=fun k_=>((w.heap.size<=k_)/\True)) (n:=ag.length) (c:=a4) ?_).2.2;exact(zpu));(case side2=>exact(zaf af.out).2.1);rintro e m3 ⟨ck,rfl,aG,hb⟩;refine⟨_,rfl,?_⟩;have aj:=G.m (zdy (zbh (ok':=fun k_=>(w.heap.size<=k_)/\some k_≠(.slice a7 ag.length a4:Value).ownBlock/\k_≠ab/\k_≠ae/\k_≠g) (Kd.S_N (zej aG)) (fun k_ hk_=>⟨(Nat.le_trans (zaB (w:=w) (g:=g) (row:=none) (G.cK HK.out)) hk_.2.1),(Kd.fresh' (zb0 (zpu)) k_ hk_.2.1),(zb2 (g:=ab) (o:=.cells #[.int .i64 0,.slice none 0 0] 31 (0,0)) (ziG) k_ hk_.2.1),(zb2 (g:=ae) (o:=.cells #[.int .i64 ak,.slice a7 ag.length a4] 31 (0,0)) (zik) k_ hk_.2.1),(zab.fresh (zcg) k_ hk_.2.1)⟩)) (zaB (w:=w) (g:=g) (row:=none) (G.cK HK.out)));replace af:=G.m (zcX (zpu) hb);replace aa:=G.m (zbE (g:=ab) (o:=.cells #[.int .i64 0,.slice none 0 0] 31 (0,0)) (ziG) hb);replace ah:=G.m (zbE (g:=ae) (o:=.cells #[.int .i64 ak,.slice a7 ag.length a4] 31 (0,0)) (zik) hb);replace HK:=G.kb HK hb;replace HB:=G.m (zao (zcW HB.out) hb);replace am:=G.m (zab.below (show zab w0 ((gV.setCell ⟨ae,0,none⟩ (.int .i64 ak)).setCell ⟨ae,1,none⟩ (.slice a7 ag.length a4)) g ao aC from zcg) hb);(try clear hb aG);obtain⟨mq,bW,hU⟩:=zd1 aj.out;subst hU)|((with_reducible refine G.f 104 rfl ?_);refine G.gL 26 Try.func104 #[.pointer (some ⟨g,0,none⟩),.int .i64 (ac.length:Int)] ?_;(with_reducible refine(zah.calls k g ao aC (ac.length:Int) ai a3 w0 _ ?side1 ?side2 cO.out).mono ?_);(case side1=>exact zcg);(case side2=>exact zcW HB.out);rintro e m4 ⟨rfl,hi,hb,hk⟩;refine⟨_,rfl,?_⟩;replace aa:=G.kk aa au hk;replace af:=G.m (zam (zbu (zab.apart (show zab w0 _ g ao aC from zcg) (G.cR af.out) (zcr)) hk (fun _ h=>h.2)) (fun _ h=>h.1));replace ah:=G.kk ah av hk;replace aj:=G.m (zbh (zeB (zbh (ok:=fun k_=>(((w.heap.size<=k_))/\(some k_≠(.slice a7 ag.length a4:Value).ownBlock/\(k_≠ab/\(k_≠ae/\k_≠g))))) (zgh) (fun k_ hk_=>(⟨hk_,hk_.2.2.2.2⟩:_/\k_≠g))) hk (fun _ h=>h.2)) (fun _ h=>h.1));replace HK:=G.kt HK hk;replace HB:=G.m (hb);replace am:=G.m (hi);(try clear hb hk hi))|((with_reducible refine G.f 104 rfl ?_);refine G.gL 28 Try.func104 #[.pointer (some ⟨g,0,none⟩),.int .i64 8] ?_;(with_reducible refine(zah.calls k g ao a3 8 aB aK w0 _ ?side1 ?side2 cP.out).mono ?_);(case side1=>exact zcg);(case side2=>exact zcW HB.out);rintro e fF ⟨rfl,hi,hb,hk⟩;refine⟨_,rfl,?_⟩;replace aa:=G.kk aa au hk;replace af:=G.m (zam (zbu (zab.apart (show zab w0 _ g ao a3 from zcg) (G.cR af.out) (zcr)) hk (fun _ h=>h.2)) (fun _ h=>h.1));replace ah:=G.kk ah av hk;replace aj:=G.m (zbh (zeB (zbh (ok:=fun k_=>(((w.heap.size<=k_))/\(some k_≠(.slice a7 ag.length a4:Value).ownBlock/\(k_≠ab/\(k_≠ae/\k_≠g))))) (zgh) (fun k_ hk_=>(⟨hk_,hk_.2.2.2.2⟩:_/\k_≠g))) hk (fun _ h=>h.2)) (fun _ h=>h.1));replace HK:=G.kt HK hk;replace HB:=G.m (hb);replace am:=G.m (hi);(try clear hb hk hi);have dx:0<=(ai:Int):=G.da;have dy:ai<(ac.length:Int):=G.da;obtain⟨lH,b8,bF,hV,df,dg,dh⟩:=zcR (zbp aj.out).2.2 ai dx dy;cases hV;obtain⟨lI,fG,fH,d_⟩:=zfi aj.out [] ai dx (by first|exact dy|exact of_decide_eq_true (G.asm)|(have e_:=(zbp aj.out).1;omega));obtain⟨jp,jq,rfl,cn,co⟩:=zbv fH;have bL:=d_ 0 _ rfl;rw[Nat.add_zero,show((Kd.slice 3 (Kd.int .i64))).sz=1 from rfl,Nat.mul_one]at bL;replace bL:=Option.some.inj (bL.symm.trans df);injection bL with hva_ hvn_ hvc_;rw[hva_]at co;rw[hvc_]at cn;have bM:=G.m (show Kd.V (Kd.int .i64) 3 _ w.heap.size _ _ (zax ac ai) from zhN cn co);clear hva_ hvn_ hvc_ co cn;clear d_ fG;have jr:=G.m dh;have fk:=G.m dg;clear dh dg;replace dx:=eq_true dx;replace dy:=eq_true dy;have fI:(1:Int)<=(((zax ac ai).length:Int):Int):=G.da;obtain⟨mr,eV,_,eW,_⟩:=info_parts info3;have bN:(zax ac ai).length<=bF:=fk.out;have fJ:Kd.F (Kd.int .i64) _ _ b8 (zax ac ai).length (zax ac ai):=(zmm (base:=w.heap.size) bM.out).2.2;have fK:=zfE (P:=Try.prog) 45 3 .i64 Try.underlying45 eV 1 eW b8 (zax ac ai).length bF 1 (by omega) fI;have cT:=znO (m:=(1:Int).toNat) (c:=bF) fJ (by omega) bN;obtain⟨eX,dz⟩:∃A1,A1=(if bF=(1:Int).toNat then b8 else(b8:Option Addr).map (·.add ((1:Int).toNat*1))):=⟨_,rfl⟩;obtain⟨eY,dA⟩:∃c1,c1=bF - (1:Int).toNat:=⟨_,rfl⟩;have cU:bn.length=(zax ac ai).length - (1:Int).toNat:=(by rw[eU.out,List.length_drop]<;>omega);rw[show(zax ac ai).drop (1:Int).toNat=bn from eU.out.symm]at cT;replace cT:Kd.F (Kd.int .i64) _ _ eX bn.length bn:=(by rw[dz];exact cT);rw[←cU,←dz,←dA]at fK;have b9:=G.m (show Kd.V (Kd.int .i64) 3 _ w.heap.size _ (.slice eX bn.length eY) bn from zhN (by rw[cU,dA];exact Nat.sub_le_sub_right bN _) cT);have lJ:=G.m (show bn.length<=eY from by rw[cU,dA];exact Nat.sub_le_sub_right bN _);clear cT fJ bN eV eW dA;have ms:=G.m cU;have mt:=G.m dz;clear cU dz;replace fI:=eq_true fI;have fL:0<=(ai:Int):=G.da;have fM:(ai:Int)<((ac.length:Int):Int):=G.da;obtain⟨bp,mu,fN,fO,hX,mv,fP⟩:=zlQ aj.out (by omega);(first|cases fN|(injection fN with ea_ en_ ec_;(first|subst ea_|(injection ea_ with ea_;subst ea_));subst ec_;clear en_));have hY:=G.m fO;have mw:=G.m fP;clear fO hX fP;(first|simp only[add_plain]at df|skip);obtain⟨my,gx,fQ,eZ,e2⟩:=zhw aj.out [] (ai:Int) fL fM;obtain⟨kg,ki,rfl,kj,km⟩:=zbv fQ;have fR:=eZ 0 _ rfl;have fS:=e2 0;(try simp only[show((Kd.slice 3 (Kd.int .i64))).sz=1 from rfl,Nat.mul_one,Nat.add_zero]at fR);(try simp only[show((Kd.slice 3 (Kd.int .i64))).sz=1 from rfl,Nat.mul_one,Nat.add_zero]at fS);clear gx eZ e2;(try clear fQ);replace fL:=eq_true fL;replace fM:=eq_true fM;have fT:=G.m (show Kd.N (Kd.slice 3 (Kd.int .i64)) 45 fF w.heap.size (fun k_=>(w.heap.size<=k_)/\some k_≠(.slice a7 ag.length a4:Value).ownBlock/\k_≠ab/\k_≠ae/\k_≠g) (.slice (some ⟨bp,0,none⟩) ac.length bW) ac from(zgh));obtain⟨mz,e3,fU,dB,e4⟩:=zhw fT.out [] (ai:Int) G.da (by have h_:(ai:Int)<((ac.length:Int):Int):=G.da;first|exact h_|(have e_:=(zbp aj.out).1;omega)|simpa using h_);obtain⟨kn,ko,rfl,kp,kr⟩:=zbv fU;have cW:=zox fT.out (ai:Int) G.da (by have h_:(ai:Int)<((ac.length:Int):Int):=G.da;first|exact h_|(have e_:=(zbp aj.out).1;omega)|simpa using h_) (seg:=[.slice eX bn.length eY]) (j:=0) e3 dB (show 1<=1 from by decide) (x':=bn) (zdz (zkM (zc3 (ok':=(fun k_=>((fun k_=>(w.heap.size<=k_)/\some k_≠(.slice a7 ag.length a4:Value).ownBlock/\k_≠ab/\k_≠ae/\k_≠g)) k_/\k_≠bp)) (b9.out) (fun k_ hk=>⟨⟨hk.1.1,⟨hk.1.2.1,⟨hk.1.2.2.1,⟨hk.1.2.2.2.1,hk.1.2.2.2.2⟩⟩⟩⟩,fun e_=>(hk.2) (by rw[e_];rfl)⟩))).2.1 (Kd.V_F (zc3 (ok':=(fun k_=>((fun k_=>(w.heap.size<=k_)/\some k_≠(.slice a7 ag.length a4:Value).ownBlock/\k_≠ab/\k_≠ae/\k_≠g)) k_/\k_≠bp)) (b9.out) (fun k_ hk=>⟨⟨hk.1.1,⟨hk.1.2.1,⟨hk.1.2.2.1,⟨hk.1.2.2.2.1,hk.1.2.2.2.2⟩⟩⟩⟩,fun e_=>(hk.2) (by rw[e_];rfl)⟩)))) (fun _ hk=>hk);have fV:=dB 0 _ rfl;(try simp only[show((Kd.slice 3 (Kd.int .i64))).sz=1 from rfl,Nat.mul_one,Nat.add_zero]at fV);have fW:=e4 0;(try simp only[show((Kd.slice 3 (Kd.int .i64))).sz=1 from rfl,Nat.mul_one,Nat.add_zero]at fW);clear e3 dB e4;(try clear fU);(try simp only[show((Kd.slice 3 (Kd.int .i64))).sz=1 from rfl,Nat.mul_one,Nat.add_zero]at cW);(try simp only[show((Kd.slice 3 (Kd.int .i64))).sz=1 from rfl,Nat.mul_one,Nat.add_zero]at cW))|((with_reducible refine zcw (t:=45) (p:=50) rfl ?_);refine zcl (t:=45) (p:=50) (v:= ?vo_w71) (w1:=(fF.setCell ⟨bp,(ai:Int).toNat,none⟩ (.slice eX bn.length eY))) ?hg ?ho ?hn ?hr ?_;(case ho=>rfl);(case hg=>rfl);(case hn=>rfl);(case hr=>first|(go_simp;done)|(go_simp;rfl));intro ea hw;have hg:fF.grownBy ea (some bp):=(by rw[hw];exact cW.2);have hp_:Kd.N (Kd.slice 3 (Kd.int .i64)) 45 ea w.heap.size (fun k_=>(w.heap.size<=k_)/\some k_≠(.slice a7 ag.length a4:Value).ownBlock/\k_≠ab/\k_≠ae/\k_≠g) (.slice (some ⟨bp,0,none⟩) ac.length bW) fE:=(by rw[hw,gw.out];exact cW.1);clear cW;replace am:=G.m (zab.grown (zcg) hg (zab.zef am.out aj.out (zcr)));replace aa:=G.bg aa hg (zi9 aj.out aa.out (zcr));replace af:=G.m (zbC (v:=(.slice (some ⟨bp,0,none⟩) ac.length bW)) (G.cR af.out) (zcx aj.out) (zcr) hg);replace ah:=G.bg ah hg (zi9 aj.out ah.out (zcr));replace bM:=G.m (zcz (v:=(.slice (some ⟨bp,0,none⟩) ac.length bW)) (v1:=(.slice (some ⟨bp,0,none⟩) ac.length bW)) (ok:=(fun k_=>(w.heap.size<=k_)/\some k_≠(.slice a7 ag.length a4:Value).ownBlock/\k_≠ab/\k_≠ae/\k_≠g)) (G.cV bM.out) hg (.inl rfl));replace b9:=G.m (zcz (v:=(.slice (some ⟨bp,0,none⟩) ac.length bW)) (v1:=(.slice (some ⟨bp,0,none⟩) ac.length bW)) (ok:=(fun k_=>(w.heap.size<=k_)/\some k_≠(.slice a7 ag.length a4:Value).ownBlock/\k_≠ab/\k_≠ae/\k_≠g)) (G.cV b9.out) hg (.inl rfl));replace HB:=G.m ((by rw[hw];exact zbn (HB.out) (Nat.le_trans HL.out hY.out):Below w0.heap.size w0 ea));replace HK:=G.m (zaz.trans (G.cK HK.out) (zaz.zcO hg g) (zf2 aj.out));replace aj:=G.m (hp_);clear hg hw hp_;have⟨js,jt,ju,jv⟩:=G.d2 (w:=ea) ah;have lK:=au.out;have lL:=aW.out;have⟨jw,jx,jy,jz⟩:=G.d2 (w:=ea) aa))
    refine bodyPost_ret (zbM rfl _ _ ab 31 #[.int .i64 ak,.slice a7 ag.length a4] (0,0) _ rfl (zmg) Try.underlying31 rfl (zkK)) rfl ?_;exact⟨_,_,G.er,by(with_reducible repeat(first|apply zav|apply zaw|apply zat));exact zam (zaP (p:=⟨ab,1,none⟩) (zaP (p:=⟨ab,0,none⟩) (zaH af.out aa.out (zcr)) (fun _ hk=>hk.2) (.int .i64 ak)) (fun _ hk=>hk.2) (.slice a7 ag.length a4)) (fun _ hk=>hk.1.1),by(with_reducible repeat(first|apply zbA|apply zbz|apply zbP));exact zbh (zdo (p:=⟨ab,1,none⟩) (zdo (p:=⟨ab,0,none⟩) (zbh aj.out (fun k_ hk=>(⟨hk,hk.2.2.1⟩:_/\k_≠ab))) (fun _ hk=>hk.2) (.int .i64 ak)) (fun _ hk=>hk.2) (.slice a7 ag.length a4)) (fun _ hk=>⟨hk.1.1,hk.1.2.1⟩),zcg,zcW HB.out,G.cK HK.out⟩
   ·rw[if_neg cF]at H;have eQ:=beq_eq_false_iff_ne.mpr cF;have eR:=bne_iff_ne.mpr cF
    by_cases cG:aB=2
    ·rw[if_pos cG]at H;have e5:=beq_iff_eq.mpr cG;have e6:=bne_eq_false_iff_eq.mpr cG;clear cG;obtain⟨dC,b_⟩:∃y_:List Int,y_=(([0,1]:List Int)):=⟨_,rfl⟩;replace H:(if ac.length<5864062014805 then(some (ak,ag,(ac++[dC]),aK)) else(none))=some (r1,r2,r3,r4):=G.y0 b_ H
     have e7:=G.m b_;clear b_
     obtain⟨e8,H⟩:=G.ip H;have gy:=G.m e8;clear e8;obtain⟨hZ,ca⟩:∃y_:List (List Int),y_=(ac++[dC]):=⟨_,rfl⟩;replace H:(some (ak,ag,hZ,aK))=some (r1,r2,r3,r4):=G.y0 ca H
     have gz:=G.m ca;clear ca;simp only[Option.some.injEq,Prod.mk.injEq]at H;obtain⟨rfl,rfl,rfl,rfl⟩:=H
     go_enter Try.func71,Try.ntmps71
     go_wp2_with (first|((with_reducible refine G.h 2 rfl ?_);refine G.be 2 #[.int .i64 0,.slice none 0 0] 31 ?_;intro ab hg m5 hbox hb;replace HB:=G.m (zao (zcW HB.out) hb);have aa:=G.m (hbox);have bG:=G.m (ze8:w.heap.size<=ab);have bH:=G.m (Nat.le_trans br.out (ze8:w.heap.size<=ab):w0.heap.size<=ab);replace HK:=G.kb HK hb;have aW:=G.m (zmn:g≠ab);have au:=G.m (zmZ:ab≠g);replace am:=G.m (zab.below (zcg) hb);clear hb hbox hg)|((with_reducible refine G.f 73 rfl ?_);refine G.gL 11 Try.func73 #[.pointer (some ⟨g,0,none⟩)] ?_;(with_reducible refine(zar.calls k g ao bf ak ag aC w0 _ ?side1 ?side2 A2.out).mono ?_);(case side1=>exact zcg);(case side2=>exact zcW HB.out);rintro e m6 ⟨cj,rfl,aG,hi,hb,hk⟩;refine⟨_,rfl,?_⟩;replace aa:=G.kk aa au hk;have af:=G.m (zaI (zek (M:=fun k_=>(w.heap.size<=k_)) aG (zaB (w:=w) (g:=g) (row:=none) (G.cK HK.out)) (fun k_ h_=>h_)) (zaB (w:=w) (g:=g) (row:=none) (G.cK HK.out)));replace HK:=G.kt HK hk;replace HB:=G.m (hb);replace am:=G.m (hi);(try clear hb hk hi aG))|((with_reducible refine G.h 4 rfl ?_);refine G.be 4 #[.int .i64 0,.slice none 0 0] 31 ?_;intro ae hg gW hbox hb;have n0:=G.rb af hb;have n1:=G.m (zab.below (zcg) hb);have n2:=G.bb aa hb;have n3:=G.kb HK hb;have n4:=G.m (zao (zcW HB.out) hb);have n5:=G.m (hbox);have n6:=G.m (ze8:w.heap.size<=ae);have n7:=G.m (Nat.le_trans br.out (ze8:w.heap.size<=ae):w0.heap.size<=ae);have n8:=G.m (zmT:ab≠ae);have n9:=G.m (zl2:ae≠ab);have bx:=G.m (zm1:g≠ae);have bz:=G.m (zmi:ae≠g);clear af am aa HK HB;revert n0 n1 n2 n3 n4 n5 n6 n7 n8 n9 bx bz;intro af am aa HK HB ah bI bJ az aE aT av;clear hb hbox hg;have lM:=aE.out;have lN:=az.out;have lO:=av.out;have lP:=aT.out;have⟨jA,jB,jC,jD⟩:=G.d2 (w:=gW) ah;obtain⟨a_,a8,ia⟩:=zau af.out;subst ia)|((with_reducible refine G.f 22 rfl ?_);refine G.gL 14 Try.func22 #[.agg #[.int .i64 ak,.slice a_ ag.length a8]] ?_;(with_reducible refine(zaq.calls k ak _ _ ag ac bV _ ?side1 ?side2 A3.out).mono ?_);(case side1=>refine(zaf (e:=59) (base:=w.heap.size) (ok:=fun k_=>((w.heap.size<=k_)/\True)) (n:=ag.length) (c:=a8) ?_).2.2;exact(zpC));(case side2=>exact(zaf af.out).2.1);rintro e m7 ⟨ck,rfl,aG,hb⟩;refine⟨_,rfl,?_⟩;have aj:=G.m (zdy (zbh (ok':=fun k_=>(w.heap.size<=k_)/\some k_≠(.slice a_ ag.length a8:Value).ownBlock/\k_≠ab/\k_≠ae/\k_≠g) (Kd.S_N (zej aG)) (fun k_ hk_=>⟨(Nat.le_trans (zaB (w:=w) (g:=g) (row:=none) (G.cK HK.out)) hk_.2.1),(Kd.fresh' (zb0 (zpC)) k_ hk_.2.1),(zb2 (g:=ab) (o:=.cells #[.int .i64 0,.slice none 0 0] 31 (0,0)) (ziG) k_ hk_.2.1),(zb2 (g:=ae) (o:=.cells #[.int .i64 ak,.slice a_ ag.length a8] 31 (0,0)) (zik) k_ hk_.2.1),(zab.fresh (zcg) k_ hk_.2.1)⟩)) (zaB (w:=w) (g:=g) (row:=none) (G.cK HK.out)));replace af:=G.m (zcX (zpC) hb);replace aa:=G.m (zbE (g:=ab) (o:=.cells #[.int .i64 0,.slice none 0 0] 31 (0,0)) (ziG) hb);replace ah:=G.m (zbE (g:=ae) (o:=.cells #[.int .i64 ak,.slice a_ ag.length a8] 31 (0,0)) (zik) hb);replace HK:=G.kb HK hb;replace HB:=G.m (zao (zcW HB.out) hb);replace am:=G.m (zab.below (show zab w0 ((gW.setCell ⟨ae,0,none⟩ (.int .i64 ak)).setCell ⟨ae,1,none⟩ (.slice a_ ag.length a8)) g ao aC from zcg) hb);(try clear hb aG);obtain⟨dD,dE,ib⟩:=zd1 aj.out;subst ib)|((with_reducible refine G.f 104 rfl ?_);refine G.gL 26 Try.func104 #[.pointer (some ⟨g,0,none⟩),.int .i64 (ac.length:Int)] ?_;(with_reducible refine(zah.calls k g ao aC (ac.length:Int) ai a3 w0 _ ?side1 ?side2 cO.out).mono ?_);(case side1=>exact zcg);(case side2=>exact zcW HB.out);rintro e m8 ⟨rfl,hi,hb,hk⟩;refine⟨_,rfl,?_⟩;replace aa:=G.kk aa au hk;replace af:=G.m (zam (zbu (zab.apart (show zab w0 _ g ao aC from zcg) (G.cR af.out) (zcr)) hk (fun _ h=>h.2)) (fun _ h=>h.1));replace ah:=G.kk ah av hk;replace aj:=G.m (zbh (zeB (zbh (ok:=fun k_=>(((w.heap.size<=k_))/\(some k_≠(.slice a_ ag.length a8:Value).ownBlock/\(k_≠ab/\(k_≠ae/\k_≠g))))) (zgh) (fun k_ hk_=>(⟨hk_,hk_.2.2.2.2⟩:_/\k_≠g))) hk (fun _ h=>h.2)) (fun _ h=>h.1));replace HK:=G.kt HK hk;replace HB:=G.m (hb);replace am:=G.m (hi);(try clear hb hk hi))|((with_reducible refine G.f 104 rfl ?_);refine G.gL 28 Try.func104 #[.pointer (some ⟨g,0,none⟩),.int .i64 8] ?_;(with_reducible refine(zah.calls k g ao a3 8 aB aK w0 _ ?side1 ?side2 cP.out).mono ?_);(case side1=>exact zcg);(case side2=>exact zcW HB.out);rintro e m9 ⟨rfl,hi,hb,hk⟩;refine⟨_,rfl,?_⟩;replace aa:=G.kk aa au hk;replace af:=G.m (zam (zbu (zab.apart (show zab w0 _ g ao a3 from zcg) (G.cR af.out) (zcr)) hk (fun _ h=>h.2)) (fun _ h=>h.1));replace ah:=G.kk ah av hk;replace aj:=G.m (zbh (zeB (zbh (ok:=fun k_=>(((w.heap.size<=k_))/\(some k_≠(.slice a_ ag.length a8:Value).ownBlock/\(k_≠ab/\(k_≠ae/\k_≠g))))) (zgh) (fun k_ hk_=>(⟨hk_,hk_.2.2.2.2⟩:_/\k_≠g))) hk (fun _ h=>h.2)) (fun _ h=>h.1));replace HK:=G.kt HK hk;replace HB:=G.m (hb);replace am:=G.m (hi);(try clear hb hk hi))|((with_reducible refine G.h 54 rfl ?_);refine zcV (Kd.int .i64) _ 3 ?hg (N:=54) ?hd (xs:=([0,1]:List Int)) (inner:=[.int .i64 0,.int .i64 1]) (ok:=fun _=>True) (okp:=fun _=>True) ?hr ?hp (fun _ hk=>hk) trivial (Below.refl _ _) (Nat.le_refl _) (by simp) ?_;(case hd=>rfl);(case hg=>rfl);(case hr=>first|(go_simp;done)|(go_simp;rfl));(case hp=>exact(zbK.one (show Kd.M (Kd.int .i64) _ _ _ 0 [.int .i64 0] from rfl) (zbK.one (show Kd.M (Kd.int .i64) _ _ _ 1 [.int .i64 1] from rfl) (zbK.none _ _))));intro mA m_ cp hb hg_ hnew_;clear hg_ hnew_;(first|rw[←e7.out]at cp|(simp only[Int.reduceToNat]at cp;rw[←e7.out]at cp));replace af:=G.rb af hb;replace aj:=G.m (zcN (zgh) (zcA cp) hb);have cJ:=G.m (zaI (zek (M:=fun k_=>(w.heap.size<=k_)) cp (zaB (w:=w) (g:=g) (row:=none) (G.cK HK.out)) (fun k_ h_=>h_)) (zaB (w:=w) (g:=g) (row:=none) (G.cK HK.out)));replace aa:=G.bb aa hb;replace ah:=G.bb ah hb;replace HK:=G.kb HK hb;replace HB:=G.m (zao (zcW HB.out) hb);replace am:=G.m (zab.below (zcg) hb);clear hb cp;obtain⟨ic,ie,ig⟩:=zau cJ.out;subst ig)|((with_reducible refine za9 (b:=.append) (xs:= #[.tmp 53,.tmp 55]) rfl ?_);at_builtin;refine ziO (Kd.slice 3 (Kd.int .i64)) w.heap.size rfl (.tmp 53) (.tmp 55) 25 45 (.slice none 0 0) 24 rfl Try.underlying25 zgb rfl (zcr) (by omega) (.slice dD ac.length dE) ac dC [.slice ic dC.length ie] (fun k_=>(w.heap.size<=k_)/\some k_≠(.slice a_ ag.length a8:Value).ownBlock/\k_≠ab/\k_≠ae/\k_≠g) (fun k_=>((fun k_=>(w.heap.size<=k_)/\some k_≠(.slice a_ ag.length a8:Value).ownBlock/\k_≠ab/\k_≠ae/\k_≠g)) k_/\some k_≠(.slice dD ac.length dE:Value).ownBlock) rfl rfl ?aP (fun _ hk=>hk) ?aF ?aO (Below.refl _ _) ?aS ?aL ?_;(case aP=>exact(zdz (zaf (zam (ok':=(fun k_=>((fun k_=>(w.heap.size<=k_)/\some k_≠(.slice a_ ag.length a8:Value).ownBlock/\k_≠ab/\k_≠ae/\k_≠g)) k_/\some k_≠(.slice dD ac.length dE:Value).ownBlock)) (zab.apart am.out (zaH (zaH (zb1 (zb1 (cJ.out) (zbx af.out) (zcr)) (zcx aj.out) (zcr)) aa.out (zcr)) ah.out (zcr)) (zcr)) (fun k_ hk=>⟨⟨hk.1.1.1.1.1.1,⟨hk.1.1.1.1.2,⟨hk.1.1.2,⟨hk.1.2,hk.2⟩⟩⟩⟩,hk.1.1.1.2⟩))).2.1 (Kd.R_F (zam (ok':=(fun k_=>((fun k_=>(w.heap.size<=k_)/\some k_≠(.slice a_ ag.length a8:Value).ownBlock/\k_≠ab/\k_≠ae/\k_≠g)) k_/\some k_≠(.slice dD ac.length dE:Value).ownBlock)) (zab.apart am.out (zaH (zaH (zb1 (zb1 (cJ.out) (zbx af.out) (zcr)) (zcx aj.out) (zcr)) aa.out (zcr)) ah.out (zcr)) (zcr)) (fun k_ hk=>⟨⟨hk.1.1.1.1.1.1,⟨hk.1.1.1.1.2,⟨hk.1.1.2,⟨hk.1.2,hk.2⟩⟩⟩⟩,hk.1.1.1.2⟩)))));(case aF=>exact(fun k_ hk=>⟨(Nat.le_trans (zaB (w:=w) (g:=g) (row:=none) (G.cK HK.out)) hk),Kd.fresh' (zb0 (G.cR af.out)) k_ hk,zb2 (g:=ab) (o:=.cells #[.int .i64 0,.slice none 0 0] 31 (0,0)) (G.cb aa.out) k_ hk,zb2 (g:=ae) (o:=.cells #[.int .i64 ak,.slice a_ ag.length a8] 31 (0,0)) (G.cb ah.out) k_ hk,zab.fresh (zcg) k_ hk⟩));(case aO=>exact(by(with_reducible repeat(first|apply zbA|apply zbz|apply zbP));exact zbh aj.out (fun _ hk=>⟨hk.1.1,⟨hk.1.2.1,⟨hk.1.2.2.1,⟨hk.1.2.2.2.1,hk.1.2.2.2.2⟩⟩⟩⟩)));(case aS=>exact(zaB (w:=w) (g:=g) (row:=none) (G.cK HK.out)));(case aL=>have:=gy.out;omega);intro mB gX ho hb hg hat;rw[←gz.out]at ho;have n0:=G.m (zab.grown (zcg) hg (zab.zef am.out aj.out (zcr)));have n1:=G.bg aa hg (zi9 aj.out aa.out (zcr));have n2:=G.m (zbC (G.cR af.out) (zcx (zgh)) (zcr) hg);have n3:=G.bg ah hg (zi9 aj.out ah.out (zcr));have n4:=G.m (zct (zcW HB.out) HL.out hb);have n5:=G.m (zaz.trans (G.cK HK.out) (zaz.zcO hg g) (zf2 aj.out));have n6:=G.m (ho);clear am aa af ah HB HK aj cJ;revert n0 n1 n2 n3 n4 n5 n6;intro am aa af ah HB HK gA;clear ho hb hg hat;have⟨jE,jF,jG,jH⟩:=G.d2 (w:=gX) ah;have lQ:=au.out;have lR:=aW.out;have⟨jI,jJ,jK,jL⟩:=G.d2 (w:=gX) aa))
     refine bodyPost_ret (zbM rfl _ _ ab 31 #[.int .i64 ak,.slice a_ ag.length a8] (0,0) _ rfl (zmg) Try.underlying31 rfl (zkK)) rfl ?_;exact⟨_,_,G.er,by(with_reducible repeat(first|apply zav|apply zaw|apply zat));exact zam (zaP (p:=⟨ab,1,none⟩) (zaP (p:=⟨ab,0,none⟩) (zaH af.out aa.out (zcr)) (fun _ hk=>hk.2) (.int .i64 ak)) (fun _ hk=>hk.2) (.slice a_ ag.length a8)) (fun _ hk=>hk.1.1),by(with_reducible repeat(first|apply zbA|apply zbz|apply zbP));exact zbh (zdo (p:=⟨ab,1,none⟩) (zdo (p:=⟨ab,0,none⟩) (zbh gA.out (fun k_ hk=>(⟨hk,hk.2.2.1⟩:_/\k_≠ab))) (fun _ hk=>hk.2) (.int .i64 ak)) (fun _ hk=>hk.2) (.slice a_ ag.length a8)) (fun _ hk=>⟨hk.1.1,hk.1.2.1⟩),zcg,zcW HB.out,G.cK HK.out⟩
    ·rw[if_neg cG]at H;have e5:=beq_eq_false_iff_ne.mpr cG;have e6:=bne_iff_ne.mpr cG
     by_cases cH:aB=3
     ·rw[if_pos cH]at H;have e9:=beq_iff_eq.mpr cH;have fa:=bne_eq_false_iff_eq.mpr cH;clear cH
      obtain⟨lS,H⟩:=G.dp H
      obtain⟨lT,H⟩:=G.dp H;obtain⟨⟨aX,dF⟩,ks,H⟩:=G.bi H;(try dsimp only at H);obtain⟨⟨bo,fX⟩,ku,H⟩:=G.bi H;(try dsimp only at H)
      obtain⟨kv,H⟩:=G.dp H
      obtain⟨kw,H⟩:=G.dp H;simp only[Option.some.injEq,Prod.mk.injEq]at H;obtain⟨rfl,rfl,rfl,rfl⟩:=H
      go_enter Try.func71,Try.ntmps71;try go_wp2_with (first|((with_reducible refine G.h 2 rfl ?_);refine G.be 2 #[.int .i64 0,.slice none 0 0] 31 ?_;intro ab hg mC hbox hb;replace HB:=G.m (zao (zcW HB.out) hb);have aa:=G.m (hbox);have bG:=G.m (ze8:w.heap.size<=ab);have bH:=G.m (Nat.le_trans br.out (ze8:w.heap.size<=ab):w0.heap.size<=ab);replace HK:=G.kb HK hb;have aW:=G.m (zmn:g≠ab);have au:=G.m (zmZ:ab≠g);replace am:=G.m (zab.below (zcg) hb);clear hb hbox hg)|((with_reducible refine G.f 73 rfl ?_);refine G.gL 11 Try.func73 #[.pointer (some ⟨g,0,none⟩)] ?_;(with_reducible refine(zar.calls k g ao bf ak ag aC w0 _ ?side1 ?side2 A2.out).mono ?_);(case side1=>exact zcg);(case side2=>exact zcW HB.out);rintro e mD ⟨cj,rfl,aG,hi,hb,hk⟩;refine⟨_,rfl,?_⟩;replace aa:=G.kk aa au hk;have af:=G.m (zaI (zek (M:=fun k_=>(w.heap.size<=k_)) aG (zaB (w:=w) (g:=g) (row:=none) (G.cK HK.out)) (fun k_ h_=>h_)) (zaB (w:=w) (g:=g) (row:=none) (G.cK HK.out)));replace HK:=G.kt HK hk;replace HB:=G.m (hb);replace am:=G.m (hi);(try clear hb hk hi aG))|((with_reducible refine G.h 4 rfl ?_);refine G.be 4 #[.int .i64 0,.slice none 0 0] 31 ?_;intro ae hg fY hbox hb;have n0:=G.rb af hb;have n1:=G.m (zab.below (zcg) hb);have n2:=G.bb aa hb;have n3:=G.kb HK hb;have n4:=G.m (zao (zcW HB.out) hb);have n5:=G.m (hbox);have n6:=G.m (ze8:w.heap.size<=ae);have n7:=G.m (Nat.le_trans br.out (ze8:w.heap.size<=ae):w0.heap.size<=ae);have n8:=G.m (zmT:ab≠ae);have n9:=G.m (zl2:ae≠ab);have bx:=G.m (zm1:g≠ae);have bz:=G.m (zmi:ae≠g);clear af am aa HK HB;revert n0 n1 n2 n3 n4 n5 n6 n7 n8 n9 bx bz;intro af am aa HK HB ah bI bJ az aE aT av;clear hb hbox hg;have ky:=aE.out;have kz:=az.out;have kA:=av.out;have kB:=aT.out;have⟨ii,ij,ik,il⟩:=G.d2 (w:=fY) ah;obtain⟨a2,aY,gB⟩:=zau af.out;subst gB)|((with_reducible refine G.f 22 rfl ?_);refine G.gL 14 Try.func22 #[.agg #[.int .i64 ak,.slice a2 ag.length aY]] ?_;(with_reducible refine(zaq.calls k ak _ _ ag ac bV _ ?side1 ?side2 A3.out).mono ?_);(case side1=>refine(zaf (e:=59) (base:=w.heap.size) (ok:=fun k_=>((w.heap.size<=k_)/\True)) (n:=ag.length) (c:=aY) ?_).2.2;exact(zpN));(case side2=>exact(zaf af.out).2.1);rintro e mE ⟨ck,rfl,aG,hb⟩;refine⟨_,rfl,?_⟩;have aj:=G.m (zh2 (zde (ok':=fun k_=>(w.heap.size<=k_)/\some k_≠(.slice a2 ag.length aY:Value).ownBlock/\k_≠ab/\k_≠ae/\k_≠g) (zej aG) (fun k_ hk_=>⟨(Nat.le_trans (zaB (w:=w) (g:=g) (row:=none) (G.cK HK.out)) hk_.2.1),(Kd.fresh' (zb0 (zpN)) k_ hk_.2.1),(zb2 (g:=ab) (o:=.cells #[.int .i64 0,.slice none 0 0] 31 (0,0)) (ziG) k_ hk_.2.1),(zb2 (g:=ae) (o:=.cells #[.int .i64 ak,.slice a2 ag.length aY] 31 (0,0)) (zik) k_ hk_.2.1),(zab.fresh (zcg) k_ hk_.2.1)⟩)) (zaB (w:=w) (g:=g) (row:=none) (G.cK HK.out)));replace af:=G.m (zcX (zpN) hb);replace aa:=G.m (zbE (g:=ab) (o:=.cells #[.int .i64 0,.slice none 0 0] 31 (0,0)) (ziG) hb);replace ah:=G.m (zbE (g:=ae) (o:=.cells #[.int .i64 ak,.slice a2 ag.length aY] 31 (0,0)) (zik) hb);replace HK:=G.kb HK hb;replace HB:=G.m (zao (zcW HB.out) hb);replace am:=G.m (zab.below (show zab w0 ((fY.setCell ⟨ae,0,none⟩ (.int .i64 ak)).setCell ⟨ae,1,none⟩ (.slice a2 ag.length aY)) g ao aC from zcg) hb);(try clear hb aG);obtain⟨lU,cL,gC⟩:=zm6 aj.out;subst gC)|((with_reducible refine G.f 104 rfl ?_);refine G.gL 26 Try.func104 #[.pointer (some ⟨g,0,none⟩),.int .i64 (ac.length:Int)] ?_;(with_reducible refine(zah.calls k g ao aC (ac.length:Int) ai a3 w0 _ ?side1 ?side2 cO.out).mono ?_);(case side1=>exact zcg);(case side2=>exact zcW HB.out);rintro e mF ⟨rfl,hi,hb,hk⟩;refine⟨_,rfl,?_⟩;replace aa:=G.kk aa au hk;replace af:=G.m (zam (zbu (zab.apart (show zab w0 _ g ao aC from zcg) (G.cR af.out) (zcr)) hk (fun _ h=>h.2)) (fun _ h=>h.1));replace ah:=G.kk ah av hk;replace aj:=G.m (zde (ziB (zde (ok:=fun k_=>(((w.heap.size<=k_))/\(some k_≠(.slice a2 ag.length aY:Value).ownBlock/\(k_≠ab/\(k_≠ae/\k_≠g))))) (zo5) (fun k_ hk_=>(⟨hk_,hk_.2.2.2.2⟩:_/\k_≠g))) hk (fun _ h=>h.2)) (fun _ h=>h.1));replace HK:=G.kt HK hk;replace HB:=G.m (hb);replace am:=G.m (hi);(try clear hb hk hi))|((with_reducible refine G.f 104 rfl ?_);refine G.gL 28 Try.func104 #[.pointer (some ⟨g,0,none⟩),.int .i64 8] ?_;(with_reducible refine(zah.calls k g ao a3 8 aB aK w0 _ ?side1 ?side2 cP.out).mono ?_);(case side1=>exact zcg);(case side2=>exact zcW HB.out);rintro e im ⟨rfl,hi,hb,hk⟩;refine⟨_,rfl,?_⟩;replace aa:=G.kk aa au hk;replace af:=G.m (zam (zbu (zab.apart (show zab w0 _ g ao a3 from zcg) (G.cR af.out) (zcr)) hk (fun _ h=>h.2)) (fun _ h=>h.1));replace ah:=G.kk ah av hk;replace aj:=G.m (zde (ziB (zde (ok:=fun k_=>(((w.heap.size<=k_))/\(some k_≠(.slice a2 ag.length aY:Value).ownBlock/\(k_≠ab/\(k_≠ae/\k_≠g))))) (zo5) (fun k_ hk_=>(⟨hk_,hk_.2.2.2.2⟩:_/\k_≠g))) hk (fun _ h=>h.2)) (fun _ h=>h.1));replace HK:=G.kt HK hk;replace HB:=G.m (hb);replace am:=G.m (hi);(try clear hb hk hi)))
      replace af:=G.m (zat af.out);replace aj:=G.m (zdx aj.out);replace aa:=G.m (zan aa.out);replace ah:=G.m (zan ah.out);replace am:=G.m (zab.drew am.out);replace HK:=G.m (zb3 HK.out);replace HB:=G.m (zas HB.out);have cX:0<=(ai:Int):=G.da;have cY:ai<(ac.length:Int):=G.da;obtain⟨bC,eb,ec,io,bO,di,dj⟩:=zcR (zbp (Kd.S_N aj.out)).2.2 ai cX cY;cases io;obtain⟨lV,fZ,f2,ed⟩:=zfi (Kd.S_N aj.out) [] ai cX (by first|exact cY|exact of_decide_eq_true (G.asm)|(have e_:=(zbp (Kd.S_N aj.out)).1;omega));obtain⟨jM,jN,rfl,cq,cr⟩:=zbv f2;have bP:=ed 0 _ rfl;rw[Nat.add_zero,show((Kd.slice 3 (Kd.int .i64))).sz=1 from rfl,Nat.mul_one]at bP;replace bP:=Option.some.inj (bP.symm.trans bO);injection bP with hva_ hvn_ hvc_;rw[hva_]at cr;rw[hvc_]at cq;have bk:=G.m (show Kd.V (Kd.int .i64) 3 _ w.heap.size _ _ (zax ac ai) from zhN cq cr);clear hva_ hvn_ hvc_ cr cq;clear ed fZ;have fm:=G.m dj;have jO:=G.m di;clear dj di;replace cX:=eq_true cX;replace cY:=eq_true cY;have dI:0<=(ai:Int):=G.da;have dJ:ai<(ac.length:Int):=G.da;obtain⟨gD,kC,kD,ip,bQ,dk,dl⟩:=zcR (zbp (Kd.S_N aj.out)).2.2 ai dI dJ;obtain rfl:bC=gD:=(by injection ip);obtain⟨lW,f3,f4,ee⟩:=zfi (Kd.S_N aj.out) [] ai dI (by first|exact dJ|exact of_decide_eq_true (G.asm)|(have e_:=(zbp (Kd.S_N aj.out)).1;omega));obtain⟨jP,jQ,rfl,ct,cu⟩:=zbv f4;have bR:=ee 0 _ rfl;rw[Nat.add_zero,show((Kd.slice 3 (Kd.int .i64))).sz=1 from rfl,Nat.mul_one]at bR;replace bR:=Option.some.inj (bR.symm.trans bQ);injection bR with hva_ hvn_ hvc_;rw[hva_]at cu;rw[hvc_]at ct;have bl:=G.m (show Kd.V (Kd.int .i64) 3 _ w.heap.size _ _ (zax ac ai) from zhN ct cu);clear hva_ hvn_ hvc_ cu ct;clear ee f3;have fo:=G.m dl;have jR:=G.m dk;clear dl dk;replace dI:=eq_true dI;replace dJ:=eq_true dJ;have ea_:=Option.some.inj (bO.symm.trans bQ);injection ea_ with ea_ en_ ec_;subst ea_;subst ec_;clear en_;refine G.st 15 (S:=fun w'=>w'.cell? (bC.add (ai).toNat)=some (.slice eb (zax ac ai).length ec)/\w'.cell? (bC.add (ai).toNat)=some (.slice eb (zax ac ai).length ec)) [14] ⟨bO,bQ⟩ za0.zk4 za0.zih (fun hHeld HT_ HW_=>?_);generalize im.drew=mG at af aj aa ah am HK HB bk bl fm fo bO bQ hHeld⊢;refine G.pu 0 59 1 ?_;refine G.pu 1 60 3 ?_;refine G.pu 2 61 7 ?_;refine G.pu 4 63 23 ?_;refine G.pu 5 64 55 ?_;refine G.pu 6 65 119 ?_;refine G.pu 7 66 247 ?_;refine G.pu 11 70 2295 ?_;refine G.ta2 3 62 2303 ?_;refine G.ta2 8 67 2559 ?_;refine G.pu 9 68 3071 ?_;refine G.on 10 69 4095 (fun K hK=>?_);refine G.gs Try.func104 #[.pointer (some ⟨g,0,none⟩),.int .i64 ((zax ac ai).length:Int)] ?_;with_reducible refine(zah.calls k g ao aK ((zax ac ai).length:Int) aX dF w0 _ ?side1 ?side2 ks.out).mono ?_
      (case side1=>exact zcg);(case side2=>exact zcW HB.out);rintro e mH ⟨rfl,hi,hb,hk⟩;have dK:=zdT hk (hHeld.1) (zoQ);have er:=zdT hk (hHeld.2) (zoQ);refine⟨_,rfl,?_⟩;replace aa:=G.kk aa au hk;replace af:=G.m (zam (zbu (zab.apart (show zab w0 _ g ao aK from zcg) (G.cR af.out) (zcr)) hk (fun _ h=>h.2)) (fun _ h=>h.1));replace ah:=G.kk ah av hk;replace aj:=G.m (zde (ziB (zde (ok:=fun k_=>(((w.heap.size<=k_))/\(some k_≠(.slice a2 ag.length aY:Value).ownBlock/\(k_≠ab/\(k_≠ae/\k_≠g))))) (zo5) (fun k_ hk_=>(⟨hk_,hk_.2.2.2.2⟩:_/\k_≠g))) hk (fun _ h=>h.2)) (fun _ h=>h.1));replace bk:=G.m (zc3 (ziw (zc3 (ok:=fun k_=>((((w.heap.size<=k_))/\(some k_≠(.slice a2 ag.length aY:Value).ownBlock/\(k_≠ab/\(k_≠ae/\k_≠g))))/\some k_≠(.slice (some bC) ac.length cL:Value).ownBlock)) (G.cV bk.out) (fun k_ hk_=>(⟨hk_,hk_.1.2.2.2.2⟩:_/\k_≠g))) hk (fun _ h=>h.2)) (fun _ h=>h.1));replace bl:=G.m (zc3 (ziw (zc3 (ok:=fun k_=>((((w.heap.size<=k_))/\(some k_≠(.slice a2 ag.length aY:Value).ownBlock/\(k_≠ab/\(k_≠ae/\k_≠g))))/\some k_≠(.slice (some bC) ac.length cL:Value).ownBlock)) (G.cV bl.out) (fun k_ hk_=>(⟨hk_,hk_.1.2.2.2.2⟩:_/\k_≠g))) hk (fun _ h=>h.2)) (fun _ h=>h.1));replace HK:=G.kt HK hk;replace HB:=G.m (hb);replace am:=G.m (hi);(try clear hb na hk hi);refine hK.out _ _ ⟨dK,er⟩ (fun hHeld=>?_);clear hK K;refine G.no 69 ?_;refine G.on 12 71 8191 (fun K hK=>?_);refine G.gs Try.func104 #[.pointer (some ⟨g,0,none⟩),.int .i64 9] ?_;with_reducible refine(zah.calls k g ao dF 9 bo fX w0 _ ?side1 ?side2 ku.out).mono ?_
      (case side1=>exact zcg);(case side2=>exact zcW HB.out);rintro e es ⟨rfl,hi,hb,hk⟩;have dK:=zdT hk (hHeld.1) (zoQ);have er:=zdT hk (hHeld.2) (zoQ);refine⟨_,rfl,?_⟩;replace aa:=G.kk aa au hk;replace af:=G.m (zam (zbu (zab.apart (show zab w0 _ g ao dF from zcg) (G.cR af.out) (zcr)) hk (fun _ h=>h.2)) (fun _ h=>h.1));replace ah:=G.kk ah av hk;replace aj:=G.m (zde (ziB (zde (ok:=fun k_=>(((w.heap.size<=k_))/\(some k_≠(.slice a2 ag.length aY:Value).ownBlock/\(k_≠ab/\(k_≠ae/\k_≠g))))) (zo5) (fun k_ hk_=>(⟨hk_,hk_.2.2.2.2⟩:_/\k_≠g))) hk (fun _ h=>h.2)) (fun _ h=>h.1));replace bk:=G.m (zc3 (ziw (zc3 (ok:=fun k_=>((((w.heap.size<=k_))/\(some k_≠(.slice a2 ag.length aY:Value).ownBlock/\(k_≠ab/\(k_≠ae/\k_≠g))))/\some k_≠(.slice (some bC) ac.length cL:Value).ownBlock)) (G.cV bk.out) (fun k_ hk_=>(⟨hk_,hk_.1.2.2.2.2⟩:_/\k_≠g))) hk (fun _ h=>h.2)) (fun _ h=>h.1));replace bl:=G.m (zc3 (ziw (zc3 (ok:=fun k_=>((((w.heap.size<=k_))/\(some k_≠(.slice a2 ag.length aY:Value).ownBlock/\(k_≠ab/\(k_≠ae/\k_≠g))))/\some k_≠(.slice (some bC) ac.length cL:Value).ownBlock)) (G.cV bl.out) (fun k_ hk_=>(⟨hk_,hk_.1.2.2.2.2⟩:_/\k_≠g))) hk (fun _ h=>h.2)) (fun _ h=>h.1));replace HK:=G.kt HK hk;replace HB:=G.m (hb);replace am:=G.m (hi);(try clear hb hk hi);have et:0<=(aX:Int):=G.da;have eu:aX<((zax ac ai).length:Int):=G.da;obtain⟨ge_,hA_,hok_,⟨cs_,hc_⟩,⟨y_,hy_⟩,hfr_,hS_⟩:=zkE aj.out ai aX bo (of_eq_true cX) (of_eq_true cY) et eu dK;subst hA_;replace et:=eq_true et;replace eu:=eq_true eu;refine hK.out _ _ ⟨dK,er⟩ (fun hHeld=>?_);clear hK K;refine G.no 71 ?_;refine G.pu 13 72 16383 ?_;refine G.la 14 (none) (G.fl 15 32767) (fun K hK=>?_);refine zdf (w1:= ?_) (by rfl) rfl ?_ ?_;rotate_left
      ·go_simp
       rfl
      refine hK.out _ _ ?_;clear hK K;refine zbO (zbb HT_.out (zkK)) ?_;have n0:=G.m (zc6 ah.out (p:=⟨ge_,(aX).toNat,none⟩) (Ne.symm (hok_.2.2.2.1)) (.int .i64 bo));have n1:=G.m (zc6 aa.out (p:=⟨ge_,(aX).toNat,none⟩) (Ne.symm (hok_.2.2.1)) (.int .i64 bo));have n2:=G.m (zpA af.out hc_ (zcr) (aX).toNat (.int .i64 bo));have n3:=G.m (Kd.S_N hS_);have n4:=G.m (zab.far am.out (p:=⟨ge_,(aX).toNat,none⟩) (Ne.symm (hok_.2.2.2.2)) (.int .i64 bo));have n5:=G.m (zdE HK.out (p:=⟨ge_,(aX).toNat,none⟩) hok_.1 (.int .i64 bo));have n6:=G.m (zbn HB.out (Nat.le_trans HL.out hok_.1) (j:=(aX).toNat) (v:=.int .i64 bo));clear ah aa af aj am HK HB;have hwq:es.setCell ⟨ge_,(aX).toNat,none⟩ (.int .i64 bo)=es.setCell ⟨ge_,(aX).toNat,none⟩ (.int .i64 bo):=rfl;revert n0 n1 n2 n3 n4 n5 n6;intro ah aa af aj am HK HB;clear hwq;generalize es.setCell ⟨ge_,(aX).toNat,none⟩ (.int .i64 bo)=wq_ at ah aa af aj am HK HB⊢;have⟨iq,ir,iu,iv⟩:=G.d2 (w:=wq_) ah;have kE:=au.out;have kF:=aW.out;have⟨iw,ix,iy,iz⟩:=G.d2 (w:=wq_) aa;try go_wp2
      refine bodyPost_ret (zbM rfl _ _ ab 31 #[.int .i64 ak,.slice a2 ag.length aY] (0,0) _ rfl (zmg) Try.underlying31 rfl (zkK)) rfl ?_;exact⟨_,_,G.er,by(with_reducible repeat(first|apply zav|apply zaw|apply zat));exact zam (zaP (p:=⟨ab,1,none⟩) (zaP (p:=⟨ab,0,none⟩) (zaH af.out aa.out (zcr)) (fun _ hk=>hk.2) (.int .i64 ak)) (fun _ hk=>hk.2) (.slice a2 ag.length aY)) (fun _ hk=>hk.1.1),by(with_reducible repeat(first|apply zbA|apply zbz|apply zbP));exact zbh (zdo (p:=⟨ab,1,none⟩) (zdo (p:=⟨ab,0,none⟩) (zbh aj.out (fun k_ hk=>(⟨hk,hk.2.2.1⟩:_/\k_≠ab))) (fun _ hk=>hk.2) (.int .i64 ak)) (fun _ hk=>hk.2) (.slice a2 ag.length aY)) (fun _ hk=>⟨hk.1.1,hk.1.2.1⟩),zcg,zcW HB.out,G.cK HK.out⟩
     ·rw[if_neg cH]at H;have e9:=beq_eq_false_iff_ne.mpr cH;have fa:=bne_iff_ne.mpr cH
      by_cases bX:aB=4
      ·rw[if_pos bX]at H;have ef:=beq_iff_eq.mpr bX;have eg:=bne_eq_false_iff_eq.mpr bX;clear bX;obtain⟨f5,cd⟩:∃y_:List Int,y_=(([]:List Int)):=⟨_,rfl⟩;replace H:(if 0<=ai then(if ai<(ac.length:Int) then(za0.l0 k ac ai f5 (wrap64 (((zax ac ai).length:Int) - 1)) ao aK ak ag) else(none)) else(none))=some (r1,r2,r3,r4):=G.y0 cd H
       have fd:=G.m cd;clear cd
       obtain⟨f6,H⟩:=G.dp H
       obtain⟨f7,H⟩:=G.dp H;have H':=G.m H;clear H
       go_enter Try.func71,Try.ntmps71
       go_wp2_with (first|((with_reducible refine G.h 2 rfl ?_);refine G.be 2 #[.int .i64 0,.slice none 0 0] 31 ?_;intro ab hg mI hbox hb;replace HB:=G.m (zao (zcW HB.out) hb);have aa:=G.m (hbox);have bG:=G.m (ze8:w.heap.size<=ab);have bH:=G.m (Nat.le_trans br.out (ze8:w.heap.size<=ab):w0.heap.size<=ab);replace HK:=G.kb HK hb;have aW:=G.m (zmn:g≠ab);have au:=G.m (zmZ:ab≠g);replace am:=G.m (zab.below (zcg) hb);clear hb hbox hg)|((with_reducible refine G.f 73 rfl ?_);refine G.gL 11 Try.func73 #[.pointer (some ⟨g,0,none⟩)] ?_;(with_reducible refine(zar.calls k g ao bf ak ag aC w0 _ ?side1 ?side2 A2.out).mono ?_);(case side1=>exact zcg);(case side2=>exact zcW HB.out);rintro e mJ ⟨cj,rfl,aG,hi,hb,hk⟩;refine⟨_,rfl,?_⟩;replace aa:=G.kk aa au hk;have af:=G.m (zaI (zek (M:=fun k_=>(w.heap.size<=k_)) aG (zaB (w:=w) (g:=g) (row:=none) (G.cK HK.out)) (fun k_ h_=>h_)) (zaB (w:=w) (g:=g) (row:=none) (G.cK HK.out)));replace HK:=G.kt HK hk;replace HB:=G.m (hb);replace am:=G.m (hi);(try clear hb hk hi aG))|((with_reducible refine G.h 4 rfl ?_);refine G.be 4 #[.int .i64 0,.slice none 0 0] 31 ?_;intro ae hg f8 hbox hb;have n0:=G.rb af hb;have n1:=G.m (zab.below (zcg) hb);have n2:=G.bb aa hb;have n3:=G.kb HK hb;have n4:=G.m (zao (zcW HB.out) hb);have n5:=G.m (hbox);have n6:=G.m (ze8:w.heap.size<=ae);have n7:=G.m (Nat.le_trans br.out (ze8:w.heap.size<=ae):w0.heap.size<=ae);have n8:=G.m (zmT:ab≠ae);have n9:=G.m (zl2:ae≠ab);have bx:=G.m (zm1:g≠ae);have bz:=G.m (zmi:ae≠g);clear af am aa HK HB;revert n0 n1 n2 n3 n4 n5 n6 n7 n8 n9 bx bz;intro af am aa HK HB ah bI bJ az aE aT av;clear hb hbox hg;have kG:=aE.out;have kH:=az.out;have kI:=av.out;have kJ:=aT.out;have⟨ev,ew,ex,ey⟩:=G.d2 (w:=f8) ah;obtain⟨aN,aM,gE⟩:=zau af.out;subst gE)|((with_reducible refine G.f 22 rfl ?_);refine G.gL 14 Try.func22 #[.agg #[.int .i64 ak,.slice aN ag.length aM]] ?_;(with_reducible refine(zaq.calls k ak _ _ ag ac bV _ ?side1 ?side2 A3.out).mono ?_);(case side1=>refine(zaf (e:=59) (base:=w.heap.size) (ok:=fun k_=>((w.heap.size<=k_)/\True)) (n:=ag.length) (c:=aM) ?_).2.2;exact(zpv));(case side2=>exact(zaf af.out).2.1);rintro e mK ⟨ck,rfl,aG,hb⟩;refine⟨_,rfl,?_⟩;have aj:=G.m (zdy (zbh (ok':=fun k_=>(w.heap.size<=k_)/\some k_≠(.slice aN ag.length aM:Value).ownBlock/\k_≠ab/\k_≠ae/\k_≠g) (Kd.S_N (zej aG)) (fun k_ hk_=>⟨(Nat.le_trans (zaB (w:=w) (g:=g) (row:=none) (G.cK HK.out)) hk_.2.1),(Kd.fresh' (zb0 (zpv)) k_ hk_.2.1),(zb2 (g:=ab) (o:=.cells #[.int .i64 0,.slice none 0 0] 31 (0,0)) (ziG) k_ hk_.2.1),(zb2 (g:=ae) (o:=.cells #[.int .i64 ak,.slice aN ag.length aM] 31 (0,0)) (zik) k_ hk_.2.1),(zab.fresh (zcg) k_ hk_.2.1)⟩)) (zaB (w:=w) (g:=g) (row:=none) (G.cK HK.out)));replace af:=G.m (zcX (zpv) hb);replace aa:=G.m (zbE (g:=ab) (o:=.cells #[.int .i64 0,.slice none 0 0] 31 (0,0)) (ziG) hb);replace ah:=G.m (zbE (g:=ae) (o:=.cells #[.int .i64 ak,.slice aN ag.length aM] 31 (0,0)) (zik) hb);replace HK:=G.kb HK hb;replace HB:=G.m (zao (zcW HB.out) hb);replace am:=G.m (zab.below (show zab w0 ((f8.setCell ⟨ae,0,none⟩ (.int .i64 ak)).setCell ⟨ae,1,none⟩ (.slice aN ag.length aM)) g ao aC from zcg) hb);(try clear hb aG);obtain⟨lX,ce,gF⟩:=zd1 aj.out;subst gF)|((with_reducible refine G.f 104 rfl ?_);refine G.gL 26 Try.func104 #[.pointer (some ⟨g,0,none⟩),.int .i64 (ac.length:Int)] ?_;(with_reducible refine(zah.calls k g ao aC (ac.length:Int) ai a3 w0 _ ?side1 ?side2 cO.out).mono ?_);(case side1=>exact zcg);(case side2=>exact zcW HB.out);rintro e mL ⟨rfl,hi,hb,hk⟩;refine⟨_,rfl,?_⟩;replace aa:=G.kk aa au hk;replace af:=G.m (zam (zbu (zab.apart (show zab w0 _ g ao aC from zcg) (G.cR af.out) (zcr)) hk (fun _ h=>h.2)) (fun _ h=>h.1));replace ah:=G.kk ah av hk;replace aj:=G.m (zbh (zeB (zbh (ok:=fun k_=>(((w.heap.size<=k_))/\(some k_≠(.slice aN ag.length aM:Value).ownBlock/\(k_≠ab/\(k_≠ae/\k_≠g))))) (zgh) (fun k_ hk_=>(⟨hk_,hk_.2.2.2.2⟩:_/\k_≠g))) hk (fun _ h=>h.2)) (fun _ h=>h.1));replace HK:=G.kt HK hk;replace HB:=G.m (hb);replace am:=G.m (hi);(try clear hb hk hi))|((with_reducible refine G.f 104 rfl ?_);refine G.gL 28 Try.func104 #[.pointer (some ⟨g,0,none⟩),.int .i64 8] ?_;(with_reducible refine(zah.calls k g ao a3 8 aB aK w0 _ ?side1 ?side2 cP.out).mono ?_);(case side1=>exact zcg);(case side2=>exact zcW HB.out);rintro e mM ⟨rfl,hi,hb,hk⟩;refine⟨_,rfl,?_⟩;replace aa:=G.kk aa au hk;replace af:=G.m (zam (zbu (zab.apart (show zab w0 _ g ao a3 from zcg) (G.cR af.out) (zcr)) hk (fun _ h=>h.2)) (fun _ h=>h.1));replace ah:=G.kk ah av hk;replace aj:=G.m (zbh (zeB (zbh (ok:=fun k_=>(((w.heap.size<=k_))/\(some k_≠(.slice aN ag.length aM:Value).ownBlock/\(k_≠ab/\(k_≠ae/\k_≠g))))) (zgh) (fun k_ hk_=>(⟨hk_,hk_.2.2.2.2⟩:_/\k_≠g))) hk (fun _ h=>h.2)) (fun _ h=>h.1));replace HK:=G.kt HK hk;replace HB:=G.m (hb);replace am:=G.m (hi);(try clear hb hk hi))|((with_reducible refine G.h 75 rfl ?_);refine zcV (Kd.int .i64) _ 3 ?hg (N:=75) ?hd (xs:=([]:List Int)) (inner:=[]) (ok:=fun _=>True) (okp:=fun _=>True) ?hr ?hp (fun _ hk=>hk) trivial (Below.refl _ _) (Nat.le_refl _) (by simp) ?_;(case hd=>rfl);(case hg=>rfl);(case hr=>first|(go_simp;done)|(go_simp;rfl));(case hp=>exact(zbK.none _ _));intro mN mO bS hb hg_ hnew_;clear hg_ hnew_;(first|rw[←fd.out]at bS|(simp only[Int.reduceToNat]at bS;rw[←fd.out]at bS));replace af:=G.rb af hb;replace aj:=G.m (zcN (zgh) (zcA bS) hb);have gG:=G.m (zaI (zek (M:=fun k_=>(w.heap.size<=k_)) bS (zaB (w:=w) (g:=g) (row:=none) (G.cK HK.out)) (fun k_ h_=>h_)) (zaB (w:=w) (g:=g) (row:=none) (G.cK HK.out)));replace aa:=G.bb aa hb;replace ah:=G.bb ah hb;replace HK:=G.kb HK hb;replace HB:=G.m (zao (zcW HB.out) hb);replace am:=G.m (zab.below (zcg) hb);clear hb bS;have cZ:0<=(ai:Int):=G.da;have c_:ai<(ac.length:Int):=G.da;obtain⟨dN,kK,kL,iA,cv,dn,dp⟩:=zcR (zbp aj.out).2.2 ai cZ c_;cases iA;obtain⟨lY,f9,f_,eh⟩:=zfi aj.out [] ai cZ (by first|exact c_|exact of_decide_eq_true (G.asm)|(have e_:=(zbp aj.out).1;omega));obtain⟨jS,jT,rfl,cw,cx⟩:=zbv f_;have bT:=eh 0 _ rfl;rw[Nat.add_zero,show((Kd.slice 3 (Kd.int .i64))).sz=1 from rfl,Nat.mul_one]at bT;replace bT:=Option.some.inj (bT.symm.trans cv);injection bT with hva_ hvn_ hvc_;rw[hva_]at cx;rw[hvc_]at cw;have jU:=G.m (show Kd.V (Kd.int .i64) 3 _ w.heap.size _ _ (zax ac ai) from zhN cw cx);clear hva_ hvn_ hvc_ cx cw;clear eh f9;have jV:=G.m dp;have jW:=G.m dn;clear dp dn;replace cZ:=eq_true cZ;replace c_:=eq_true c_))
       go_loopg [8,9] k (fun kq v8 v9 w'=>∃ (bw:List Int) (a6:Int),v9=.int .i64 a6/\zaa (za0.l0 kq ac ai bw a6 ao aK ak ag=some (r1,r2,r3,r4))/\zaa (kq<=k)/\zaa (Kd.N (Kd.slice 3 (Kd.int .i64)) 45 w' w.heap.size (fun k_=>(w.heap.size<=k_)/\some k_≠(v8:Value).ownBlock/\some k_≠((.slice aN ag.length aM):Value).ownBlock/\k_≠ab/\k_≠ae/\k_≠g) (.slice (some dN) ac.length ce) ac)/\zaa (Kd.R (Kd.int .i64) 3 w' w.heap.size (fun k_=>(w.heap.size<=k_)) v8 bw)/\zaa (Kd.R k59 59 w' w.heap.size (fun k_=>(w.heap.size<=k_)) (.slice aN ag.length aM) ag)/\zaa (w'.heap[ab]? =some (.cells #[.int .i64 0,(.slice none 0 0)] 31 (0,0)))/\zaa (w'.heap[ae]? =some (.cells #[.int .i64 ak,(.slice aN ag.length aM)] 31 (0,0)))/\zaa (zab w0 w' g ao aK)/\zaa (zaz w w' g none)/\zaa (Below w0.heap.size w0 w'))
       case atStart=>exact⟨(f5),(wrap64 (((zax ac ai).length:Int) - 1)),(by first|rfl|(simp;done)|(simp[*];done)),H',⟨Nat.le_refl _⟩,⟨by(with_reducible repeat(first|apply zbA|apply zbz|apply zbP));exact zbh aj.out (fun _ hk=>⟨hk.1.1,⟨hk.2,⟨hk.1.2.1,⟨hk.1.2.2.1,⟨hk.1.2.2.2.1,hk.1.2.2.2.2⟩⟩⟩⟩⟩)⟩,⟨by(with_reducible repeat(first|apply zav|apply zaw|apply zat));exact zam gG.out (fun _ hk=>hk.1)⟩,⟨by(with_reducible repeat(first|apply zav|apply zaw|apply zat));exact zam af.out (fun _ hk=>hk.1)⟩,⟨G.cb aa.out⟩,⟨G.cb ah.out⟩,⟨zcg⟩,⟨G.cK HK.out⟩,⟨zcW HB.out⟩⟩
       case round=>
        clear H';(try clear cE eG eH cF eQ eR cG e5 e6 cH e9 fa ef eg f6 f7 ev ew ex ey cv cZ c_);obtain⟨bw,a6,rfl,HA,gY,aZ,bq,aV,aa,ah,am,HK,HB⟩:=hrel;cases gk with
        |zero=>exact absurd HA.out (by simp[za0.l0])
        |succ k1=>
         have H:=HA.out;clear HA;simp only[za0.l0]at H
         by_cases cy:a6>=0
         ·rw[if_pos cy]at H;have ga:=decide_eq_true cy;clear cy
          obtain⟨kM,H⟩:=G.dp H
          obtain⟨kN,H⟩:=G.dp H
          obtain⟨kO,H⟩:=G.dp H
          obtain⟨kP,H⟩:=G.dp H
          obtain⟨dS,H⟩:=G.ip H;have gb:=G.m dS;clear dS;obtain⟨gc,cf⟩:∃y_:List Int,y_=(bw++[rd (zax ac ai) a6]):=⟨_,rfl⟩;replace H:(za0.l0 k1 ac ai gc (wrap64 (a6 - 1)) ao aK ak ag)=some (r1,r2,r3,r4):=G.y0 cf H
          have gH:=G.m cf;clear cf;have H':=G.m H;clear H;have dT:0<=(ai:Int):=G.da;have dU:ai<(ac.length:Int):=G.da;obtain⟨gI,kQ,kR,iB,dq,dr,dt⟩:=zcR (zbp aZ.out).2.2 ai dT dU;obtain rfl:dN=gI:=(by injection iB);obtain⟨lZ,gf,gg,ei⟩:=zfi aZ.out [] ai dT (by first|exact dU|exact of_decide_eq_true (G.asm)|(have e_:=(zbp aZ.out).1;omega));obtain⟨jX,jY,rfl,cz,cA⟩:=zbv gg;have bU:=ei 0 _ rfl;rw[Nat.add_zero,show((Kd.slice 3 (Kd.int .i64))).sz=1 from rfl,Nat.mul_one]at bU;replace bU:=Option.some.inj (bU.symm.trans dq);injection bU with hva_ hvn_ hvc_;rw[hva_]at cA;rw[hvc_]at cz;have cD:=G.m (show Kd.V (Kd.int .i64) 3 _ w.heap.size _ _ (zax ac ai) from zhN cz cA);clear hva_ hvn_ hvc_ cA cz;clear ei gf;have du:=G.m dt;have jZ:=G.m dr;clear dt dr;replace dT:=eq_true dT;replace dU:=eq_true dU;have ez:0<=(a6:Int):=G.da;have eA:a6<((zax ac ai).length:Int):=G.da;obtain⟨l1,iC,j0⟩:=zaZ (by repeat(first|(with_reducible exact du.out)|(with_reducible refine zcG ?_ _)|(with_reducible refine zcF ?_ _)|(with_reducible refine zdr ?_)|exact du.out)) a6 ez eA;cases iC;replace ez:=eq_true ez;replace eA:=eq_true eA
          go_wp2_with (first|((with_reducible refine za9 (b:=.append) (xs:= #[.tmp 86,.tmp 94]) rfl ?_);at_builtin;refine zbT (Kd.int .i64) w.heap.size rfl (.tmp 86) (.tmp 94) 45 3 (.int .i64 0) 8 rfl Try.underlying45 info3 rfl (zcr) (by omega) u8 bw (rd (zax ac ai) a6) [.int .i64 (rd (zax ac ai) a6)] (fun k_=>(w.heap.size<=k_)) (fun _=>False) rfl rfl ?aP (fun _ hk=>hk.elim) ?aF ?aO (Below.refl _ _) ?aS ?aL ?_;(case aP=>exact rfl);(case aF=>exact(fun k_ hk=>(Nat.le_trans (zaB (w:=w) (g:=g) (row:=none) (G.cK HK.out)) hk)));(case aO=>exact(G.cR bq.out));(case aS=>exact(zaB (w:=w) (g:=g) (row:=none) (G.cK HK.out)));(case aL=>have:=gb.out;omega);intro mP mQ ho hb hg hat;rw[←gH.out]at ho;have n0:=G.m (zcY (ok:=(fun k_=>(w.heap.size<=k_)/\some k_≠(.slice aN ag.length aM:Value).ownBlock/\k_≠ab/\k_≠ae/\k_≠g)) (by(with_reducible repeat(first|apply zbA|apply zbz|apply zbP));exact zbh aZ.out (fun _ hk=>⟨⟨hk.1,⟨hk.2.2.1,⟨hk.2.2.2.1,⟨hk.2.2.2.2.1,hk.2.2.2.2.2⟩⟩⟩⟩,hk.2.1⟩)) hg hat);have n1:=G.m (zbC (G.cR aV.out) (zbx (G.cR bq.out)) (zcr) hg);have n2:=G.bg aa hg (zcf bq.out aa.out (zcr));have n3:=G.bg ah hg (zcf bq.out ah.out (zcr));have n4:=G.m (zab.grown (zcg) hg (zab.own_ne am.out bq.out (zcr)));have n5:=G.m (zcz (ok:=(fun k_=>(w.heap.size<=k_)/\some k_≠(.slice (some dN) ac.length ce:Value).ownBlock/\some k_≠(.slice aN ag.length aM:Value).ownBlock/\k_≠ab/\k_≠ae/\k_≠g)) (by(with_reducible repeat(first|apply zdZ|apply zd6|apply zeq));exact zc3 cD.out (fun _ hk=>⟨⟨hk.1.1,⟨hk.2,⟨hk.1.2.2.1,⟨hk.1.2.2.2.1,⟨hk.1.2.2.2.2.1,hk.1.2.2.2.2.2⟩⟩⟩⟩⟩,hk.1.2.1⟩)) hg hat);have n6:=G.m (zct (zcW HB.out) HL.out hb);have n7:=G.m (zaz.trans (G.cK HK.out) (zaz.zcO hg g) (zfh bq.out));have n8:=G.m (ho);clear aZ aV aa ah am cD HB HK bq;revert n0 n1 n2 n3 n4 n5 n6 n7 n8;intro aZ aV aa ah am cD HB HK gJ;clear ho hb hg hat))
          go_roundg k1
          case measure=>have:=gY.out;omega
          case rel=>exact⟨(gc),(wrap64 (a6 - 1)),(by first|rfl|(simp;done)|(simp[*];done)),H',⟨by have:=gY.out;omega⟩,⟨by(with_reducible repeat(first|apply zbA|apply zbz|apply zbP));exact zbh aZ.out (fun _ hk=>⟨hk.1.1,⟨hk.2,⟨hk.1.2.1,⟨hk.1.2.2.1,⟨hk.1.2.2.2.1,hk.1.2.2.2.2⟩⟩⟩⟩⟩)⟩,⟨G.cR gJ.out⟩,⟨G.cR aV.out⟩,⟨G.cb aa.out⟩,⟨G.cb ah.out⟩,⟨zcg⟩,⟨G.cK HK.out⟩,⟨zcW HB.out⟩⟩
         ·rw[if_neg cy]at H;have ga:=decide_eq_false cy;clear cy
          obtain⟨kS,H⟩:=G.dp H
          obtain⟨kT,H⟩:=G.dp H;obtain⟨gh,cg⟩:∃y_:List (List Int),y_=(ac.set (ai:Int).toNat bw):=⟨_,rfl⟩;replace H:(some (ak,ag,gh,aK))=some (r1,r2,r3,r4):=G.y0 cg H
          have gK:=G.m cg;clear cg;simp only[Option.some.injEq,Prod.mk.injEq]at H;obtain⟨rfl,rfl,rfl,rfl⟩:=H;have eB:0<=(ai:Int):=G.da;have eC:(ai:Int)<((ac.length:Int):Int):=G.da;obtain⟨bD,l2,fe,ff,gM,l3,fg⟩:=zlQ aZ.out (by omega);(first|cases fe|(injection fe with ea_ en_ ec_;(first|subst ea_|(injection ea_ with ea_;subst ea_));subst ec_;clear en_));have gN:=G.m ff;have l4:=G.m fg;clear ff gM fg;(first|simp only[add_plain]at cv|skip);(first|simp only[add_plain]at dq|skip);obtain⟨l5,gi,fh,ej,ek⟩:=zhw aZ.out [] (ai:Int) eB eC;obtain⟨j1,j2,rfl,j3,j4⟩:=zbv fh;have fp:=ej 0 _ rfl;have fq:=ek 0;(try simp only[show((Kd.slice 3 (Kd.int .i64))).sz=1 from rfl,Nat.mul_one,Nat.add_zero]at fp);(try simp only[show((Kd.slice 3 (Kd.int .i64))).sz=1 from rfl,Nat.mul_one,Nat.add_zero]at fq);clear gi ej ek;(try clear fh);replace eB:=eq_true eB;replace eC:=eq_true eC;have fi:=G.m (show Kd.N (Kd.slice 3 (Kd.int .i64)) 45 wr w.heap.size (fun k_=>(w.heap.size<=k_)/\some k_≠(.slice aN ag.length aM:Value).ownBlock/\k_≠ab/\k_≠ae/\k_≠g) (.slice (some ⟨bD,0,none⟩) ac.length ce) ac from(by(with_reducible repeat(first|apply zbA|apply zbz|apply zbP));exact zbh aZ.out (fun _ hk=>⟨hk.1,⟨hk.2.2.1,⟨hk.2.2.2.1,⟨hk.2.2.2.2.1,hk.2.2.2.2.2⟩⟩⟩⟩)));obtain⟨l6,el,fj,da,em⟩:=zhw fi.out [] (ai:Int) G.da (by have h_:(ai:Int)<((ac.length:Int):Int):=G.da;first|exact h_|(have e_:=(zbp aZ.out).1;omega)|simpa using h_);obtain⟨j5,j6,rfl,j7,j8⟩:=zbv fj;obtain⟨gZ,g0,kU⟩:=zau bq.out;subst kU;have ch:=zox fi.out (ai:Int) G.da (by have h_:(ai:Int)<((ac.length:Int):Int):=G.da;first|exact h_|(have e_:=(zbp aZ.out).1;omega)|simpa using h_) (seg:=[(.slice gZ bw.length g0)]) (j:=0) el da (show 1<=1 from by decide) (x':=bw) (zdz (zaf (zam (ok':=(fun k_=>((fun k_=>(w.heap.size<=k_)/\some k_≠(.slice aN ag.length aM:Value).ownBlock/\k_≠ab/\k_≠ae/\k_≠g)) k_/\k_≠bD)) (zab.apart am.out (zaH (zaH (zb1 (zb1 (bq.out) (zbx aV.out) (zcr)) (zcx aZ.out) (zcr)) aa.out (zcr)) ah.out (zcr)) (zcr)) (fun k_ hk=>⟨⟨hk.1.1.1.1.1,⟨hk.1.1.1.1.2,⟨hk.1.1.2,⟨hk.1.2,hk.2⟩⟩⟩⟩,fun e_=>(hk.1.1.1.2) (by rw[e_];rfl)⟩))).2.1 (Kd.R_F (zam (ok':=(fun k_=>((fun k_=>(w.heap.size<=k_)/\some k_≠(.slice aN ag.length aM:Value).ownBlock/\k_≠ab/\k_≠ae/\k_≠g)) k_/\k_≠bD)) (zab.apart am.out (zaH (zaH (zb1 (zb1 (bq.out) (zbx aV.out) (zcr)) (zcx aZ.out) (zcr)) aa.out (zcr)) ah.out (zcr)) (zcr)) (fun k_ hk=>⟨⟨hk.1.1.1.1.1,⟨hk.1.1.1.1.2,⟨hk.1.1.2,⟨hk.1.2,hk.2⟩⟩⟩⟩,fun e_=>(hk.1.1.1.2) (by rw[e_];rfl)⟩)))) (fun _ hk=>hk);have ft:=da 0 _ rfl;(try simp only[show((Kd.slice 3 (Kd.int .i64))).sz=1 from rfl,Nat.mul_one,Nat.add_zero]at ft);have fu:=em 0;(try simp only[show((Kd.slice 3 (Kd.int .i64))).sz=1 from rfl,Nat.mul_one,Nat.add_zero]at fu);clear el da em;(try clear fj);(try simp only[show((Kd.slice 3 (Kd.int .i64))).sz=1 from rfl,Nat.mul_one,Nat.add_zero]at ch);(try simp only[show((Kd.slice 3 (Kd.int .i64))).sz=1 from rfl,Nat.mul_one,Nat.add_zero]at ch)
          go_wp2_with (first|((with_reducible refine zcw (t:=45) (p:=99) rfl ?_);refine zcl (t:=45) (p:=99) (v:= ?vo_w146) (w1:=(wr.setCell ⟨bD,(ai:Int).toNat,none⟩ ((.slice gZ bw.length g0)))) ?hg ?ho ?hn ?hr ?_;(case ho=>rfl);(case hg=>rfl);(case hn=>rfl);(case hr=>first|(go_simp;done)|(go_simp;rfl));intro db hw;have hg:wr.grownBy db (some bD):=(by rw[hw];exact ch.2);have hp_:Kd.N (Kd.slice 3 (Kd.int .i64)) 45 db w.heap.size (fun k_=>(w.heap.size<=k_)/\some k_≠(.slice aN ag.length aM:Value).ownBlock/\k_≠ab/\k_≠ae/\k_≠g) (.slice (some ⟨bD,0,none⟩) ac.length ce) gh:=(by rw[hw,gK.out];exact ch.1);clear ch;have n0:=G.m (hp_);have n1:=G.m (zbC (v:=(.slice (some ⟨bD,0,none⟩) ac.length ce)) (G.cR aV.out) (zcx aZ.out) (zcr) hg);have n2:=G.bg aa hg (zi9 aZ.out aa.out (zcr));have n3:=G.bg ah hg (zi9 aZ.out ah.out (zcr));have n4:=G.m (zab.grown (zcg) hg (zab.zef am.out aZ.out (zcr)));have n5:=G.m ((by rw[hw];exact zbn (HB.out) (Nat.le_trans HL.out gN.out):Below w0.heap.size w0 db));have n6:=G.m (zaz.trans (G.cK HK.out) (zaz.zcO hg g) (zf2 aZ.out));clear aZ aV aa ah am HB HK bq;revert n0 n1 n2 n3 n4 n5 n6;intro aZ aV aa ah am HB HK;clear hg hw hp_;have kV:=aE.out;have kW:=az.out;have kX:=av.out;have kY:=aT.out;have⟨iD,iE,iF,iG⟩:=G.d2 (w:=db) ah;have kZ:=au.out;have k0:=aW.out;have⟨iH,iI,iJ,iK⟩:=G.d2 (w:=db) aa))
          refine bodyPost_ret (zbM rfl _ _ ab 31 #[.int .i64 ak,.slice aN ag.length aM] (0,0) _ rfl (zmg) Try.underlying31 rfl (zkK)) rfl ?_;exact⟨_,_,G.er,by(with_reducible repeat(first|apply zav|apply zaw|apply zat));exact zam (zaP (p:=⟨ab,1,none⟩) (zaP (p:=⟨ab,0,none⟩) (zaH aV.out aa.out (zcr)) (fun _ hk=>hk.2) (.int .i64 ak)) (fun _ hk=>hk.2) (.slice aN ag.length aM)) (fun _ hk=>hk.1),by(with_reducible repeat(first|apply zbA|apply zbz|apply zbP));exact zbh (zdo (p:=⟨ab,1,none⟩) (zdo (p:=⟨ab,0,none⟩) (zbh aZ.out (fun k_ hk=>(⟨hk,hk.2.2.1⟩:_/\k_≠ab))) (fun _ hk=>hk.2) (.int .i64 ak)) (fun _ hk=>hk.2) (.slice aN ag.length aM)) (fun _ hk=>⟨hk.1.1,hk.1.2.1⟩),zcg,zcW HB.out,G.cK HK.out⟩
      ·rw[if_neg bX]at H;have ef:=beq_eq_false_iff_ne.mpr bX;have eg:=bne_iff_ne.mpr bX;simp only[Option.some.injEq,Prod.mk.injEq]at H;obtain⟨rfl,rfl,rfl,rfl⟩:=H
       go_enter Try.func71,Try.ntmps71
       go_wp2_with (first|((with_reducible refine G.h 2 rfl ?_);refine G.be 2 #[.int .i64 0,.slice none 0 0] 31 ?_;intro ab hg mR hbox hb;replace HB:=G.m (zao (zcW HB.out) hb);have aa:=G.m (hbox);have bG:=G.m (ze8:w.heap.size<=ab);have bH:=G.m (Nat.le_trans br.out (ze8:w.heap.size<=ab):w0.heap.size<=ab);replace HK:=G.kb HK hb;have aW:=G.m (zmn:g≠ab);have au:=G.m (zmZ:ab≠g);replace am:=G.m (zab.below (zcg) hb);clear hb hbox hg)|((with_reducible refine G.f 73 rfl ?_);refine G.gL 11 Try.func73 #[.pointer (some ⟨g,0,none⟩)] ?_;(with_reducible refine(zar.calls k g ao bf ak ag aC w0 _ ?side1 ?side2 A2.out).mono ?_);(case side1=>exact zcg);(case side2=>exact zcW HB.out);rintro e mS ⟨cj,rfl,aG,hi,hb,hk⟩;refine⟨_,rfl,?_⟩;replace aa:=G.kk aa au hk;have af:=G.m (zaI (zek (M:=fun k_=>(w.heap.size<=k_)) aG (zaB (w:=w) (g:=g) (row:=none) (G.cK HK.out)) (fun k_ h_=>h_)) (zaB (w:=w) (g:=g) (row:=none) (G.cK HK.out)));replace HK:=G.kt HK hk;replace HB:=G.m (hb);replace am:=G.m (hi);(try clear hb hk hi aG))|((with_reducible refine G.h 4 rfl ?_);refine G.be 4 #[.int .i64 0,.slice none 0 0] 31 ?_;intro ae hg gj hbox hb;have n0:=G.rb af hb;have n1:=G.m (zab.below (zcg) hb);have n2:=G.bb aa hb;have n3:=G.kb HK hb;have n4:=G.m (zao (zcW HB.out) hb);have n5:=G.m (hbox);have n6:=G.m (ze8:w.heap.size<=ae);have n7:=G.m (Nat.le_trans br.out (ze8:w.heap.size<=ae):w0.heap.size<=ae);have n8:=G.m (zmT:ab≠ae);have n9:=G.m (zl2:ae≠ab);have bx:=G.m (zm1:g≠ae);have bz:=G.m (zmi:ae≠g);clear af am aa HK HB;revert n0 n1 n2 n3 n4 n5 n6 n7 n8 n9 bx bz;intro af am aa HK HB ah bI bJ az aE aT av;clear hb hbox hg;have k2:=aE.out;have k3:=az.out;have k4:=av.out;have k5:=aT.out;have⟨iL,iM,iN,iO⟩:=G.d2 (w:=gj) ah;obtain⟨bd,ba,gO⟩:=zau af.out;subst gO)|((with_reducible refine G.f 22 rfl ?_);refine G.gL 14 Try.func22 #[.agg #[.int .i64 ak,.slice bd ag.length ba]] ?_;(with_reducible refine(zaq.calls k ak _ _ ag ac bV _ ?side1 ?side2 A3.out).mono ?_);(case side1=>refine(zaf (e:=59) (base:=w.heap.size) (ok:=fun k_=>((w.heap.size<=k_)/\True)) (n:=ag.length) (c:=ba) ?_).2.2;exact(zpY));(case side2=>exact(zaf af.out).2.1);rintro e mT ⟨ck,rfl,aG,hb⟩;refine⟨_,rfl,?_⟩;have aj:=G.m (zdy (zbh (ok':=fun k_=>(w.heap.size<=k_)/\some k_≠(.slice bd ag.length ba:Value).ownBlock/\k_≠ab/\k_≠ae/\k_≠g) (Kd.S_N (zej aG)) (fun k_ hk_=>⟨(Nat.le_trans (zaB (w:=w) (g:=g) (row:=none) (G.cK HK.out)) hk_.2.1),(Kd.fresh' (zb0 (zpY)) k_ hk_.2.1),(zb2 (g:=ab) (o:=.cells #[.int .i64 0,.slice none 0 0] 31 (0,0)) (ziG) k_ hk_.2.1),(zb2 (g:=ae) (o:=.cells #[.int .i64 ak,.slice bd ag.length ba] 31 (0,0)) (zik) k_ hk_.2.1),(zab.fresh (zcg) k_ hk_.2.1)⟩)) (zaB (w:=w) (g:=g) (row:=none) (G.cK HK.out)));replace af:=G.m (zcX (zpY) hb);replace aa:=G.m (zbE (g:=ab) (o:=.cells #[.int .i64 0,.slice none 0 0] 31 (0,0)) (ziG) hb);replace ah:=G.m (zbE (g:=ae) (o:=.cells #[.int .i64 ak,.slice bd ag.length ba] 31 (0,0)) (zik) hb);replace HK:=G.kb HK hb;replace HB:=G.m (zao (zcW HB.out) hb);replace am:=G.m (zab.below (show zab w0 ((gj.setCell ⟨ae,0,none⟩ (.int .i64 ak)).setCell ⟨ae,1,none⟩ (.slice bd ag.length ba)) g ao aC from zcg) hb);(try clear hb aG);obtain⟨l7,l8,gP⟩:=zd1 aj.out;subst gP)|((with_reducible refine G.f 104 rfl ?_);refine G.gL 26 Try.func104 #[.pointer (some ⟨g,0,none⟩),.int .i64 (ac.length:Int)] ?_;(with_reducible refine(zah.calls k g ao aC (ac.length:Int) ai a3 w0 _ ?side1 ?side2 cO.out).mono ?_);(case side1=>exact zcg);(case side2=>exact zcW HB.out);rintro e mU ⟨rfl,hi,hb,hk⟩;refine⟨_,rfl,?_⟩;replace aa:=G.kk aa au hk;replace af:=G.m (zam (zbu (zab.apart (show zab w0 _ g ao aC from zcg) (G.cR af.out) (zcr)) hk (fun _ h=>h.2)) (fun _ h=>h.1));replace ah:=G.kk ah av hk;replace aj:=G.m (zbh (zeB (zbh (ok:=fun k_=>(((w.heap.size<=k_))/\(some k_≠(.slice bd ag.length ba:Value).ownBlock/\(k_≠ab/\(k_≠ae/\k_≠g))))) (zgh) (fun k_ hk_=>(⟨hk_,hk_.2.2.2.2⟩:_/\k_≠g))) hk (fun _ h=>h.2)) (fun _ h=>h.1));replace HK:=G.kt HK hk;replace HB:=G.m (hb);replace am:=G.m (hi);(try clear hb hk hi))|((with_reducible refine G.f 104 rfl ?_);refine G.gL 28 Try.func104 #[.pointer (some ⟨g,0,none⟩),.int .i64 8] ?_;(with_reducible refine(zah.calls k g ao a3 8 aB aK w0 _ ?side1 ?side2 cP.out).mono ?_);(case side1=>exact zcg);(case side2=>exact zcW HB.out);rintro e gl ⟨rfl,hi,hb,hk⟩;refine⟨_,rfl,?_⟩;replace aa:=G.kk aa au hk;replace af:=G.m (zam (zbu (zab.apart (show zab w0 _ g ao a3 from zcg) (G.cR af.out) (zcr)) hk (fun _ h=>h.2)) (fun _ h=>h.1));replace ah:=G.kk ah av hk;replace aj:=G.m (zbh (zeB (zbh (ok:=fun k_=>(((w.heap.size<=k_))/\(some k_≠(.slice bd ag.length ba:Value).ownBlock/\(k_≠ab/\(k_≠ae/\k_≠g))))) (zgh) (fun k_ hk_=>(⟨hk_,hk_.2.2.2.2⟩:_/\k_≠g))) hk (fun _ h=>h.2)) (fun _ h=>h.1));replace HK:=G.kt HK hk;replace HB:=G.m (hb);replace am:=G.m (hi);(try clear hb hk hi);have⟨iP,iQ,iR,iS⟩:=G.d2 (w:=gl) ah;have k6:=au.out;have k7:=aW.out;have⟨iT,iU,iV,iW⟩:=G.d2 (w:=gl) aa))
       refine bodyPost_ret (zbM rfl _ _ ab 31 #[.int .i64 ak,.slice bd ag.length ba] (0,0) _ rfl (zmg) Try.underlying31 rfl (zkK)) rfl ?_;exact⟨_,_,G.er,by(with_reducible repeat(first|apply zav|apply zaw|apply zat));exact zam (zaP (p:=⟨ab,1,none⟩) (zaP (p:=⟨ab,0,none⟩) (zaH af.out aa.out (zcr)) (fun _ hk=>hk.2) (.int .i64 ak)) (fun _ hk=>hk.2) (.slice bd ag.length ba)) (fun _ hk=>hk.1.1),by(with_reducible repeat(first|apply zbA|apply zbz|apply zbP));exact zbh (zdo (p:=⟨ab,1,none⟩) (zdo (p:=⟨ab,0,none⟩) (zbh aj.out (fun k_ hk=>(⟨hk,hk.2.2.1⟩:_/\k_≠ab))) (fun _ hk=>hk.2) (.int .i64 ak)) (fun _ hk=>hk.2) (.slice bd ag.length ba)) (fun _ hk=>⟨hk.1.1,hk.1.2.1⟩),zcg,zcW HB.out,G.cK HK.out⟩
theorem zne {B:Nat}{w w1 w2:World}(H:Below B w w1) (h:Below B w w2:=by repeat(first|(with_reducible first|exact HB.out|apply zbo|apply zbi|apply zas)|(with_reducible refine zbn ?_ (zaa.out (by assumption)))|(with_reducible refine zbn ?_ (zab.ge ay.out))|exact HB.out)):Below B w w2:=h
def zcm.f (k:Nat) (l0:List Int):Option (Int× (List (S59))× (List (List Int))):=(zcP.f l0).bind fun ag=>((za0.f k ag.1 ag.2).bind fun ac=>(some (ac.1,ac.2.1,ac.2.2.1)))
theorem zcm.calls (k:Nat) (A0:Option Addr) (c0:Nat) (l0:List Int) (r1:Int) (r2:List (S59)) (r3:List (List Int)) (w:World) (az:Kd.C (Kd.int .u8) w A0 l0.length l0) (aA:l0.length<=c0) (h:zcm.f k l0=some (r1,r2,r3)):
  Calls Try.prog 27 #[.slice A0 l0.length c0] w fun e w'=>∃aq aB:Value,e=.returned (.tuple #[.agg #[.int .i64 r1,aq],aB])/\Kd.R k59 59 w' w.heap.size (fun k_=>(w.heap.size<=k_)) aq r2/\Kd.N (Kd.slice 3 (Kd.int .i64)) 45 w' w.heap.size (fun k_=>(w.heap.size<=k_)/\some k_≠(aq:Value).ownBlock) aB r3/\Below w.heap.size w w':=by
 have aO:=Try.underlying31;have aF:=G.m az;have aG:=G.m aA;clear az aA;have HB:=G.m (Below.refl w.heap.size w);unfold zcm.f at h;have H:=h;clear h;obtain⟨⟨ak,al⟩,A2,H⟩:=G.bi H;(try dsimp only at H);obtain⟨⟨ah,aj,au,aD⟩,A3,H⟩:=G.bi H;(try dsimp only at H);simp only[Option.some.injEq,Prod.mk.injEq]at H;obtain⟨rfl,rfl,rfl⟩:=H
 go_enter Try.func27,Try.ntmps27
 go_wp2_with (first|((with_reducible refine G.h 2 rfl ?_);refine G.be 2 #[.int .i64 0,.slice none 0 0] 31 ?_;intro aa hg w4 hbox hb;have ab:=G.m (hbox);have aM:=G.m ((by rw[hg];exact(zai (G.cB HB.out)):w.heap.size<=aa));have aN:=G.m ((by rw[hg];exact(zai (G.cB HB.out)):w.heap.size<=aa));replace HB:=G.bs HB hb;clear hb hbox hg)|((with_reducible refine G.f 72 rfl ?_);refine G.gL 5 Try.func72 #[.slice A0 l0.length c0] ?_;(with_reducible refine(zcP.calls _ _ l0 ak al w _ ?side1 ?side2 ?side3 A2.out).mono ?_);(case side1=>exact G.cB HB.out);(case side2=>exact aF.out);(case side3=>exact aG.out);rintro e w5 ⟨am,rfl,hi,hb,ao⟩;refine⟨_,rfl,?_⟩;replace HB:=G.m (hb);have af:=G.m (hi);have ae:=G.m (zab.zlr hi (zbE (g:=aa) (o:=.cells #[.int .i64 0,.slice none 0 0] 31 (0,0)) (G.cb ab.out) ao) (by decide));have ai:=G.m (Ne.symm (zab.zlr hi (zbE (g:=aa) (o:=.cells #[.int .i64 0,.slice none 0 0] 31 (0,0)) (G.cb ab.out) ao) (by decide)));replace ab:=G.m (zbE (g:=aa) (o:=.cells #[.int .i64 0,.slice none 0 0] 31 (0,0)) (G.cb ab.out) ao);(try clear hb ao hi))|((with_reducible refine G.f 71 rfl ?_);refine G.gL 6 Try.func71 #[.pointer (some ⟨am,0,none⟩)] ?_;(with_reducible refine(za0.calls k am ak al ah aj au aD w _ ?side1 ?side2 A3.out).mono ?_);(case side1=>repeat(first|(with_reducible first|exact af.out|apply zab.alloc|apply zab.drewN|apply zab.drew|apply zab.zgT|refine zab.far ?_ ae.out _)|exact af.out));(case side2=>exact zne HB.out);rintro e w6 ⟨aE,aP,rfl,aC,ho1,hi,hb,hk⟩;refine⟨_,rfl,?_⟩;have ap:=G.m (zaI (zek (M:=fun k_=>(w.heap.size<=k_)) (zam (ok':=fun k_=>True) aC (fun _ hk_=>trivial)) (zai (zne HB.out)) (fun k_ h_=>h_)) (zai (zne HB.out)));have ax:=G.m (zdy (zbh (ok':=fun k_=>(w.heap.size<=k_)/\some k_≠(aE:Value).ownBlock/\k_≠aa/\k_≠am) ho1 (fun k_ hk_=>⟨(Nat.le_trans (zai (zne HB.out)) hk_.1),hk_.2,(zb2 (g:=aa) (o:=.cells #[.int .i64 0,.slice none 0 0] 31 (0,0)) (G.cb ab.out) k_ hk_.1),(zab.fresh (by repeat(first|(with_reducible first|exact af.out|apply zab.alloc|apply zab.drewN|apply zab.drew|apply zab.zgT|refine zab.far ?_ ae.out _)|exact af.out)) k_ hk_.1)⟩)) (zai (zne HB.out)));replace ab:=G.kk ab ai hk;replace HB:=G.m (hb);replace af:=G.m (hi);(try clear hb hk hi aC ho1);have aQ:=ai.out;have aR:=ae.out;have⟨aH,aI,aJ,aK⟩:=G.d2 (w:=w6) ab;obtain⟨av,aw,aL⟩:=zau ap.out;subst aL))
 refine bodyPost_ret (zbM rfl _ _ aa 31 #[.int .i64 ah,.slice av aj.length aw] (0,0) _ rfl (G.bw ab.out) Try.underlying31 rfl (by kernel_rfl)) rfl ?_;exact⟨_,_,G.er,by(with_reducible repeat(first|apply zav|apply zaw|apply zat));exact zam (zaP (p:=⟨aa,1,none⟩) (zaP (p:=⟨aa,0,none⟩) (zaH ap.out ab.out (by decide)) (fun _ hk=>hk.2) (.int .i64 ah)) (fun _ hk=>hk.2) (.slice av aj.length aw)) (fun _ hk=>hk.1.1),by(with_reducible repeat(first|apply zbA|apply zbz|apply zbP));exact zbh (zdo (p:=⟨aa,1,none⟩) (zdo (p:=⟨aa,0,none⟩) (zbh ax.out (fun k_ hk=>(⟨hk,hk.2.2.1⟩:_/\k_≠aa))) (fun _ hk=>hk.2) (.int .i64 ah)) (fun _ hk=>hk.2) (.slice av aj.length aw)) (fun _ hk=>⟨hk.1.1,hk.1.2.1⟩),zne HB.out⟩
end Go.Proofs.Ytgeonpciodepgaa.P
namespace Go.Proofs.Ytgeonpciodepgaa.G
open Go.RowKit Go.Proofs.YtgeonpciodepgaaW.PrintWords
abbrev big:Int:=4611686018427387904
theorem w64 {x:Int}(h0: -9223372036854775808<=x) (h1:x<=9223372036854775807):wrap64 x=x:=by
 unfold wrap64
 omega
theorem zbB {α:Type}(pre:List α) (t:α) (suf:List α):(pre.length:Int)<((pre++t::suf).length:Int):=by
 simp;omega
theorem zcp {α:Type}(pre:List α):¬ (pre.length:Int)<((pre++[]).length:Int):=by
 simp
theorem nn (n:Nat):0<=(n:Int):=Int.natCast_nonneg n
theorem zbL {α:Type}(pre:List α) (t:α) (suf:List α):pre++t::suf=(pre++[t])++suf:=by simp
theorem zbZ {α:Type}{pre:List α}{t:α}(h:(pre.length:Int)<big):wrap64 ((pre.length:Int)+1)=((pre++[t]).length:Int):=by
 rw[w64 (by omega) (by unfold big at h;omega)];simp
theorem zdY {α:Type}(pre:List α) (t:α) (suf:List α) (d:α):(pre++t::suf).getD ((pre.length:Int)).toNat d=t:=by
 simp[List.getD]
theorem zcd (pre:List Int) (t:Int) (suf:List Int):rd (pre++t::suf) (pre.length:Int)=t:=by
 unfold rd;exact zdY pre t suf 0
theorem ziC {α:Type}(d:α) (pre:List α) (t:α) (suf:List α):zcI d (pre++t::suf) (pre.length:Int)=t:=by
 unfold zcI;exact zdY pre t suf d
theorem zch {α:Type}{pre:List α}{t:α}{suf:List α}(h:((pre++t::suf).length:Int)<big):(pre.length:Int)<big:=by
 simp at h;unfold big at*;omega
theorem zdJ {α:Type}{pre:List α}{t:α}{suf:List α}(h:((pre++t::suf).length:Int)<big):(((pre++[t])++suf).length:Int)<big:=by
 rw[←zbL];exact h
theorem Ev.const {α β:Type}{a:Option α}{f:Nat->α->Option β}{x:α}{r:β}(h:a=some x) (k:Ev (fun n=>f n x) r):Ev (fun n=>a.bind (f n)) r:=by
 subst h;exact k
theorem Ev.val {α:Type}{a:Option α}{r:α}(h:a=some r):Ev (fun _=>a) r:=⟨0,fun _ _=>h⟩
theorem Ev.eq {α:Type}{g:Nat->Option α}{r s:α}(h:Ev g r) (e:r=s):Ev g s:=e▸h
def tlt (s t:Tie):Prop:=s.f0<t.f0\/s.f0=t.f0/\s.f1<t.f1
instance(s t:Tie):Decidable (tlt s t):=by unfold tlt;infer_instance
def inr (n:Int) (t:Tie):Prop:=0<=t.f0/\t.f0<t.f1/\t.f1<n
instance(n:Int) (t:Tie):Decidable (inr n t):=by unfold inr;infer_instance
def asc:List Tie->Prop
 |[]=>True
 |[_]=>True
 |a::b::r=>tlt a b/\asc (b::r)
instance zmU:(l:List Tie)->Decidable (asc l)
 |[]=>isTrue trivial
 |[_]=>isTrue trivial
 |a::b::r=>by
  have:=zmU (b::r)
  unfold asc
  infer_instance
def ok (n:Int) (E:List Tie):Prop:=0<=n/\n<=8/\(∀t∈E,inr n t)/\asc E
instance(n:Int) (E:List Tie):Decidable (ok n E):=by unfold ok;infer_instance
theorem zeJ {a b c:Tie}(h:tlt a b) (k:tlt b c):tlt a c:=by
 unfold tlt at*;omega
theorem zfe (a:Tie):¬tlt a a:=by unfold tlt;omega
theorem zhn {a b:Tie}(h:tlt a b):¬tlt b a:=by unfold tlt at*;omega
theorem zf7 (a b:Tie):tlt a b\/a=b\/tlt b a:=by
 obtain⟨a0,a1⟩:=a
 obtain⟨b0,b1⟩:=b
 unfold tlt
 simp only[Tie.mk.injEq]
 omega
theorem ziK {a:Tie}{l:List Tie}:asc (a::l)↔(∀t∈l,tlt a t)/\asc l:=by
 induction l generalizing a with
 |nil=>simp[asc]
 |cons b r ih=>
  constructor
  ·intro h
   obtain⟨h1,h2⟩:=h
   refine⟨fun t ht=>?_,h2⟩
   rcases List.mem_cons.1 ht with rfl|ht
   ·exact h1
   ·exact zeJ h1 ((ih.1 h2).1 t ht)
  ·rintro⟨h1,h2⟩
   exact⟨h1 b (List.mem_cons_self),h2⟩
theorem zei {l:List Tie}:asc l↔l.Pairwise tlt:=by
 induction l with
 |nil=>simp[asc]
 |cons a l ih=>rw[ziK,List.pairwise_cons,ih]
theorem zhy {l:List Tie}(h:asc l):l.Nodup:=by
 rw[zei]at h
 exact h.imp (fun{a b} hab e=>by subst e;exact zfe a hab)
theorem zfW {l m:List Tie}(h:asc m) (s:l.Sublist m):asc l:=by
 rw[zei]at*;exact h.sublist s
theorem zi1 {l:List Tie}(p:Tie->Bool) (h:asc l):asc (l.filter p):=zfW h List.filter_sublist
theorem zjw {n:Int}{E:List Tie}(p:Tie->Bool) (h:ok n E):ok n (E.filter p):=
 ⟨h.1,h.2.1,fun t ht=>h.2.2.1 t (List.mem_filter.1 ht).1,zi1 p h.2.2.2⟩
theorem zgF {n:Int}{E F:List Tie}(h:ok n E) (s:F.Sublist E):ok n F:=
 ⟨h.1,h.2.1,fun t ht=>h.2.2.1 t (s.subset ht),zfW h.2.2.2 s⟩
theorem zmW {l:List Tie}(lo:Int) (hl:∀t∈l,0<=t.f0/\t.f0<8/\0<=t.f1/\t.f1<8) (h:asc l) (hlo:∀t∈l,lo<=t.f0*8+t.f1) (h64:lo<=64):(l.length:Int)<=64 - lo:=by
 induction l generalizing lo with
 |nil=>simp;omega
 |cons a r ih=>
  obtain⟨h1,h2⟩:=ziK.1 h
  have ha:=hlo a (List.mem_cons_self)
  have hb:=hl a (List.mem_cons_self)
  have:=ih (a.f0*8+a.f1+1) (fun t ht=>hl t (List.mem_cons_of_mem _ ht)) h2 (fun t ht=>by
   have:=h1 t ht
   have hc:=hl t (List.mem_cons_of_mem _ ht)
   unfold tlt at this;omega) (by omega)
  simp only[List.length_cons]
  omega
theorem zc2 {n:Int}{E:List Tie}(h:ok n E):(E.length:Int)<=64:=by
 have:=zmW (l:=E) 0 (fun t ht=>by have:=h.2.2.1 t ht;have:=h.2.1;unfold inr at*;omega) h.2.2.2 (fun t ht=>by have:=h.2.2.1 t ht;unfold inr at this;omega) (by omega)
 omega
end Go.Proofs.Ytgeonpciodepgaa.G
namespace Go.Proofs.Ytgeonpciodepgaa.P
open Go.RowKit Go.Proofs.YtgeonpciodepgaaW.PrintWords Go.Proofs.Ytgeonpciodepgaa.G Go.Proofs.YtgeonpciodepgaaW.PrintWords.Kd
theorem zf3 (pre:List S59) (t:S59) (suf:List S59):zac (pre++t::suf) (pre.length:Int)=t:=by
  unfold zac;exact zdY pre t suf _
theorem zlq (a b c:Int):zbR.f a b c=some (decide (b<=a/\a<=c)):=by
  unfold zbR.f
  by_cases h:b<=a<;>simp[h]
theorem zie (a b c d:Int):zb7.f a b c d=some (decide (tlt ⟨a,b⟩ ⟨c,d⟩)):=by
  unfold zb7.f tlt
  by_cases h:a<c
  · simp[h]
  · by_cases h2:a=c<;>simp[h,h2]
theorem zcb {α:Type}(p:List α) (q:α) (h:((p++[q]).length:Int)<big):wrap64 (((p++[q]).length:Int) - 1)=(p.length:Int):=by
  rw[w64 (by rw[List.length_append];omega) (by unfold big at h;omega)];simp
theorem zeF {α:Type}(p:List α) (q:α) (suf:List α):p++[q]++suf=p++q::suf:=by simp
theorem zgN {α:Type}(p:List α) (q:α) (suf:List α):(p.length:Int)<((p++[q]++suf).length:Int):=by simp;omega
theorem zjm (n:Int) (h0:0<=n) (h8:n<=8):∀ (suf p:List S59) (q:S59),(((p++[q])++suf).length:Int)<big->
    Ev (fun k=>zaE.l0 k ((p++[q]).length:Int) n ((p++[q])++suf)) (decide ((∀t∈suf,inr n t)/\asc (q::suf))):=by
  intro suf
  induction suf with
  |nil=>
    intro p q hb
    refine Ev.step (fun k=>by simp only[zaE.l0,zcp,if_false]<;>exact rfl) ?_
    exact Ev.val (congrArg some (decide_eq_true (by simp[asc])).symm)
  |cons t suf ih=>
    intro p q hb
    have hp:((p++[q]).length:Int)<big:=zch hb
    have e1:((p++[q]).length:Int)>0:=by rw[List.length_append,List.length_singleton];omega
    refine Ev.step (fun k=>by simp only[zaE.l0,zbB,nn,if_true,zf3,zlq,zie,Option.bind_some,e1,zcb p q hp,zgN,zbZ (t:=t) hp]<;>exact rfl) ?_
    have e2:zac (p++[q]++t::suf) (p.length:Int)=q:=by rw[zeF];exact zf3 p q _
    simp only[e2,decide_eq_true_eq]
    rw[w64 (by omega) (by omega)]
    by_cases c1:0<=t.f0/\t.f0<=n - 1
    · simp only[if_pos c1]
      rw[w64 (by omega) (by omega)]
      by_cases c2:t.f0+1<=t.f1/\t.f1<=n - 1
      · simp only[if_pos c2]
        have ht:inr n t:=by unfold inr;omega
        by_cases c3:tlt q t
        · simp only[if_pos c3]
          rw[zbL (p++[q]) t suf]
          refine Ev.eq (ih (p++[q]) t (zdJ hb)) ?_
          rw[decide_eq_decide]
          simp[asc,ht,c3]
        · simp only[if_neg c3]
          exact Ev.val (by simp[asc,c3])
      · simp only[if_neg c2]
        refine Ev.val ?_
        have:¬inr n t:=by unfold inr;omega
        simp[this]
    · simp only[if_neg c1]
      refine Ev.val ?_
      have:¬inr n t:=by unfold inr;omega
      simp[this]
theorem zfz (n:Int) (E:List S59) (hb:(E.length:Int)<big):Ev (fun k=>zaE.f k n E) (decide (ok n E)):=by
  unfold zaE.f
  simp only[zlq,Option.bind_some,decide_eq_true_eq]
  by_cases c1:0<=n/\n<=8
  · simp only[if_pos c1]
    by_cases c2:(E.length:Int)>64
    · refine Ev.step (fun k=>by simp only[zaE.j0,c2,decide_true,if_true]<;>exact rfl) ?_
      exact Ev.val (by rw[decide_eq_false (fun h=>by have:=zc2 h;omega)])
    · refine Ev.step (fun k=>by simp only[zaE.j0,c2,decide_false,Bool.false_eq_true,if_false]<;>exact rfl) ?_
      cases E with
      |nil=>
        refine Ev.step (fun k=>by simp[zaE.l0]<;>exact rfl) ?_
        exact Ev.val (by simp[ok,asc,c1])
      |cons t suf=>
        have l1:(0:Int)<((t::suf).length:Int):=by rw[List.length_cons];omega
        have r1:zac (t::suf) 0=t:=rfl
        have h0:(0:Int)<=0:=Int.le_refl 0
        have w1:wrap64 (0+1)=1:=w64 (by omega) (by omega)
        have g1:¬ (0:Int)>0:=by omega
        refine Ev.step (fun k=>by simp only[zaE.l0,l1,h0,if_true,r1,zlq,Option.bind_some,w1,g1,if_false,decide_eq_true_eq]<;>exact rfl) ?_
        rw[w64 (by omega) (by omega)]
        by_cases d1:0<=t.f0/\t.f0<=n - 1
        · simp only[if_pos d1]
          rw[w64 (by omega) (by omega)]
          by_cases d2:t.f0+1<=t.f1/\t.f1<=n - 1
          · simp only[if_pos d2]
            have ht:inr n t:=by unfold inr;omega
            refine Ev.eq (zjm n c1.1 c1.2 suf [] t hb) ?_
            rw[decide_eq_decide]
            simp[ok,c1,ht]
          · simp only[if_neg d2]
            refine Ev.val ?_
            have:¬inr n t:=by unfold inr;omega
            simp[this,ok]
        · simp only[if_neg d1]
          refine Ev.val ?_
          have:¬inr n t:=by unfold inr;omega
          simp[this,ok]
  · simp only[if_neg c1]
    refine Ev.step (fun k=>by simp only[zaE.j0,if_true]<;>exact rfl) ?_
    refine Ev.val ?_
    have:¬ok n E:=fun h=>c1 ⟨h.1,h.2.1⟩
    simp[this]
def zfd (x y:Int):Int:=if x<y then -1 else if y<x then 1 else 0
theorem cmp_eq (a b:Int):cmp_Compare_int.f a b=some (zfd a b):=by
  unfold cmp_Compare_int.f zfd
  simp only[cmp_isNaN_int.f,bne_self_eq_false,Option.bind_some,Bool.false_eq_true,if_false]
  repeat' split
  all_goals first|rfl|omega
def ord (a b c d:Int):Int:=if zfd a c=0 then zfd b d else zfd a c
theorem zjN (a b c d:Int):ord a b c d>=0↔¬tlt ⟨a,b⟩ ⟨c,d⟩:=by
  unfold ord zfd tlt
  simp only
  repeat' split
  all_goals omega
theorem zlC (x y:Int):Ev (fun k=>zbm.f k [x,y]) (if x=0 then y else x):=by
  unfold zbm.f
  have l:(([x,y]:List Int).length:Int)=2:=rfl
  have r0:rd [x,y] 0=x:=rfl
  have r1:rd [x,y] 1=y:=rfl
  have h0:(0:Int)<=0:=Int.le_refl 0
  have a1:(0:Int)<=1:=by omega
  have a2:(0:Int)<2:=by omega
  have a3:(1:Int)<2:=by omega
  have a4:¬ (2:Int)<2:=by omega
  have w1:wrap64 (0+1)=1:=w64 (by omega) (by omega)
  have w2:wrap64 (1+1)=2:=w64 (by omega) (by omega)
  refine Ev.step (fun k=>by simp only[zbm.l0,l,r0,h0,a2,if_true,w1]<;>exact rfl) ?_
  by_cases c:x=0
  · simp only[if_pos c]
    refine Ev.step (fun k=>by simp only[zbm.l0,l,r1,a1,a3,if_true,w2]<;>exact rfl) ?_
    by_cases d:y=0
    · simp only[if_pos d]
      refine Ev.step (fun k=>by simp only[zbm.l0,a4,if_false]<;>exact rfl) ?_
      exact Ev.val (by rw[d])
    · simp only[if_neg d]
      exact Ev.val rfl
  · simp only[if_neg c]
    exact Ev.val rfl
theorem zld (a b c d:Int):Ev (fun k=>zba.f k a b c d) (ord a b c d):=by
  unfold zba.f
  simp only[cmp_eq,Option.bind_some]
  exact Ev.bind (zlC _ _) (Ev.val rfl)
theorem zhh:∀ (suf p:List S59) (q:S59),(((p++[q])++suf).length:Int)<big->
    Ev (fun k=>zaJ.l0 k ((p++[q])++suf) ((p++[q]).length:Int)) (decide (asc (q::suf))):=by
  intro suf
  induction suf with
  |nil=>
    intro p q hb
    refine Ev.step (fun k=>by simp only[zaJ.l0,zcp,if_false]<;>exact rfl) ?_
    exact Ev.val (congrArg some (decide_eq_true (by simp[asc])).symm)
  |cons t suf ih=>
    intro p q hb
    have hp:((p++[q]).length:Int)<big:=zch hb
    have e2:zac (p++[q]++t::suf) (p.length:Int)=q:=by rw[zeF];exact zf3 p q _
    refine Ev.step (fun k=>by simp only[zaJ.l0,zbB,nn,if_true,zf3,zcb p q hp,zgN,zbZ (t:=t) hp,e2]<;>exact rfl) ?_
    refine Ev.bind (zld _ _ _ _) ?_
    simp only[zjN]
    by_cases c3:tlt q t
    · simp only[c3,not_true_eq_false,if_false]
      rw[zbL (p++[q]) t suf]
      refine Ev.eq (ih (p++[q]) t (zdJ hb)) ?_
      rw[decide_eq_decide]
      simp[asc,c3]
    · simp only[c3,not_false_eq_true,if_true]
      exact Ev.val (by simp[asc,c3])
theorem zhq (E:List S59) (hb:(E.length:Int)<big):Ev (fun k=>zaJ.f k E) (decide (asc E)):=by
  unfold zaJ.f
  cases E with
  |nil=>
    refine Ev.step (fun k=>by simp[zaJ.l0]<;>exact rfl) ?_
    exact Ev.val (congrArg some (decide_eq_true (by simp[asc])).symm)
  |cons t suf=>exact zhh suf [] t hb
theorem zjT (n:Int) (E:List S59) (hE:(E.length:Int)<big):∀ (suf p:List S59),((p++suf).length:Int)<big->
    Ev (fun k=>zaW.l0 k (p++suf) ((p++suf).length:Int) (p.length:Int) n E) (decide ((∀t∈suf,inr n t)/\asc E)):=by
  intro suf
  induction suf with
  |nil=>
    intro p hb
    refine Ev.step (fun k=>by simp only[zaW.l0,zcp,if_false]<;>exact rfl) ?_
    refine Ev.bind (zhq E hE) ?_
    exact Ev.val (by simp)
  |cons t suf ih=>
    intro p hb
    have hp:(p.length:Int)<big:=zch hb
    refine Ev.step (fun k=>by simp only[zaW.l0,zbB,nn,if_true,zf3,zbZ (t:=t) hp]<;>exact rfl) ?_
    by_cases c1:t.f0<0
    · simp only[if_pos c1]
      exact Ev.val (by have:¬inr n t:=by unfold inr;omega
                       simp[this])
    · simp only[if_neg c1]
      by_cases c2:t.f0>=t.f1
      · simp only[if_pos c2]
        exact Ev.val (by have:¬inr n t:=by unfold inr;omega
                         simp[this])
      · simp only[if_neg c2]
        by_cases c3:t.f1>=n
        · simp only[if_pos c3]
          exact Ev.val (by have:¬inr n t:=by unfold inr;omega
                           simp[this])
        · simp only[if_neg c3]
          rw[zbL p t suf]
          refine Ev.eq (ih (p++[t]) (zdJ hb)) ?_
          have:inr n t:=by unfold inr;omega
          rw[decide_eq_decide]
          simp[this]
theorem ziD (n:Int) (E:List S59) (hb:(E.length:Int)<big):Ev (fun k=>zaW.f k n E) (decide (ok n E)):=by
  unfold zaW.f
  by_cases c1:n<0
  · simp only[if_pos c1]
    refine Ev.step (fun k=>by simp only[zaW.j0,if_true]<;>exact rfl) ?_
    exact Ev.val (by have:¬ok n E:=fun h=>by have:=h.1;omega
                     simp[this])
  · simp only[if_neg c1]
    by_cases c2:n>8
    · refine Ev.step (fun k=>by simp only[zaW.j0,c2,decide_true,if_true]<;>exact rfl) ?_
      exact Ev.val (by have:¬ok n E:=fun h=>by have:=h.2.1;omega
                       simp[this])
    · refine Ev.step (fun k=>by simp only[zaW.j0,c2,decide_false,Bool.false_eq_true,if_false]<;>exact rfl) ?_
      refine Ev.eq (zjT n E hb E [] hb) ?_
      rw[decide_eq_decide]
      unfold ok
      constructor
      · exact fun h=>⟨by omega,by omega,h.1,h.2⟩
      · exact fun h=>⟨h.2.2.1,h.2.2.2⟩
end Go.Proofs.Ytgeonpciodepgaa.P
namespace Go.Proofs.Ytgeonpciodepgaa.P
open Go.RowKit Go.Lib Go.Sort Go.Proofs.YtgeonpciodepgaaW.PrintWords Go.Proofs.YtgeonpciodepgaaW.PrintLast Go.Proofs.YtgeonpciodepgaaW.PrintMore Go.Proofs.Ytgeonpciodepgaa.G Go.Proofs.YtgeonpciodepgaaW.PrintWords.Kd
set_option maxHeartbeats 4000000 in
set_option maxRecDepth 100000 in
theorem zlc (x y:G.Tie) (W:World):Calls Try.prog 80 #[.agg #[.int .i64 x.f0,.int .i64 x.f1],.agg #[.int .i64 y.f0,.int .i64 y.f1]] W fun e w'=>e=.returned (.int .i64 (ord x.f0 x.f1 y.f0 y.f1))/\∃q os',w'=grow (W.drewN q) os':=by
 obtain⟨k,hk⟩:=Ev.rounds (zlC (zfd x.f0 y.f0) (zfd x.f1 y.f1))
 obtain⟨r,hr⟩:∃r:Int,(if zfd x.f0 y.f0=0 then zfd x.f1 y.f1 else zfd x.f0 y.f0)=r:=⟨_,rfl⟩
 rw[hr]at hk
 have HK1:=zaa.mk hk
 have HR:=zaa.mk hr
 clear hk hr
 have hu51:=Try.underlying59
 go_enter Try.func80,Try.ntmps80
 go_wp2
 obtain⟨g1,hg1⟩:∃g,W.heap.size=g:=⟨_,rfl⟩
 have BK1:zaa (((W.alloc (Obj.cells #[Value.int IntKind.i64 x.f0,Value.int IntKind.i64 x.f1] 59)).alloc (Obj.cells #[Value.int IntKind.i64 y.f0,Value.int IntKind.i64 y.f1] 59)).heap[W.heap.size]? =some (.cells #[.int .i64 x.f0,.int .i64 x.f1] 59 (0,0))):=⟨zbc (zfb W _) _⟩
 have BK2:zaa (((W.alloc (Obj.cells #[Value.int IntKind.i64 x.f0,Value.int IntKind.i64 x.f1] 59)).alloc (Obj.cells #[Value.int IntKind.i64 y.f0,Value.int IntKind.i64 y.f1] 59)).heap[W.heap.size+1]? =some (.cells #[.int .i64 y.f0,.int .i64 y.f1] 59 (0,0))):=⟨by
  have:=zfb (W.alloc (Obj.cells #[Value.int IntKind.i64 x.f0,Value.int IntKind.i64 x.f1] 59)) (Obj.cells #[Value.int IntKind.i64 y.f0,Value.int IntKind.i64 y.f1] 59)
  rw[show(W.alloc (Obj.cells #[Value.int IntKind.i64 x.f0,Value.int IntKind.i64 x.f1] 59)).heap.size=W.heap.size+1 from Array.size_push _]at this
  exact this⟩
 have HG:zaa (∃os,((W.alloc (Obj.cells #[Value.int IntKind.i64 x.f0,Value.int IntKind.i64 x.f1] 59)).alloc (Obj.cells #[Value.int IntKind.i64 y.f0,Value.int IntKind.i64 y.f1] 59))=grow W os):=⟨_,by rw[alloc_eq_grow,alloc_eq_grow,grow_grow]⟩
 generalize((W.alloc (Obj.cells #[Value.int IntKind.i64 x.f0,Value.int IntKind.i64 x.f1] 59)).alloc (Obj.cells #[Value.int IntKind.i64 y.f0,Value.int IntKind.i64 y.f1] 59))=W2 at BK1 BK2 HG⊢
 rw[hg1]at BK1 BK2⊢
 have c1:zaa (∀q,(W2.drewN q).cell? ⟨g1,0,none⟩=some (.int .i64 x.f0)/\(W2.drewN q).cell? ⟨g1,1,none⟩=some (.int .i64 x.f1)/\(W2.drewN q).cell? ⟨g1+1,0,none⟩=some (.int .i64 y.f0)/\(W2.drewN q).cell? ⟨g1+1,1,none⟩=some (.int .i64 y.f1)):=
  ⟨fun q=>⟨(zbs (zbS BK1.out q) 0).trans rfl,(zbs (zbS BK1.out q) 1).trans rfl,(zbs (zbS BK2.out q) 0).trans rfl,(zbs (zbS BK2.out q) 1).trans rfl⟩⟩
 have d1:W2.drew=W2.drewN 1:=rfl
 refine ze5 (n:=13) (S:=fun w'=>w'.cell? ⟨g1,0,none⟩=some (.int .i64 x.f0)/\w'.cell? ⟨g1,1,none⟩=some (.int .i64 x.f1)/\w'.cell? ⟨g1+1,0,none⟩=some (.int .i64 y.f0)/\w'.cell? ⟨g1+1,1,none⟩=some (.int .i64 y.f1)) (ds:=[10,11]) (G.fl 13 0) (by kernel_rfl) rfl (by kernel_rfl) (by rw[d1];exact c1.out 1) (fun hHeld=>?_)
 have HW:zaa (∃q,W2.drew=W2.drewN q):=⟨1,d1⟩
 clear d1
 generalize W2.drew=w8 at hHeld HW⊢
 refine G.pu 0 5 1 ?_
 refine G.pu 2 7 5 ?_
 refine G.pu 5 10 37 ?_
 refine G.pu 7 12 165 ?_
 refine G.ta4 1 6 167 ?_
 refine G.ta4 3 8 175 ?_
 refine G.ta4 6 11 239 ?_
 refine G.ta4 8 13 495 ?_
 refine zgj (i:=4) (N:=some 9) (G.fl 13 511) rfl rfl (by kernel_rfl) (by decide) (fun K hK=>?_)
 refine zdd Try.func110 (by kernel_rfl) rfl #[.int .i64 x.f0,.int .i64 y.f0] (by rfl) rfl rfl (G.ar) ?_
 with_reducible refine(cmp_Compare_int.calls x.f0 y.f0 (zfd x.f0 y.f0) _ (cmp_eq _ _)).mono ?_
 rintro e w' ⟨rfl,⟨nd,rfl⟩⟩
 refine⟨_,rfl,?_⟩
 refine hK.out _ _ ?_ (fun hHeld=>?_)
 ·obtain⟨q,rfl⟩:=HW.out;exact c1.out (q+nd)
 clear hK K
 refine G.no 9 ?_
 refine zgj (i:=9) (N:=some 14) (G.fl 13 1023) rfl rfl (by kernel_rfl) (by decide) (fun K hK=>?_)
 refine zdd Try.func110 (by kernel_rfl) rfl #[.int .i64 x.f1,.int .i64 y.f1] (by rfl) rfl rfl (G.ar) ?_
 with_reducible refine(cmp_Compare_int.calls x.f1 y.f1 (zfd x.f1 y.f1) _ (cmp_eq _ _)).mono ?_
 rintro e w' ⟨rfl,⟨nd2,rfl⟩⟩
 refine⟨_,rfl,?_⟩
 refine hK.out _ _ ?_ (fun hHeld=>?_)
 ·obtain⟨q,rfl⟩:=HW.out;exact c1.out (q+nd+nd2)
 clear hK K
 refine G.no 14 ?_
 have HW2:zaa (∃q,(w8.drewN nd).drewN nd2=W2.drewN q):=⟨by obtain⟨q,rfl⟩:=HW.out;exact⟨q+nd+nd2,by simp[World.drewN,Nat.add_assoc]⟩⟩
 generalize(w8.drewN nd).drewN nd2=w9 at hHeld HW2⊢
 refine zkC (i:=10) (N:=some 15) (G.fl 13 2047) rfl rfl (by kernel_rfl) (by decide) (fun K hK=>?_)
 refine zea (v:=.slice (some ⟨w9.heap.size,0,none⟩) 2 2) (w1:=w9.alloc (.cells #[.int .i64 (zfd x.f0 y.f0),.int .i64 (zfd x.f1 y.f1)] 3)) (by rfl) rfl (by first|(go_simp;done)|(go_simp;rfl)) ?_
 refine hK.out _ _ ?_
 clear hK K
 refine G.no 15 ?_
 refine zkC (i:=11) (N:=some 16) (G.fl 13 4095) rfl rfl (by kernel_rfl) (by decide) (fun K hK=>?_)
 refine zdd Try.func109 (by kernel_rfl) rfl #[.slice (some ⟨w9.heap.size,0,none⟩) 2 2] (by rfl) rfl rfl (G.ar) ?_
 have bn:=zfb w9 (.cells #[.int .i64 (zfd x.f0 y.f0),.int .i64 (zfd x.f1 y.f1)] 3 (0,0))
 have rd0:Kd.C (Kd.int .i64) (w9.alloc (.cells #[.int .i64 (zfd x.f0 y.f0),.int .i64 (zfd x.f1 y.f1)] 3)) (some ⟨w9.heap.size,0,none⟩) [zfd x.f0 y.f0,zfd x.f1 y.f1].length [zfd x.f0 y.f0,zfd x.f1 y.f1]:=by
  refine zc7 (d:=(0:Int)) (h1:=fun _=>rfl) ⟨rfl,by simp,fun hn=>⟨_,rfl,fun j hj=>?_⟩⟩
  match j,hj with
  |0,_=>exact(zbs bn 0).trans rfl
  |1,_=>exact(zbs bn 1).trans rfl
 refine(zbm.calls k _ 2 [zfd x.f0 y.f0,zfd x.f1 y.f1] _ _ rd0 (Nat.le_refl _) HK1.out).mono ?_
 rintro e w' ⟨rfl,⟨nd3,rfl⟩⟩
 refine⟨_,rfl,?_⟩
 refine hK.out _ _ ?_
 clear hK K
 refine G.no 16 ?_
 refine G.pu 12 4 8191 ?_
 refine zbO (by kernel_rfl) ?_
 go_wp2
 go_ret
 refine⟨?_,?_⟩
 ·rw[←HR.out]
  rfl
 ·obtain⟨os,e1⟩:=HG.out
  obtain⟨q,e2⟩:=HW2.out
  rw[e2,e1]
  refine⟨q+nd3,os++ #[.cells #[.int .i64 (zfd x.f0 y.f0),.int .i64 (zfd x.f1 y.f1)] 3],?_⟩
  rw[alloc_eq_grow]
  show(grow (grow (W.drewN q) os) _).drewN nd3=_
  rw[grow_grow]
  show grow ((W.drewN q).drewN nd3) _=_
  congr 1
  simp[World.drewN,Nat.add_assoc]
end Go.Proofs.Ytgeonpciodepgaa.P
namespace Go.Proofs
open Go.Shelf
def Try.zhE:Go.Shelf.Ren:=⟨fun|6=>79|15=>108|14=>107|28=>127|29=>128|20=>119|21=>120|22=>121|23=>122|24=>123|25=>124|26=>125|27=>126|46=>133|47=>134|48=>135|49=>136|50=>137|57=>139|n=>n,fun|22=>29|24=>59|25=>94|3=>3|39=>116|0=>0|53=>131|55=>133|4=>4|46=>124|45=>123|50=>128|5=>5|9=>9|66=>136|70=>140|76=>143|77=>144|n=>n,fun|n=>n⟩
theorem Try.zkP:Go.Proofs.SlLaysF0.n6 Try.prog Try.zhE:={
 mixed:=by kernel_rfl
 f6:=⟨Try.f79.name,by decide,Try.func79.trans (congrArg some (by kernel_rfl))⟩
 f14:=⟨Try.f107.name,by decide,Try.func107.trans (congrArg some (by kernel_rfl))⟩
 f15:=Try.func108.trans (congrArg some (by kernel_rfl))
 f20:=⟨Try.f119.name,by decide,Try.func119.trans (congrArg some (by kernel_rfl))⟩
 f21:=⟨Try.f120.name,by decide,Try.func120.trans (congrArg some (by kernel_rfl))⟩
 f22:=⟨Try.f121.name,by decide,Try.func121.trans (congrArg some (by kernel_rfl))⟩
 f23:=⟨Try.f122.name,by decide,Try.func122.trans (congrArg some (by kernel_rfl))⟩
 f24:=⟨Try.f123.name,by decide,Try.func123.trans (congrArg some (by kernel_rfl))⟩
 f25:=⟨Try.f124.name,by decide,Try.func124.trans (congrArg some (by kernel_rfl))⟩
 f26:=⟨Try.f125.name,by decide,Try.func125.trans (congrArg some (by kernel_rfl))⟩
 f27:=⟨Try.f126.name,by decide,Try.func126.trans (congrArg some (by kernel_rfl))⟩
 f28:=Try.func127.trans (congrArg some (by kernel_rfl))
 f29:=Try.func128.trans (congrArg some (by kernel_rfl))
 f46:=⟨Try.f133.name,by decide,Try.func133.trans (congrArg some (by kernel_rfl))⟩
 f47:=Try.func134.trans (congrArg some (by kernel_rfl))
 f48:=Try.func135.trans (congrArg some (by kernel_rfl))
 f49:=⟨Try.f136.name,by decide,Try.func136.trans (congrArg some (by kernel_rfl))⟩
 f50:=⟨Try.f137.name,by decide,Try.func137.trans (congrArg some (by kernel_rfl))⟩
 f57:=⟨Try.f139.name,by decide,Try.func139.trans (congrArg some (by kernel_rfl))⟩
 t0:=Try.underlying0
 a0:=Try.isAgg0
 z0:=Try.sizeOf0
 v0:=Try.zeroValue0
 t3:=Try.underlying3
 a3:=Try.isAgg3
 z3:=Try.sizeOf3
 v3:=Try.zeroValue3
 t4:=Try.underlying4
 a4:=Try.isAgg4
 z4:=Try.sizeOf4
 v4:=Try.zeroValue4
 t5:=Try.underlying5
 a5:=Try.isAgg5
 z5:=Try.sizeOf5
 v5:=Try.zeroValue5
 t9:=Try.underlying9
 a9:=Try.isAgg9
 z9:=Try.sizeOf9
 v9:=Try.zeroValue9
 t22:=Try.underlying29
 a22:=Try.isAgg29
 z22:=Try.sizeOf29
 v22:=Try.zeroValue29
 t25:=Try.underlying94
 a25:=Try.isAgg94
 z25:=Try.sizeOf94
 v25:=Try.zeroValue94
 t39:=Try.underlying116
 a39:=Try.isAgg116
 z39:=Try.sizeOf116
 v39:=Try.zeroValue116
 t45:=Try.underlying123
 a45:=Try.isAgg123
 z45:=Try.sizeOf123
 v45:=Try.zeroValue123
 t46:=Try.underlying124
 a46:=Try.isAgg124
 z46:=Try.sizeOf124
 v46:=Try.zeroValue124
 t50:=Try.underlying128
 a50:=Try.isAgg128
 z50:=Try.sizeOf128
 v50:=Try.zeroValue128
 t53:=Try.underlying131
 a53:=Try.isAgg131
 z53:=Try.sizeOf131
 v53:=Try.zeroValue131
 t55:=Try.underlying133
 a55:=Try.isAgg133
 z55:=Try.sizeOf133
 v55:=Try.zeroValue133
 t66:=Try.underlying136
 a66:=Try.isAgg136
 z66:=Try.sizeOf136
 v66:=Try.zeroValue136
 t70:=Try.underlying140
 a70:=Try.isAgg140
 z70:=Try.sizeOf140
 v70:=Try.zeroValue140
 t76:=Try.underlying143
 a76:=Try.isAgg143
 z76:=Try.sizeOf143
 v76:=Try.zeroValue143
 t77:=Try.underlying144
 a77:=Try.isAgg144
 z77:=Try.sizeOf144
 v77:=Try.zeroValue144}
end Go.Proofs
namespace Go.Proofs.Ytgeonpciodepgaa.P
open Go.RowKit Go.Lib Go.Sort Go.Proofs.YtgeonpciodepgaaW.PrintWords Go.Proofs.Ytgeonpciodepgaa.G Go.Proofs.YtgeonpciodepgaaW.PrintWords.Kd
def ze9 (x:G.Tie):List Value:=[.int .i64 x.f0,.int .i64 x.f1]
instance:Inhabited G.Tie:=⟨⟨0,0⟩⟩
theorem zjF:∀ (l:List G.Tie) (t:Nat),t<l.length*2->(l.flatMap ze9)[t]? =some ((ze9 (l.getD (t/2) default))[t%2]!)
 |[],t,h=>by simp at h
 |x::r,t,h=>by
  rw[List.flatMap_cons]
  match t with
  |0=>rfl
  |1=>rfl
  |t+2=>
   have e1:(t+2)/2=t/2+1:=by omega
   have e2:(t+2)%2=t%2:=by omega
   rw[e1,e2]
   have:=zjF r t (by simp only[List.length_cons]at h;omega)
   simpa [ze9] using this
theorem ze1 (l:List G.Tie):(l.flatMap ze9).length=l.length*2:=by
 induction l with
 |nil=>rfl
 |cons x r ih=>rw[List.flatMap_cons,List.length_append,ih];simp[ze9];omega
theorem zjB (l:List G.Tie):flatK ze9 2 l.toArray=(l.flatMap ze9).toArray:=by
 apply Array.ext_getElem?
 intro t
 by_cases h:t<l.length*2
 ·have a:=zjF l t h
  have b:(l.flatMap ze9).toArray[t]? =(l.flatMap ze9)[t]? :=by simp
  rw[b,a]
  unfold flatK
  simp[h]
 ·have b:(l.flatMap ze9).toArray[t]? =none:=by
   rw[Array.getElem?_eq_none]
   have:=ze1 l
   simp
   simp at this
   omega
  rw[b]
  unfold flatK
  simp
  omega
def cfT (x y:G.Tie):Int:=ord x.f0 x.f1 y.f0 y.f1
theorem zoN (x y:G.Tie):ltOf cfT x y=decide (tlt x y):=by
 unfold ltOf cfT
 have:=zjN x.f0 x.f1 y.f0 y.f1
 exact decide_eq_decide.2 (by
  constructor
  ·intro h
   apply Classical.byContradiction
   intro q
   have:=this.2 q
   omega
  ·intro h
   apply Classical.byContradiction
   intro q
   exact this.1 (by omega) h)
theorem zqV:SWO (ltOf cfT) where
 irrefl x:=by rw[zoN];exact decide_eq_false (zfe x)
 trans x y z h1 h2:=by
  rw[zoN,decide_eq_true_eq]at*
  exact zeJ h1 h2
 ntrans x y z h1 h2:=by
  rw[zoN,decide_eq_false_iff_not]at*
  intro h
  rcases zf7 x y with a|a|a
  ·exact h1 a
  ·subst a;exact h2 h
  ·exact h2 (zeJ a h)
def zed (l:List G.Tie):List G.Tie:=l.mergeSort fun a b=> !decide (tlt b a)
theorem zer (l:List G.Tie):(zed l).Perm l:=List.mergeSort_perm l _
theorem zfu (l:List G.Tie):(zed l).Pairwise fun a b=>¬tlt b a:=by
 have:=List.pairwise_mergeSort (le:=fun a b=> !decide (tlt b a)) (fun a b c h1 h2=>by
  simp only[Bool.not_eq_true',decide_eq_false_iff_not]at*
  intro h
  rcases zf7 a b with x|x|x
  ·exact h2 (zeJ h x)
  ·subst x;exact h2 h
  ·exact h1 x) (fun a b=>by
  rcases zf7 a b with x|x|x
  ·simp[zhn x]
  ·subst x;simp[zfe]
  ·simp[zhn x]) l
 exact this.imp (fun{a b} h=>by simpa using h)
theorem zeK:∀ {l m:List G.Tie},l.Perm m->(l.Pairwise fun a b=>¬tlt b a)->(m.Pairwise fun a b=>¬tlt b a)->l=m
 |[],m,p,_,_=>(List.nil_perm.1 p).symm
 |a::r,[],p,_,_=>absurd p.length_eq (by simp)
 |a::r,b::s,p,h,k=>by
  rw[List.pairwise_cons]at h k
  have e:a=b:=by
   rcases zf7 a b with x|x|x
   ·have:a∈b::s:=p.subset (by simp)
    rcases List.mem_cons.1 this with q|q
    ·exact q
    ·exact absurd x (k.1 a q)
   ·exact x
   ·have:b∈a::r:=p.symm.subset (by simp)
    rcases List.mem_cons.1 this with q|q
    ·exact q.symm
    ·exact absurd x (h.1 b q)
  subst e
  rw[zeK (List.Perm.cons_inv p) h.2 k.2]
theorem zfX {w:World}{g:Nat}{cur:Array Value}{e:TypeId}{l:List G.Tie}(hb:w.heap[g]? =some (.cells cur e (0,0))) (ht:cur.toList.take (l.length*2)=l.flatMap ze9):HoldsK ze9 2 w g 0 l.toArray:=by
 unfold HoldsK
 rw[zjB]
 intro j hj
 have hj':j<l.length*2:=by
  have:j<(l.flatMap ze9).length:=by simpa using hj
  rwa [ze1]at this
 refine⟨?_,by simp[World.frozen?,hb]⟩
 have h1:(cur.toList.take (l.length*2))[j]? =(l.flatMap ze9)[j]? :=by rw[ht]
 rw[List.getElem?_take_of_lt hj']at h1
 simp only[World.cell?,hb,Nat.zero_add]
 simp only[Option.isSome_none,Bool.false_eq_true,if_false]
 rw[←Array.getElem?_toList,h1]
 have hj2:j<(l.flatMap ze9).length:=by rw[ze1];exact hj'
 rw[getElem!_pos _ j (by simpa using hj2)]
 simp[hj2]
theorem zgi (cur:Array Value) (ts:List Value) (h:ts.length<=cur.size):(putCells id 0 ts.toArray cur).toList.take ts.length=ts:=by
 apply List.ext_getElem?
 intro j
 by_cases hj:j<ts.length
 ·rw[List.getElem?_take_of_lt hj,Array.getElem?_toList]
  simp[putCells,hj,show j<cur.size by omega]
 ·rw[List.getElem?_take_eq_none (by omega),List.getElem?_eq_none (by omega)]
theorem zjG {w:World}{g cap:Nat}{cur:Array Value}{l:List G.Tie}(hb:w.heap[g]? =some (.cells cur 59 (0,0))) (hc:l.length<=cap) (hs:cur.size=cap*2) (ht:cur.toList.take (l.length*2)=l.flatMap ze9) (hl:l.length<4611686018427387904):
  Calls Try.prog 79 #[.slice (some ⟨g,0,none⟩) l.length cap,.func (.func 80) #[] #[]] w fun e w'=>
   e=.returned (.tuple #[])/\(∃cur',w'.heap[g]? =some (.cells cur' 59 (0,0))/\cur'.size=cap*2/\cur'.toList.take (l.length*2)=(zed l).flatMap ze9)/\w.grownBy w' (some g):=by
 have eg:∀args w,(callFunc 80 args).run Try.prog w=.ok (.enter 80 args) w:=enters_of Try.func80 (by kernel_rfl) rfl
 have hblk:g<w.heap.size:=(Array.getElem?_eq_some_iff.1 hb).1
 have hcon:=AnyQ.slices_SortFunc Try.zkP 2 Try.isAgg59 Try.sizeOf59 ze9 (fun _=>rfl) (fun x v hv=>by simp[ze9]at hv;rcases hv with rfl|rfl<;>rfl) cfT zqV 80 #[] g 0 cap l.toArray w eg (fun _ _ _ _ x y=>zlc x y _) (zfX hb ht) hblk (by simpa using hl)
 change Calls Try.prog 79 _ _ _ at hcon
 rw[List.size_toArray]at hcon
 refine hcon.mono ?_
 rintro e w' ⟨rfl,d',n,os,hp,hsd,rfl⟩
 obtain⟨ps,_,pp⟩:=hp
 have ls:d'.toList.length=l.length:=by simpa using ps
 have perm:d'.toList.Perm l:=by
  have a:(d'.extract 0 l.toArray.size)=d':=by rw[←ps];simp
  rw[show(0:Nat)=0 from rfl]at pp
  have b:(d'.extract 0 l.length)=d':=by simpa using a
  have c:(l.toArray.extract 0 l.length).toList=l:=by simp
  simpa [b,c] using pp
 have srt:d'.toList.Pairwise fun a b=>¬tlt b a:=by
  rw[List.pairwise_iff_getElem]
  intro i j hi hj hij
  have:=hsd i j (Nat.zero_le _) hij (by simpa [ls] using hj)
  rw[zoN,decide_eq_false_iff_not]at this
  have gi:d'[i]! =d'.toList[i]:=by simp[getElem!_pos d' i (by simpa using hi)]
  have gj:d'[j]! =d'.toList[j]:=by simp[getElem!_pos d' j (by simpa using hj)]
  rw[gi,gj]at this
  exact this
 have ed:d'.toList=zed l:=zeK (perm.trans (zer l).symm) srt (zfu l)
 have fl:flatK ze9 2 d'=((zed l).flatMap ze9).toArray:=by
  have:=zjB d'.toList
  rwa [Array.toArray_toList,ed]at this
 have sl:((zed l).flatMap ze9).length=l.length*2:=by rw[ze1,(zer l).length_eq]
 refine⟨rfl,⟨putCells id 0 ((zed l).flatMap ze9).toArray cur,?_,by simp[putCells,hs],?_⟩,?_⟩
 ·unfold sortWorldK putRowK
  rw[fl]
  rw[heap_grow_old _ _ (by simpa using hblk)]
  simp[putRow,mapBlock,Sort.ahead,Array.getElem?_modify,hb,onCells]
 ·rw[←sl]
  exact zgi cur _ (by rw[sl,hs];exact Nat.mul_le_mul_right 2 hc)
 ·unfold sortWorldK putRowK
  refine⟨rfl,rfl,rfl,by simp,fun k hk hne=>?_⟩
  rw[heap_grow_old _ _ (by simpa using hk)]
  have:g≠k:=fun e=>hne (by rw[e])
  simp[putRow,mapBlock,Sort.ahead,Array.getElem?_modify,this]
end Go.Proofs.Ytgeonpciodepgaa.P
