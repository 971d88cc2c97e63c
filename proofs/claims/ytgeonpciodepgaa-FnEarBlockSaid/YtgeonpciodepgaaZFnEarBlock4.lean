/- The proof's parts ahead of the row: of no condition of their own. -/
import Derived.Test.YtgeonpciodepgaaZFnEarBlock3
import Derived.Sort.Grow
import Derived.Lib.SliceRun
set_option linter.unusedVariables false
set_option linter.unusedSimpArgs false
namespace Go.Proofs.Ytgeonpciodepgaa.P
set_option maxHeartbeats 8000000
set_option maxRecDepth 100000
open Go.RowKit Go.Proofs.YtgeonpciodepgaaW.PrintWords Go.Proofs.YtgeonpciodepgaaW.PrintLast Go.Proofs.YtgeonpciodepgaaW.PrintMore Go.Proofs.YtgeonpciodepgaaW.PrintWords.Kd Go.Proofs.YtgeonpciodepgaaW.PrintMore.Kd
attribute [local go_sem] wC wE wJ wG wy ww wB wF
theorem EA {p:Prop}(h:p:=by exact oJ ac.out):p:=h
theorem EC {p:Prop}(h:p:=by rw[hg];exact Nat.ne_of_lt (oQ (g:=ah) (o:=.cells #[.int .i64 af,.slice aZ ag.length a2] 31 (0,0)) (nG ab.out))):p:=h
theorem EN {p:Prop}(h:p:=by rw[hg];exact Nat.ne_of_gt (oQ (g:=ah) (o:=.cells #[.int .i64 af,.slice aZ ag.length a2] 31 (0,0)) (nG ab.out))):p:=h
theorem EX {p:Prop}(h:p:=by rw[hg];exact Nat.ne_of_lt (oQ (g:=ah) (o:=.cells #[.int .i64 af,.slice a4 ag.length a5] 31 (0,0)) (nG ab.out))):p:=h
theorem Ei {p:Prop}(h:p:=by rw[hg];exact Nat.ne_of_gt (oQ (g:=ah) (o:=.cells #[.int .i64 af,.slice a4 ag.length a5] 31 (0,0)) (nG ab.out))):p:=h
theorem zw {p:Prop}(h:p:=by(with_reducible repeat(first|apply nY|apply nZ|apply nN));exact nL aa.out (fun _ hk=>hk.2)):p:=h
theorem zB {p:Prop}(h:p:=by(with_reducible repeat(first|apply nY|apply nZ|apply nN));exact nL aF.out (fun _ hk=>hk.2)):p:=h
theorem yH {p:Prop}(h:p:=by rw[hg];exact Nat.ne_of_lt (oQ (g:=am) (o:=.cells #[.int .i64 0,.slice none 0 0] 31 (0,0)) (nG ac.out))):p:=h
theorem yG {p:Prop}(h:p:=by rw[hg];exact Nat.ne_of_gt (oQ (g:=am) (o:=.cells #[.int .i64 0,.slice none 0 0] 31 (0,0)) (nG ac.out))):p:=h
theorem EF {p:Prop}(h:p:=by rw[hg];exact Nat.ne_of_lt (nz.lt (show nz w0 _ g ai aT from o8))):p:=h
theorem EI {p:Prop}(h:p:=by rw[hg];exact Nat.ne_of_gt (nz.lt (show nz w0 _ g ai aT from o8))):p:=h
theorem uP {p:Prop}(h:p:=by rw[hg];exact(o7 (w:=w) (g:=g) (row:=none) (nU HK.out))):p:=h
theorem Av {p:Prop}(h:p:=by first|rfl|(simp;done)|(simp[*];done)):p:=h
theorem xx {p:Prop}(h:p:=by kernel_rfl):p:=h
theorem rA {p:Prop}(h:p:=by decide):p:=h
theorem o8 {p:Prop}(h:p:=by repeat(first|(with_reducible first|exact ak.out|apply nz.alloc|apply nz.drewN|apply nz.drew|apply nz.yD)|(with_reducible refine nz.far ?_ (lm.out (by assumption)) _)|exact ak.out)):p:=h
theorem qo {B:Nat}{w w1 w2:World}(H:Below B w w1) (h:Below B w w2:=by repeat(first|(with_reducible first|exact HB.out|apply sZ|apply uG|apply o9)|(with_reducible refine rX ?_ (lm.out (by assumption)))|(with_reducible refine rX ?_ (nz.ge ak.out))|exact HB.out)):Below B w w2:=h
mutual
def pK.l0:Nat->Int->Int->List Int->Int->Int->List (S59)->Option (Int× (List (S59))×Int)
 |0,_,_,_,_,_,_=>none
 |k+1,x4,x5,aV,bk,aL,a3=>if x5<x4 then(if x4=0 then(none) else((oZ.f k aL a3 x5 (Int.tmod (wrap64 (x5+1)) x4)).bind fun cD=>(pK.l0 k x4 (wrap64 (x5+1)) aV bk cD.1 cD.2.1))) else(pK.l1 k x4 aV bk aL a3)
def pK.l1:Nat->Int->List Int->Int->Int->List (S59)->Option (Int× (List (S59))×Int)
 |0,_,_,_,_,_=>none
 |k+1,x6,aV,bk,aL,a3=>if x6<aL then((oP.f k aV bk x6).bind fun cd=>((oZ.f k aL a3 x6 cd.1).bind fun bE=>((oP.f k aV cd.2 (wrap64 (x6 - 1))).bind fun bl=>(if x6=0 then(none) else((oZ.f k bE.1 bE.2.1 x6 (Int.tmod (wrap64 ((wrap64 (cd.1+1))+bl.1)) x6)).bind fun a8=>(pK.l1 k (wrap64 (x6+1)) aV bl.2 a8.1 a8.2.1)))))) else((oP.f k aV bk 5).bind fun cE=>(pK.l2 k cE.1 aV cE.2 aL a3))
def pK.l2:Nat->Int->List Int->Int->Int->List (S59)->Option (Int× (List (S59))×Int)
 |0,_,_,_,_,_=>none
 |k+1,x8,aV,bk,aL,a3=>if x8>0 then((oP.f k aV bk aL).bind fun cF=>((oP.f k aV cF.2 aL).bind fun br=>((oZ.f k aL a3 cF.1 br.1).bind fun a9=>(if a9.2.2=true then(pK.l2 k (wrap64 (x8 - 1)) aV br.2 a9.1 a9.2.1) else(pK.l2 k (wrap64 (x8 - 1)) aV br.2 aL a3))))) else((oP.f k aV bk 8).bind fun ce=>(if ce.1=0 then((zO.f k aV ce.2).bind fun bu=>(some (bu.1,bu.2.1,bu.2.2))) else(some (aL,a3,ce.2))))
end
def pK.f (k:Nat) (ai:List Int) (bA:Int):Option (Int× (List (S59))×Int):=(oP.f k ai bA 6).bind fun bv=>((oP.f k ai bv.2 (wrap64 ((wrap64 (3+bv.1)) - 2))).bind fun bm=>(pK.l0 k (wrap64 (3+bm.1)) 0 ai bm.2 (wrap64 (3+bv.1)) ([]:List (S59))))
def pK.T6:Bool×List (List Nat×List Nat):=(true,[([],[]),([],[]),([],[]),([2],[2]),([],[]),([3,4],[3,4]),([0,1,5],[0,1,5]),([6],[6]),([7],[7]),([7],[7]),([8,6,0,1,2,3,4,5,6,7,8],[8])])
def pK.B6:List Nat:=[0,0,0,4,0,28,63,127,255,255,511]
theorem pK.Qw:p_ .any (opsOf Try.f73 6)=pK.T6:=by kernel_rfl
theorem pK.Qi:qQ pK.T6.2 pK.B6=true:=by kernel_rfl
def pK.T12:Bool×List (List Nat×List Nat):=(true,[([],[]),([],[]),([],[]),([2],[2]),([],[]),([],[]),([5],[5]),([4,6],[4,6]),([3,7],[3,7]),([],[]),([8,9],[8,9]),([0,1,10,7],[0,1,10]),([11],[11]),([12],[12]),([12],[12]),([13,11,0,1,2,3,4,5,6,7,8,9,10,11,12,13],[13])])
def pK.B12:List Nat:=[0,0,0,4,0,0,32,112,252,0,1020,2047,4095,8191,8191,16383]
theorem pK.Ai:p_ .any (opsOf Try.f73 12)=pK.T12:=by kernel_rfl
theorem pK.Ae:qQ pK.T12.2 pK.B12=true:=by kernel_rfl
def pK.T16:Bool×List (List Nat×List Nat):=(true,[([],[]),([],[]),([],[]),([2],[2]),([1,3],[1,3]),([],[]),([],[]),([6],[6]),([5,7,4],[5,7]),([0,4,8,8],[0,4,8]),([9],[9]),([10],[10]),([10],[10]),([],[]),([13,11,9,0,1,2,3,4,5,6,7,8,9,10,11,13],[11,13]),([12,14,0,1,2,3,4,5,6,7,8,9,10,11,12,13,14],[12])])
def pK.B16:List Nat:=[0,0,0,4,14,0,0,64,254,511,1023,2047,2047,0,12287,32767]
theorem pK.yE:p_ .any (opsOf Try.f73 16)=pK.T16:=by kernel_rfl
theorem pK.yz:qQ pK.T16.2 pK.B16=true:=by kernel_rfl
theorem pK.calls (k:Nat) (g:Nat) (ai:List Int) (bA:Int) (r1:Int) (r2:List (S59)) (r3:Int) (w0 w:World) (hI:nz w0 w g ai bA) (hB:Below w0.heap.size w0 w) (h:pK.f k ai bA=some (r1,r2,r3)):
  Calls Try.prog 73 #[.pointer (some ⟨g,0,none⟩)] w fun e w'=>∃dz:Value,e=.returned (.agg #[.int .i64 r1,dz])/\Kd.R k59 59 w' w.heap.size (fun _=>True) dz r2/\nz w0 w' g ai r3/\Below w0.heap.size w0 w'/\ow w w' g none:=by
 have fR:=Try.underlying31;have ak:=dm hI;have HK:=dm (ow.refl w g none);have HL:=dm hB.size;clear hI;have bC:=dm hB.size;have HB:=dm hB;clear hB;unfold pK.f at h;have H:=h;clear h;obtain⟨⟨bw,bN⟩,A2,H⟩:=ol H;(try dsimp only at H);obtain⟨⟨bf,bJ⟩,A3,H⟩:=ol H;(try dsimp only at H);have H':=dm H;clear H
 go_enter Try.func73,Try.ntmps73
 go_wp2_with (first|((with_reducible refine nP 2 rfl ?_);refine om 2 #[.int .i64 0,.slice none 0 0] 31 ?_;intro am hg w4 nu hb;replace HB:=dm (oL (qo HB.out) hb);have ac:=dm (nu);have e5:=dm (uP:w.heap.size<=am);have e6:=dm (Nat.le_trans bC.out (uP:w.heap.size<=am):w0.heap.size<=am);replace HK:=oV HK hb;have b6:=dm ((by rw[hg];exact Nat.ne_of_lt (nz.lt (show nz w0 _ g ai bA from o8)):g≠am));have ax:=dm ((by rw[hg];exact Nat.ne_of_gt (nz.lt (show nz w0 _ g ai bA from o8)):am≠g));replace ak:=dm (nz.below (o8) hb);clear hb nu hg)|((with_reducible refine oh 104 rfl ?_);refine og 12 Try.func104 #[.pointer (some ⟨g,0,none⟩),.int .i64 6] ?_;(with_reducible refine(oP.calls k g ai bA 6 bw bN w0 _ ?ng ?ni A2.out).mono ?_);(case ng=>exact o8);(case ni=>exact qo HB.out);rintro e w5 ⟨rfl,hi,hb,hk⟩;refine⟨_,rfl,?_⟩;replace ac:=oI ac ax hk;replace HK:=pR HK hk;replace HB:=dm (hb);replace ak:=dm (hi);(try clear hb hk hi))|((with_reducible refine nP 3 rfl ?_);refine om 3 #[.int .i64 0,.slice none 0 0] 31 ?_;intro ah hg w6 nu hb;have n0:=dm (nz.below (o8) hb);have n1:=nA ac hb;have n2:=oV HK hb;have n3:=dm (oL (qo HB.out) hb);have n4:=dm (nu);have n5:=dm (uP:w.heap.size<=ah);have n6:=dm (Nat.le_trans bC.out (uP:w.heap.size<=ah):w0.heap.size<=ah);have n7:=dm (yH:am≠ah);have n8:=dm (yG:ah≠am);have n9:=dm ((by rw[hg];exact Nat.ne_of_lt (nz.lt (show nz w0 _ g ai bN from o8)):g≠ah));have a7:=dm ((by rw[hg];exact Nat.ne_of_gt (nz.lt (show nz w0 _ g ai bN from o8)):ah≠g));clear ak ac HK HB;revert n0 n1 n2 n3 n4 n5 n6 n7 n8 n9 a7;intro ak ac HK HB ab e7 e8 aA aH bq av;clear hb nu hg;have fS:=aH.out;have fT:=aA.out;have fU:=av.out;have fV:=bq.out;have⟨cX,cY,cZ,c_⟩:=nK (w:=w6) ab)|((with_reducible refine oh 104 rfl ?_);refine og 19 Try.func104 #[.pointer (some ⟨g,0,none⟩),.int .i64 (wrap64 ((wrap64 (3+bw)) - 2))] ?_;(with_reducible refine(oP.calls k g ai bN (wrap64 ((wrap64 (3+bw)) - 2)) bf bJ w0 _ ?ng ?ni A3.out).mono ?_);(case ng=>exact o8);(case ni=>exact qo HB.out);rintro e f_ ⟨rfl,hi,hb,hk⟩;refine⟨_,rfl,?_⟩;replace ac:=dm (ow.blk hk (g':=am) (o:=.cells #[.int .i64 0,.slice none 0 0] 31 (0,0)) (EA) ax.out (by simp));replace ab:=dm (ow.blk hk (g':=ah) (o:=.cells #[.int .i64 (wrap64 (3+bw)),.slice none 0 0] 31 (0,0)) (oJ ab.out) av.out (by simp));replace HK:=pR HK hk;replace HB:=dm (hb);replace ak:=dm (hi);(try clear hb hk hi)))
 go_loopg [5] k (fun kq v5 w'=>∃ (bj:Int) (aM:Int) (aI:List (S59)) (aJ:Value),v5=.int .i64 bj/\lm (pK.l0 kq (wrap64 (3+bf)) bj ai bJ aM aI=some (r1,r2,r3))/\lm (kq<=k)/\lm (Kd.R k59 59 w' w.heap.size (fun _=>True) aJ aI)/\lm (w'.heap[am]? =some (.cells #[.int .i64 0,(.slice none 0 0)] 31 (0,0)))/\lm (w'.heap[ah]? =some (.cells #[.int .i64 aM,aJ] 31 (0,0)))/\lm (nz w0 w' g ai bJ)/\lm (ow w w' g none)/\lm (Below w0.heap.size w0 w'))
 case atStart=>exact⟨(0),(wrap64 (3+bw)),(([]:List (S59))),(.slice none 0 0),(Av),H',⟨Nat.le_refl _⟩,⟨by first|exact wX _ _ _ _ _|exact zm _ _ _ _ _|exact zl _ _ _ _ _|exact zk _ _ _ _ _|exact zh _ _ _ _ _⟩,⟨nG ac.out⟩,⟨nG ab.out⟩,⟨o8⟩,⟨nU HK.out⟩,⟨qo HB.out⟩⟩
 case round=>
  clear H';(try clear cX cY cZ c_);obtain⟨bj,aM,aI,aJ,rfl,HA,bL,aa,ac,ab,ak,HK,HB⟩:=hrel;cases gk with
  |zero=>exact absurd HA.out (by simp[pK.l0])
  |succ k1=>
   have H:=HA.out;clear HA;simp only[pK.l0]at H
   by_cases b7:bj<(wrap64 (3+bf))
   ·rw[if_pos b7]at H;have cG:=decide_eq_true b7;clear b7
    obtain⟨cH,H⟩:=CW H;have e9:=beq_eq_false_iff_ne.mpr cH;have fa:=bne_iff_ne.mpr cH;obtain⟨⟨bO,bP,dG⟩,eR,H⟩:=ol H;(try dsimp only at H);have H':=dm H;clear H;try go_wp2
    replace aa:=dm (nN aa.out);replace ac:=dm (nV ac.out);replace ab:=dm (nV ab.out);replace ak:=dm (nz.drew ak.out);replace HK:=dm (vJ HK.out);replace HB:=dm (o9 HB.out);obtain⟨bQ,bR,da⟩:=nW aa.out;(first|subst da|(injection da with bn bF bo;have bG:=bn.symm;have bH:=bo.symm;clear bn bF bo;subst bG;subst bH));refine pU 11 (S:=fun w'=>w'.cell? ⟨ah,0,none⟩=some (.int .i64 aM)/\w'.cell? ⟨ah,1,none⟩=some (.slice bQ aI.length bR)) [10] ⟨nk ab 0,nk ab 1⟩ pK.Qw pK.Qi (fun hHeld HT_ HW_=>?_);generalize wr.drew=ga at aa ac ab ak HK HB hHeld⊢;refine lq 1 28 2 ?_;refine lq 2 29 6 ?_;refine lq 3 30 14 ?_;refine lq 4 31 30 ?_;refine lq 5 32 62 ?_;refine qZ 0 27 63 ?_;refine oD 6 33 127 (fun K hK=>?_);refine oO Try.func105 #[.agg #[.int .i64 aM,.slice bQ aI.length bR],.int .i64 bj,.int .i64 (Int.tmod (wrap64 (bj+1)) (wrap64 (3+bf)))] ?_;with_reducible refine(oZ.calls k1 aM _ _ aI bj (Int.tmod (wrap64 (bj+1)) (wrap64 (3+bf))) bO bP dG _ ?ng ?ni eR.out).mono ?_
    (case ng=>exact nO (nM aa.out).2.2);(case ni=>exact(nM aa.out).2.1);rintro e dA ⟨fW,rfl,ay,hb⟩;refine⟨_,rfl,?_⟩;have cI:=dm (oF (pV ay (oN (nH aa.out))) (o7 (w:=w) (g:=g) (row:=none) (nU HK.out)));replace aa:=qm aa ay hb;replace ac:=nA ac hb;replace ab:=nA ab hb;replace HK:=oV HK hb;replace HB:=dm (oL (qo HB.out) hb);replace ak:=dm (nz.below (o8) hb);(try clear hb cl hk hi ay);obtain⟨db,dc,dd⟩:=nW cI.out;(first|subst dd|(injection dd with bn bF bo;have bG:=bn.symm;have bH:=bo.symm;clear bn bF bo;subst bG;subst bH));refine hK.out _ _ ⟨nk ab 0,nk ab 1⟩ (fun hHeld=>?_);clear hK K;refine nQ 33 ?_;refine lq 7 26 255 ?_;refine lq 8 34 511 ?_;refine lq 9 35 1023 ?_;refine vz 10 (none) (pg 11 2047) (fun K hK=>?_);have fX:dA.cell? ⟨ah,0,none⟩=some (.int .i64 aM):=nk ab 0;have fb:=qN ab.out 0;have dR:=aA.out;have dS:=aH.out;have fY:dA.cell? ⟨ah,1,none⟩=some (.slice bQ aI.length bR):=nk ab 1;have fc:=qN ab.out 1;have dT:=aA.out;have dU:=aH.out;refine tT (w1:= ?_) (by rfl) rfl ?_ ?_;rotate_left
    ·go_simp
     rfl
    refine hK.out _ _ ?_;clear hK K;refine pM (pQ HT_.out (xx)) ?_;try go_wp2
    go_roundg k1
    case measure=>have:=bL.out;omega
    case rel=>exact⟨(wrap64 (bj+1)),(bO),(bP),(.slice db bP.length dc),(Av),H',⟨by have:=bL.out;omega⟩,⟨by(with_reducible repeat(first|apply nY|apply nZ|apply nN));exact nL (nR (p:=⟨ah,1,none⟩) (nR (p:=⟨ah,0,none⟩) (oK cI.out ab.out (rA)) (fun _ hk=>hk.2) (.int .i64 bO)) (fun _ hk=>hk.2) (.slice db bP.length dc)) (fun _ hk=>trivial)⟩,⟨EA⟩,⟨oJ ab.out⟩,⟨o8⟩,⟨nU HK.out⟩,⟨qo HB.out⟩⟩
   ·rw[if_neg b7]at H;have cG:=decide_eq_false b7;clear b7;have H':=dm H;clear H
    go_wp2
    go_loopg [6] k1 (fun kq v6 w'=>∃ (aw:Int) (bh:Int) (aD:Int) (aC:List (S59)) (aJ:Value),v6=.int .i64 aw/\lm (pK.l1 kq aw ai bh aD aC=some (r1,r2,r3))/\lm (kq<=k1)/\lm (Kd.R k59 59 w' w.heap.size (fun _=>True) aJ aC)/\lm (w'.heap[am]? =some (.cells #[.int .i64 0,(.slice none 0 0)] 31 (0,0)))/\lm (w'.heap[ah]? =some (.cells #[.int .i64 aD,aJ] 31 (0,0)))/\lm (nz w0 w' g ai bh)/\lm (ow w w' g none)/\lm (Below w0.heap.size w0 w'))
    case atStart=>exact⟨((wrap64 (3+bf))),(bJ),(aM),(aI),(aJ),(Av),H',⟨Nat.le_refl _⟩,⟨nH aa.out⟩,⟨nG ac.out⟩,⟨nG ab.out⟩,⟨o8⟩,⟨nU HK.out⟩,⟨qo HB.out⟩⟩
    case round=>
     clear H';(try clear cG);obtain⟨aw,bh,aD,aC,aJ,rfl,HA,b8,aa,ac,ab,ak,HK,HB⟩:=hrel;cases gk with
     |zero=>exact absurd HA.out (by simp[pK.l1])
     |succ k2=>
      have H:=HA.out;clear HA;simp only[pK.l1]at H
      by_cases b9:aw<aD
      ·rw[if_pos b9]at H;have cJ:=decide_eq_true b9;clear b9;obtain⟨⟨bx,bD⟩,eS,H⟩:=ol H;(try dsimp only at H);obtain⟨⟨aU,aK,dH⟩,eT,H⟩:=ol H;(try dsimp only at H);obtain⟨⟨cf,cg⟩,eU,H⟩:=ol H;(try dsimp only at H)
       obtain⟨cL,H⟩:=CW H;have fd:=beq_eq_false_iff_ne.mpr cL;have fe:=bne_iff_ne.mpr cL;obtain⟨⟨bS,bT,dI⟩,eV,H⟩:=ol H;(try dsimp only at H);have H':=dm H;clear H;have ff:=aH.out;have fg:=aA.out;have fh:=av.out;have fi:=bq.out;have⟨dV,dW,dX,dY⟩:=nK (w:=wr) ab;try go_wp2_with (first|((with_reducible refine oh 104 rfl ?_);refine og 45 Try.func104 #[.pointer (some ⟨g,0,none⟩),.int .i64 aw] ?_;(with_reducible refine(oP.calls k2 g ai bh aw bx bD w0 _ ?ng ?ni eS.out).mono ?_);(case ng=>exact o8);(case ni=>exact qo HB.out);rintro e eW ⟨rfl,hi,hb,hk⟩;refine⟨_,rfl,?_⟩;replace aa:=dm (nL (qi (nz.apart (show nz w0 _ g ai bh from o8) (nH aa.out) (rA)) hk (fun _ h=>h.2)) (fun _ h=>h.1));replace ac:=oI ac ax hk;replace ab:=oI ab av hk;replace HK:=pR HK hk;replace HB:=dm (hb);replace ak:=dm (hi);(try clear hb hk hi);have⟨dZ,d7,d8,d9⟩:=nK (w:=eW) ab;obtain⟨bU,bV,dJ⟩:=nW aa.out;subst dJ)|((with_reducible refine oh 105 rfl ?_);refine og 50 Try.func105 #[.agg #[.int .i64 aD,.slice bU aC.length bV],.int .i64 aw,.int .i64 bx] ?_;(with_reducible refine(oZ.calls k2 aD _ _ aC aw bx aU aK dH _ ?ng ?ni eT.out).mono ?_);(case ng=>exact nO (nM aa.out).2.2);(case ni=>exact(nM aa.out).2.1);rintro e bI ⟨fZ,rfl,ay,hb⟩;refine⟨_,rfl,?_⟩;have aN:=dm (oF (pV ay (oN (nH aa.out))) (o7 (w:=w) (g:=g) (row:=none) (nU HK.out)));replace aa:=qm aa ay hb;replace ac:=nA ac hb;replace ab:=nA ab hb;replace HK:=oV HK hb;replace HB:=dm (oL (qo HB.out) hb);replace ak:=dm (nz.below (o8) hb);(try clear hb ay);have⟨d_,ea,eb,ec⟩:=nK (w:=bI) ab;obtain⟨aX,aY,dK⟩:=nW aN.out;subst dK))
       have n0:lm (Kd.R k59 59 ((bI.setCell ⟨ah,0,none⟩ (.int .i64 aU)).setCell ⟨ah,1,none⟩ (.slice aX aK.length aY)) w.heap.size (fun k_=>some k_≠(.slice aX aK.length aY:Value).ownBlock) (.slice bU aC.length bV) aC):=⟨by(with_reducible repeat(first|apply nY|apply nZ|apply nN));exact nL (nR (p:=⟨ah,1,none⟩) (nR (p:=⟨ah,0,none⟩) (oK aa.out ab.out (rA)) (fun _ hk=>hk.2) (.int .i64 aU)) (fun _ hk=>hk.2) (.slice aX aK.length aY)) (fun _ hk=>hk.1.2)⟩;have n1:lm (Kd.R k59 59 ((bI.setCell ⟨ah,0,none⟩ (.int .i64 aU)).setCell ⟨ah,1,none⟩ (.slice aX aK.length aY)) w.heap.size (fun k_=>some k_≠(.slice bU aC.length bV:Value).ownBlock) (.slice aX aK.length aY) aK):=⟨by(with_reducible repeat(first|apply nY|apply nZ|apply nN));exact nL (nR (p:=⟨ah,1,none⟩) (nR (p:=⟨ah,0,none⟩) (oK aN.out ab.out (rA)) (fun _ hk=>hk.2) (.int .i64 aU)) (fun _ hk=>hk.2) (.slice aX aK.length aY)) (fun _ hk=>hk.1.2)⟩;have n2:lm (((bI.setCell ⟨ah,0,none⟩ (.int .i64 aU)).setCell ⟨ah,1,none⟩ (.slice aX aK.length aY)).heap[am]? =some (.cells #[.int .i64 0,.slice none 0 0] 31 (0,0))):=⟨EA⟩;have n3:lm (((bI.setCell ⟨ah,0,none⟩ (.int .i64 aU)).setCell ⟨ah,1,none⟩ (.slice aX aK.length aY)).heap[ah]? =some (.cells #[.int .i64 aU,.slice aX aK.length aY] 31 (0,0))):=⟨oJ ab.out⟩;have n4:lm (nz w0 ((bI.setCell ⟨ah,0,none⟩ (.int .i64 aU)).setCell ⟨ah,1,none⟩ (.slice aX aK.length aY)) g ai bD):=⟨o8⟩;have n5:lm (ow w ((bI.setCell ⟨ah,0,none⟩ (.int .i64 aU)).setCell ⟨ah,1,none⟩ (.slice aX aK.length aY)) g none):=⟨nU HK.out⟩;have n6:lm (Below w0.heap.size w0 ((bI.setCell ⟨ah,0,none⟩ (.int .i64 aU)).setCell ⟨ah,1,none⟩ (.slice aX aK.length aY))):=⟨qo HB.out⟩;(try clear aa aN ac ab ak HK HB);generalize((bI.setCell ⟨ah,0,none⟩ (.int .i64 aU)).setCell ⟨ah,1,none⟩ (.slice aX aK.length aY))=eX at n0 n1 n2 n3 n4 n5 n6⊢;revert n0 n1 n2 n3 n4 n5 n6;intro aa aN ac ab ak HK HB;replace aa:=dm (nN aa.out);replace aN:=dm (nN aN.out);replace ac:=dm (nV ac.out);replace ab:=dm (nV ab.out);replace ak:=dm (nz.drew ak.out);replace HK:=dm (vJ HK.out);replace HB:=dm (o9 HB.out);refine pU 16 (S:=fun w'=>w'.cell? ⟨ah,0,none⟩=some (.int .i64 aU)/\w'.cell? ⟨ah,1,none⟩=some (.slice aX aK.length aY)) [15] ⟨nk ab 0,nk ab 1⟩ pK.Ai pK.Ae (fun hHeld HT_ HW_=>?_);generalize eX.drew=gb at aa aN ac ab ak HK HB hHeld⊢;refine lq 1 55 2 ?_;refine lq 2 56 6 ?_;refine lq 3 57 14 ?_;refine lq 4 58 30 ?_;refine lq 5 59 62 ?_;refine lq 6 60 126 ?_;refine lq 9 63 638 ?_;refine qZ 0 54 639 ?_;refine oD 7 61 767 (fun K hK=>?_);refine oO Try.func104 #[.pointer (some ⟨g,0,none⟩),.int .i64 (wrap64 (aw - 1))] ?_;with_reducible refine(oP.calls k2 g ai bD (wrap64 (aw - 1)) cf cg w0 _ ?ng ?ni eU.out).mono ?_
       (case ng=>exact o8);(case ni=>exact qo HB.out);rintro e gc ⟨rfl,hi,hb,hk⟩;refine⟨_,rfl,?_⟩;replace aa:=dm (nL (qi (nz.apart (show nz w0 _ g ai bD from o8) (nH aa.out) (rA)) hk (fun _ h=>h.2)) (fun _ h=>h.1));replace ac:=oI ac ax hk;replace ab:=oI ab av hk;replace aN:=dm (nL (qi (nz.apart (show nz w0 _ g ai bD from o8) (nH aN.out) (rA)) hk (fun _ h=>h.2)) (fun _ h=>h.1));replace HK:=pR HK hk;replace HB:=dm (hb);replace ak:=dm (hi);(try clear hb cl hk hi);refine hK.out _ _ ⟨nk ab 0,nk ab 1⟩ (fun hHeld=>?_);clear hK K;refine nQ 61 ?_;refine lq 8 62 1023 ?_;refine lq 10 64 2047 ?_;refine oD 11 65 4095 (fun K hK=>?_);refine oO Try.func105 #[.agg #[.int .i64 aU,.slice aX aK.length aY],.int .i64 aw,.int .i64 (Int.tmod (wrap64 ((wrap64 (bx+1))+cf)) aw)] ?_;with_reducible refine(oZ.calls k2 aU _ _ aK aw (Int.tmod (wrap64 ((wrap64 (bx+1))+cf)) aw) bS bT dI _ ?ng ?ni eV.out).mono ?_
       (case ng=>exact nO (nM aN.out).2.2);(case ni=>exact(nM aN.out).2.1);rintro e dB ⟨f2,rfl,ay,hb⟩;refine⟨_,rfl,?_⟩;have cM:=dm (oF (pV (pV ay (oN (nH aa.out))) (oN (nH aN.out))) (o7 (w:=w) (g:=g) (row:=none) (nU HK.out)));replace aa:=qm aa ay hb;replace aN:=qm aN ay hb;replace ac:=nA ac hb;replace ab:=nA ab hb;replace HK:=oV HK hb;replace HB:=dm (oL (qo HB.out) hb);replace ak:=dm (nz.below (o8) hb);(try clear hb ay);obtain⟨de,df,dg⟩:=nW cM.out;(first|subst dg|(injection dg with bn bF bo;have bG:=bn.symm;have bH:=bo.symm;clear bn bF bo;subst bG;subst bH));refine hK.out _ _ ⟨nk ab 0,nk ab 1⟩ (fun hHeld=>?_);clear hK K;refine nQ 65 ?_;refine lq 12 53 8191 ?_;refine lq 13 66 16383 ?_;refine lq 14 67 32767 ?_;refine vz 15 (none) (pg 16 65535) (fun K hK=>?_);have f3:dB.cell? ⟨ah,0,none⟩=some (.int .i64 aU):=nk ab 0;have fj:=qN ab.out 0;have ed:=aA.out;have ee:=aH.out;have f4:dB.cell? ⟨ah,1,none⟩=some (.slice aX aK.length aY):=nk ab 1;have fk:=qN ab.out 1;have ef:=aA.out;have eg:=aH.out;refine tT (w1:= ?_) (by rfl) rfl ?_ ?_;rotate_left
       ·go_simp
        rfl
       refine hK.out _ _ ?_;clear hK K;refine pM (pQ HT_.out (xx)) ?_;try go_wp2
       go_roundg k2
       case measure=>have:=bL.out;have:=b8.out;omega
       case rel=>exact⟨(wrap64 (aw+1)),(cg),(bS),(bT),(.slice de bT.length df),(Av),H',⟨by have:=bL.out;have:=b8.out;omega⟩,⟨by(with_reducible repeat(first|apply nY|apply nZ|apply nN));exact nL (nR (p:=⟨ah,1,none⟩) (nR (p:=⟨ah,0,none⟩) (oK cM.out ab.out (rA)) (fun _ hk=>hk.2) (.int .i64 bS)) (fun _ hk=>hk.2) (.slice de bT.length df)) (fun _ hk=>trivial)⟩,⟨EA⟩,⟨oJ ab.out⟩,⟨o8⟩,⟨nU HK.out⟩,⟨qo HB.out⟩⟩
      ·rw[if_neg b9]at H;have cJ:=decide_eq_false b9;clear b9;obtain⟨⟨cx,cy⟩,eY,H⟩:=ol H;(try dsimp only at H);have H':=dm H;clear H;have fm:=aH.out;have fo:=aA.out;have fp:=av.out;have fq:=bq.out;have⟨cS,cT,cU,cW⟩:=nK (w:=wr) ab
       go_wp2_with (first|((with_reducible refine oh 104 rfl ?_);refine og 69 Try.func104 #[.pointer (some ⟨g,0,none⟩),.int .i64 5] ?_;(with_reducible refine(oP.calls k2 g ai bh 5 cx cy w0 _ ?ng ?ni eY.out).mono ?_);(case ng=>exact o8);(case ni=>exact qo HB.out);rintro e gf ⟨rfl,hi,hb,hk⟩;refine⟨_,rfl,?_⟩;replace aa:=dm (nL (qi (nz.apart (show nz w0 _ g ai bh from o8) (nH aa.out) (rA)) hk (fun _ h=>h.2)) (fun _ h=>h.1));replace ac:=oI ac ax hk;replace ab:=oI ab av hk;replace HK:=pR HK hk;replace HB:=dm (hb);replace ak:=dm (hi);(try clear hb hk hi)))
       go_loopg [8] k2 (fun kq v8 w'=>∃ (a6:Int) (az:Int) (af:Int) (ag:List (S59)) (aJ:Value),v8=.int .i64 a6/\lm (pK.l2 kq a6 ai az af ag=some (r1,r2,r3))/\lm (kq<=k2)/\lm (Kd.R k59 59 w' w.heap.size (fun _=>True) aJ ag)/\lm (w'.heap[am]? =some (.cells #[.int .i64 0,(.slice none 0 0)] 31 (0,0)))/\lm (w'.heap[ah]? =some (.cells #[.int .i64 af,aJ] 31 (0,0)))/\lm (nz w0 w' g ai az)/\lm (ow w w' g none)/\lm (Below w0.heap.size w0 w'))
       case atStart=>exact⟨(cx),(cy),(aD),(aC),(aJ),(Av),H',⟨Nat.le_refl _⟩,⟨nH aa.out⟩,⟨nG ac.out⟩,⟨nG ab.out⟩,⟨o8⟩,⟨nU HK.out⟩,⟨qo HB.out⟩⟩
       case round=>
        clear H';(try clear cJ cS cT cU cW);obtain⟨a6,az,af,ag,aJ,rfl,HA,cN,aa,ac,ab,ak,HK,HB⟩:=hrel;cases gk with
        |zero=>exact absurd HA.out (by simp[pK.l2])
        |succ k3=>
         have H:=HA.out;clear HA;simp only[pK.l2]at H
         by_cases b_:a6>0
         ·rw[if_pos b_]at H;have dw:=decide_eq_true b_;clear b_;obtain⟨⟨aG,aQ⟩,cO,H⟩:=ol H;(try dsimp only at H);obtain⟨⟨aE,aT⟩,ca,H⟩:=ol H;(try dsimp only at H);obtain⟨⟨aR,aW,dh⟩,bM,H⟩:=ol H;(try dsimp only at H)
          rcases pJ H with⟨h_,H_⟩|⟨h_,H_⟩<;> (subst h_;clear H;have H:=H_;clear H_)
          ·have H':=dm H;clear H;obtain⟨aZ,a2,dL⟩:=nW aa.out;subst dL;try go_wp2
           replace aa:=dm (nN aa.out);replace ac:=dm (nV ac.out);replace ab:=dm (nV ab.out);replace ak:=dm (nz.drew ak.out);replace HK:=dm (vJ HK.out);replace HB:=dm (o9 HB.out);refine pU 16 (S:=fun w'=>w'.cell? ⟨ah,0,none⟩=some (.int .i64 af)/\w'.cell? ⟨ah,1,none⟩=some (.slice aZ ag.length a2)) [] ⟨nk ab 0,nk ab 1⟩ pK.yE pK.yz (fun hHeld HT_ HW_=>?_);generalize wr.drew=gg at aa ac ab ak HK HB hHeld⊢;refine lq 1 76 2 ?_;refine lq 2 77 6 ?_;refine lq 5 80 38 ?_;refine lq 6 81 102 ?_;refine qZ 0 75 103 ?_;refine qZ 3 78 111 ?_;refine qZ 7 82 239 ?_;refine yC (σ:=Value×Nat) 2 (pg 16 16383) (fun s_=>[(79,.int .i64 aG),(83,.int .i64 aE),(84,.tuple #[.agg #[.int .i64 aR,s_.1],.bool true]),(9,.pointer (some ⟨s_.2,0,none⟩)),(74,.tuple #[.agg #[.int .i64 aR,s_.1],.bool true]),(85,.agg #[.int .i64 aR,s_.1]),(86,.bool true)]) (fun s_ w'=>(w'.cell? ⟨ah,0,none⟩=some (.int .i64 af)/\w'.cell? ⟨ah,1,none⟩=some (.slice aZ ag.length a2))/\(Kd.R k59 59 w' w.heap.size (fun k_=>some k_≠(.slice aZ ag.length a2:Value).ownBlock) s_.1 aW)/\(Kd.R k59 59 w' w.heap.size (fun k_=>some k_≠(s_.1:Value).ownBlock) (.slice aZ ag.length a2) ag)/\(w'.heap[am]? =some (.cells #[.int .i64 0,.slice none 0 0] 31 (0,0)))/\(w'.heap[ah]? =some (.cells #[.int .i64 af,.slice aZ ag.length a2] 31 (0,0)))/\(w'.heap[s_.2]? =some (.cells #[.int .i64 0,.slice none 0 0] 31 (0,0)))/\(w.heap.size<=s_.2)/\(w0.heap.size<=s_.2)/\(g≠s_.2)/\(s_.2≠g)/\(am≠s_.2)/\(s_.2≠am)/\(ah≠s_.2)/\(s_.2≠ah)/\(nz w0 w' g ai aT)/\(ow w w' g none)/\(Below w0.heap.size w0 w')) ?_ ?_;rotate_left
           ·intro rT;refine vR (i:=4) (j:=13) (Ni:=some 79) (Nj:=some 9) (pg 16 255) (pg 16 8431) rfl rfl rfl rfl (vM HT_.out (xx)) (rA) (rA) (fun K hK=>?_) (fun K hK=>?_)
            ·skip;refine oO Try.func104 #[.pointer (some ⟨g,0,none⟩),.int .i64 af] ?_;with_reducible refine(oP.calls k3 g ai az af aG aQ w0 _ ?ng ?ni cO.out).mono ?_
             (case ng=>exact o8);(case ni=>exact qo HB.out);rintro e eZ ⟨rfl,hi,hb,hk⟩;refine⟨_,rfl,?_⟩;replace aa:=dm (nL (qi (nz.apart (show nz w0 _ g ai az from o8) (nH aa.out) (rA)) hk (fun _ h=>h.2)) (fun _ h=>h.1));replace ac:=oI ac ax hk;replace ab:=oI ab av hk;replace HK:=pR HK hk;replace HB:=dm (hb);replace ak:=dm (hi);(try clear hb cl hk hi);refine hK.out _ _ ⟨nk ab 0,nk ab 1⟩ (fun hHeld=>?_);clear hK K;refine nQ 79 ?_;refine vR (i:=8) (j:=13) (Ni:=some 83) (Nj:=some 9) (pg 16 511) (pg 16 8447) rfl rfl rfl rfl (vM HT_.out (xx)) (rA) (rA) (fun K hK=>?_) (fun K hK=>?_)
             ·skip;refine oO Try.func104 #[.pointer (some ⟨g,0,none⟩),.int .i64 af] ?_;with_reducible refine(oP.calls k3 g ai aQ af aE aT w0 _ ?ng ?ni ca.out).mono ?_
              (case ng=>exact o8);(case ni=>exact qo HB.out);rintro e dC ⟨rfl,hi,hb,hk⟩;refine⟨_,rfl,?_⟩;replace aa:=dm (nL (qi (nz.apart (show nz w0 _ g ai aQ from o8) (nH aa.out) (rA)) hk (fun _ h=>h.2)) (fun _ h=>h.1));replace ac:=oI ac ax hk;replace ab:=oI ab av hk;replace HK:=pR HK hk;replace HB:=dm (hb);replace ak:=dm (hi);(try clear hb hk hi);refine hK.out _ _ ⟨nk ab 0,nk ab 1⟩ (fun hHeld=>?_);clear hK K;refine nQ 83 ?_;refine vR (i:=9) (j:=13) (Ni:=some 84) (Nj:=some 9) (pg 16 1023) (pg 16 8703) rfl rfl rfl rfl (vM HT_.out (xx)) (rA) (rA) (fun K hK=>?_) (fun K hK=>?_)
              ·skip;refine oO Try.func105 #[.agg #[.int .i64 af,.slice aZ ag.length a2],.int .i64 aG,.int .i64 aE] ?_;with_reducible refine(oZ.calls k3 af _ _ ag aG aE aR aW true _ ?ng ?ni bM.out).mono ?_
               (case ng=>exact nO (nM aa.out).2.2);(case ni=>exact(nM aa.out).2.1);rintro e di ⟨aS,rfl,ay,hb⟩;refine⟨_,rfl,?_⟩;have aF:=dm (oF (pV ay (oN (nH aa.out))) (o7 (w:=w) (g:=g) (row:=none) (nU HK.out)));replace aa:=qm aa ay hb;replace ac:=nA ac hb;replace ab:=nA ab hb;replace HK:=oV HK hb;replace HB:=dm (oL (qo HB.out) hb);replace ak:=dm (nz.below (o8) hb);(try clear hb ay);refine hK.out _ _ ⟨nk ab 0,nk ab 1⟩ (fun hHeld=>?_);clear hK K;refine nQ 84 ?_;refine lq 10 74 2047 ?_;refine lq 11 85 4095 ?_;refine lq 12 86 8191 ?_;refine oD 13 9 16383 (fun K hK=>?_);refine tX ?hg (N:=9) ?hd (cs:= #[.int .i64 0,.slice none 0 0]) (t:=31) ?hr ?_;(case hd=>rfl);(case hg=>rfl);(case hr=>first|(go_simp;done)|(go_simp;rfl));intro ae hg dj nu hb;have n0:=ou aa hb;have n1:=ou aF hb;have n2:=nA ac hb;have n3:=nA ab hb;have n4:=dm (nz.below (o8) hb);have n5:=oV HK hb;have n6:=dm (oL (qo HB.out) hb);have n7:=dm (nu);have n8:=dm (uP:w.heap.size<=ae);have n9:=dm (Nat.le_trans bC.out (uP:w.heap.size<=ae):w0.heap.size<=ae);have a7:=dm (yH:am≠ae);have a_:=dm (yG:ae≠am);have ba:=dm (EC:ah≠ae);have bc:=dm (EN:ae≠ah);have bd:=dm (EF:g≠ae);have bW:=dm (EI:ae≠g);clear aa aF ac ab ak HK HB;revert n0 n1 n2 n3 n4 n5 n6 n7 n8 n9 a7 a_ ba bc bd bW;intro aa aF ac ab ak HK HB aj aO aP ao ap al aq aB au;clear hb nu hg;refine hK.out _ _ ⟨nk ab 0,nk ab 1⟩ (fun hHeld=>?_);clear hK K;refine nQ 9 ?_;exact rE (by simp only[ry,Act.put,List.setIfInBounds_toArray,List.set_cons_zero,List.set_cons_succ]) (rT (aS,ae) _ ⟨hHeld,(zB),(zw),(nG ac.out),(nG ab.out),(nG aj.out),aO.out,aP.out,aB.out,au.out,ao.out,ap.out,al.out,aq.out,(o8),(nU HK.out),(qo HB.out)⟩)
              ·skip;refine tX ?hg (N:=9) ?hd (cs:= #[.int .i64 0,.slice none 0 0]) (t:=31) ?hr ?_;(case hd=>rfl);(case hg=>rfl);(case hr=>first|(go_simp;done)|(go_simp;rfl));intro ae hg di nu hb;have n0:=ou aa hb;have n1:=nA ac hb;have n2:=nA ab hb;have n3:=dm (nz.below (o8) hb);have n4:=oV HK hb;have n5:=dm (oL (qo HB.out) hb);have n6:=dm (nu);have n7:=dm (uP:w.heap.size<=ae);have n8:=dm (Nat.le_trans bC.out (uP:w.heap.size<=ae):w0.heap.size<=ae);have n9:=dm (yH:am≠ae);have a7:=dm (yG:ae≠am);have a_:=dm (EC:ah≠ae);have ba:=dm (EN:ae≠ah);have bc:=dm (EF:g≠ae);have bd:=dm (EI:ae≠g);clear aa ac ab ak HK HB;revert n0 n1 n2 n3 n4 n5 n6 n7 n8 n9 a7 a_ ba bc bd;intro aa ac ab ak HK HB aj aO aP ao ap al aq aB au;clear hb nu hg;refine hK.out _ _ ⟨nk ab 0,nk ab 1⟩ (fun hHeld=>?_);clear hK K;refine nQ 9 ?_;refine oD 9 84 9215 (fun K hK=>?_);refine oO Try.func105 #[.agg #[.int .i64 af,.slice aZ ag.length a2],.int .i64 aG,.int .i64 aE] ?_;with_reducible refine(oZ.calls k3 af _ _ ag aG aE aR aW true _ ?ng ?ni bM.out).mono ?_
               (case ng=>exact nO (nM aa.out).2.2);(case ni=>exact(nM aa.out).2.1);rintro e dj ⟨aS,rfl,ay,hb⟩;refine⟨_,rfl,?_⟩;have aF:=dm (oF (pV ay (oN (nH aa.out))) (o7 (w:=w) (g:=g) (row:=none) (nU HK.out)));replace aa:=qm aa ay hb;replace ac:=nA ac hb;replace ab:=nA ab hb;replace aj:=nA aj hb;replace HK:=oV HK hb;replace HB:=dm (oL (qo HB.out) hb);replace ak:=dm (nz.below (o8) hb);(try clear hb ay);refine hK.out _ _ ⟨nk ab 0,nk ab 1⟩ (fun hHeld=>?_);clear hK K;refine nQ 84 ?_;refine lq 10 74 10239 ?_;refine lq 11 85 12287 ?_;refine lq 12 86 16383 ?_;exact rE (by simp only[ry,Act.put,List.setIfInBounds_toArray,List.set_cons_zero,List.set_cons_succ]) (rT (aS,ae) _ ⟨hHeld,(zB),(zw),(nG ac.out),(nG ab.out),(nG aj.out),aO.out,aP.out,aB.out,au.out,ao.out,ap.out,al.out,aq.out,(o8),(nU HK.out),(qo HB.out)⟩)
             ·skip;refine tX ?hg (N:=9) ?hd (cs:= #[.int .i64 0,.slice none 0 0]) (t:=31) ?hr ?_;(case hd=>rfl);(case hg=>rfl);(case hr=>first|(go_simp;done)|(go_simp;rfl));intro ae hg dC nu hb;have n0:=ou aa hb;have n1:=nA ac hb;have n2:=nA ab hb;have n3:=dm (nz.below (o8) hb);have n4:=oV HK hb;have n5:=dm (oL (qo HB.out) hb);have n6:=dm (nu);have n7:=dm (uP:w.heap.size<=ae);have n8:=dm (Nat.le_trans bC.out (uP:w.heap.size<=ae):w0.heap.size<=ae);have n9:=dm (yH:am≠ae);have a7:=dm (yG:ae≠am);have a_:=dm (EC:ah≠ae);have ba:=dm (EN:ae≠ah);have bc:=dm ((by rw[hg];exact Nat.ne_of_lt (nz.lt (show nz w0 _ g ai aQ from o8)):g≠ae));have bd:=dm ((by rw[hg];exact Nat.ne_of_gt (nz.lt (show nz w0 _ g ai aQ from o8)):ae≠g));clear aa ac ab ak HK HB;revert n0 n1 n2 n3 n4 n5 n6 n7 n8 n9 a7 a_ ba bc bd;intro aa ac ab ak HK HB aj aO aP ao ap al aq aB au;clear hb nu hg;refine hK.out _ _ ⟨nk ab 0,nk ab 1⟩ (fun hHeld=>?_);clear hK K;refine nQ 9 ?_;refine oD 8 83 8703 (fun K hK=>?_);refine oO Try.func104 #[.pointer (some ⟨g,0,none⟩),.int .i64 af] ?_;with_reducible refine(oP.calls k3 g ai aQ af aE aT w0 _ ?ng ?ni ca.out).mono ?_
              (case ng=>exact o8);(case ni=>exact qo HB.out);rintro e di ⟨rfl,hi,hb,hk⟩;refine⟨_,rfl,?_⟩;replace aa:=dm (nL (qi (nz.apart (show nz w0 _ g ai aQ from o8) (nH aa.out) (rA)) hk (fun _ h=>h.2)) (fun _ h=>h.1));replace ac:=oI ac ax hk;replace ab:=oI ab av hk;replace aj:=oI aj au hk;replace HK:=pR HK hk;replace HB:=dm (hb);replace ak:=dm (hi);(try clear hb hk hi);refine hK.out _ _ ⟨nk ab 0,nk ab 1⟩ (fun hHeld=>?_);clear hK K;refine nQ 83 ?_;refine oD 9 84 9215 (fun K hK=>?_);refine oO Try.func105 #[.agg #[.int .i64 af,.slice aZ ag.length a2],.int .i64 aG,.int .i64 aE] ?_;with_reducible refine(oZ.calls k3 af _ _ ag aG aE aR aW true _ ?ng ?ni bM.out).mono ?_
              (case ng=>exact nO (nM aa.out).2.2);(case ni=>exact(nM aa.out).2.1);rintro e dj ⟨aS,rfl,ay,hb⟩;refine⟨_,rfl,?_⟩;have aF:=dm (oF (pV ay (oN (nH aa.out))) (o7 (w:=w) (g:=g) (row:=none) (nU HK.out)));replace aa:=qm aa ay hb;replace ac:=nA ac hb;replace ab:=nA ab hb;replace aj:=nA aj hb;replace HK:=oV HK hb;replace HB:=dm (oL (qo HB.out) hb);replace ak:=dm (nz.below (o8) hb);(try clear hb ay);refine hK.out _ _ ⟨nk ab 0,nk ab 1⟩ (fun hHeld=>?_);clear hK K;refine nQ 84 ?_;refine lq 10 74 10239 ?_;refine lq 11 85 12287 ?_;refine lq 12 86 16383 ?_;exact rE (by simp only[ry,Act.put,List.setIfInBounds_toArray,List.set_cons_zero,List.set_cons_succ]) (rT (aS,ae) _ ⟨hHeld,(zB),(zw),(nG ac.out),(nG ab.out),(nG aj.out),aO.out,aP.out,aB.out,au.out,ao.out,ap.out,al.out,aq.out,(o8),(nU HK.out),(qo HB.out)⟩)
            ·skip;refine tX ?hg (N:=9) ?hd (cs:= #[.int .i64 0,.slice none 0 0]) (t:=31) ?hr ?_;(case hd=>rfl);(case hg=>rfl);(case hr=>first|(go_simp;done)|(go_simp;rfl));intro ae hg eZ nu hb;have n0:=ou aa hb;have n1:=nA ac hb;have n2:=nA ab hb;have n3:=dm (nz.below (o8) hb);have n4:=oV HK hb;have n5:=dm (oL (qo HB.out) hb);have n6:=dm (nu);have n7:=dm (uP:w.heap.size<=ae);have n8:=dm (Nat.le_trans bC.out (uP:w.heap.size<=ae):w0.heap.size<=ae);have n9:=dm (yH:am≠ae);have a7:=dm (yG:ae≠am);have a_:=dm (EC:ah≠ae);have ba:=dm (EN:ae≠ah);have bc:=dm ((by rw[hg];exact Nat.ne_of_lt (nz.lt (show nz w0 _ g ai az from o8)):g≠ae));have bd:=dm ((by rw[hg];exact Nat.ne_of_gt (nz.lt (show nz w0 _ g ai az from o8)):ae≠g));clear aa ac ab ak HK HB;revert n0 n1 n2 n3 n4 n5 n6 n7 n8 n9 a7 a_ ba bc bd;intro aa ac ab ak HK HB aj aO aP ao ap al aq aB au;clear hb nu hg;refine hK.out _ _ ⟨nk ab 0,nk ab 1⟩ (fun hHeld=>?_);clear hK K;refine nQ 9 ?_;refine oD 4 79 8447 (fun K hK=>?_);refine oO Try.func104 #[.pointer (some ⟨g,0,none⟩),.int .i64 af] ?_;with_reducible refine(oP.calls k3 g ai az af aG aQ w0 _ ?ng ?ni cO.out).mono ?_
             (case ng=>exact o8);(case ni=>exact qo HB.out);rintro e dC ⟨rfl,hi,hb,hk⟩;refine⟨_,rfl,?_⟩;replace aa:=dm (nL (qi (nz.apart (show nz w0 _ g ai az from o8) (nH aa.out) (rA)) hk (fun _ h=>h.2)) (fun _ h=>h.1));replace ac:=oI ac ax hk;replace ab:=oI ab av hk;replace aj:=oI aj au hk;replace HK:=pR HK hk;replace HB:=dm (hb);replace ak:=dm (hi);(try clear hb cl hk hi);refine hK.out _ _ ⟨nk ab 0,nk ab 1⟩ (fun hHeld=>?_);clear hK K;refine nQ 79 ?_;refine oD 8 83 8703 (fun K hK=>?_);refine oO Try.func104 #[.pointer (some ⟨g,0,none⟩),.int .i64 af] ?_;with_reducible refine(oP.calls k3 g ai aQ af aE aT w0 _ ?ng ?ni ca.out).mono ?_
             (case ng=>exact o8);(case ni=>exact qo HB.out);rintro e di ⟨rfl,hi,hb,hk⟩;refine⟨_,rfl,?_⟩;replace aa:=dm (nL (qi (nz.apart (show nz w0 _ g ai aQ from o8) (nH aa.out) (rA)) hk (fun _ h=>h.2)) (fun _ h=>h.1));replace ac:=oI ac ax hk;replace ab:=oI ab av hk;replace aj:=oI aj au hk;replace HK:=pR HK hk;replace HB:=dm (hb);replace ak:=dm (hi);(try clear hb hk hi);refine hK.out _ _ ⟨nk ab 0,nk ab 1⟩ (fun hHeld=>?_);clear hK K;refine nQ 83 ?_;refine oD 9 84 9215 (fun K hK=>?_);refine oO Try.func105 #[.agg #[.int .i64 af,.slice aZ ag.length a2],.int .i64 aG,.int .i64 aE] ?_;with_reducible refine(oZ.calls k3 af _ _ ag aG aE aR aW true _ ?ng ?ni bM.out).mono ?_
             (case ng=>exact nO (nM aa.out).2.2);(case ni=>exact(nM aa.out).2.1);rintro e dj ⟨aS,rfl,ay,hb⟩;refine⟨_,rfl,?_⟩;have aF:=dm (oF (pV ay (oN (nH aa.out))) (o7 (w:=w) (g:=g) (row:=none) (nU HK.out)));replace aa:=qm aa ay hb;replace ac:=nA ac hb;replace ab:=nA ab hb;replace aj:=nA aj hb;replace HK:=oV HK hb;replace HB:=dm (oL (qo HB.out) hb);replace ak:=dm (nz.below (o8) hb);(try clear hb ay);refine hK.out _ _ ⟨nk ab 0,nk ab 1⟩ (fun hHeld=>?_);clear hK K;refine nQ 84 ?_;refine lq 10 74 10239 ?_;refine lq 11 85 12287 ?_;refine lq 12 86 16383 ?_;exact rE (by simp only[ry,Act.put,List.setIfInBounds_toArray,List.set_cons_zero,List.set_cons_succ]) (rT (aS,ae) _ ⟨hHeld,(zB),(zw),(nG ac.out),(nG ab.out),(nG aj.out),aO.out,aP.out,aB.out,au.out,ao.out,ap.out,al.out,aq.out,(o8),(nU HK.out),(qo HB.out)⟩)
           rintro⟨aS,ae⟩ bp ⟨hS_,cm,cn,co,cp,cq,cr,ct,cu,cv,cw,bX,bY,bZ,b1,b2,b3⟩;have n0:lm (Kd.R k59 59 bp w.heap.size (fun k_=>some k_≠(.slice aZ ag.length a2:Value).ownBlock) aS aW):=⟨cm⟩;have n1:lm (Kd.R k59 59 bp w.heap.size (fun k_=>some k_≠(aS:Value).ownBlock) (.slice aZ ag.length a2) ag):=⟨cn⟩;have n2:lm (bp.heap[am]? =some (.cells #[.int .i64 0,.slice none 0 0] 31 (0,0))):=⟨co⟩;have n3:lm (bp.heap[ah]? =some (.cells #[.int .i64 af,.slice aZ ag.length a2] 31 (0,0))):=⟨cp⟩;have n4:lm (bp.heap[ae]? =some (.cells #[.int .i64 0,.slice none 0 0] 31 (0,0))):=⟨cq⟩;have n5:lm (w.heap.size<=ae):=⟨cr⟩;have n6:lm (w0.heap.size<=ae):=⟨ct⟩;have n7:lm (g≠ae):=⟨cu⟩;have n8:lm (ae≠g):=⟨cv⟩;have n9:lm (am≠ae):=⟨cw⟩;have a7:lm (ae≠am):=⟨bX⟩;have a_:lm (ah≠ae):=⟨bY⟩;have ba:lm (ae≠ah):=⟨bZ⟩;have bc:lm (nz w0 bp g ai aT):=⟨b1⟩;have bd:lm (ow w bp g none):=⟨b2⟩;have bW:lm (Below w0.heap.size w0 bp):=⟨b3⟩;clear aa ac ab ak HK HB;clear cm cn co cp cq cr ct cu cv cw bX bY bZ b1 b2 b3;revert n0 n1 n2 n3 n4 n5 n6 n7 n8 n9 a7 a_ ba bc bd bW;intro aF aa ac ab aj aO aP aB au ao ap al aq ak HK HB;have hHeld:bp.cell? ⟨ah,0,none⟩=some (.int .i64 af)/\bp.cell? ⟨ah,1,none⟩=some (.slice aZ ag.length a2):=hS_;obtain⟨cz,cA,dk⟩:=nW aF.out;(first|subst dk|(injection dk with bn bF bo;have bG:=bn.symm;have bH:=bo.symm;clear bn bF bo;subst bG;subst bH));refine rE (a':= ?_) ?_ ?_;rotate_left
           ·simp only[ry,Act.put,List.setIfInBounds_toArray,List.set_cons_zero,List.set_cons_succ];rfl
           refine Bp 14 (none) (pg 16 32767) (fun K hK=>?_);have f5:bp.cell? ⟨ae,0,none⟩=some (.int .i64 0):=nk aj 0;have ft:=qN aj.out 0;have eh:=ao.out;have ei:=al.out;have ej:=ap.out;have ek:=aq.out;have f6:bp.cell? ⟨ae,1,none⟩=some (.slice none 0 0):=nk aj 1;have fu:=qN aj.out 1;have el:=ao.out;have em:=al.out;have en:=ap.out;have eo:=aq.out;refine tT (w1:= ?_) (by rfl) rfl ?_ ?_;rotate_left
           ·go_simp
            rfl
           refine hK.out _ _ ⟨((cell_far (p:=⟨ae,_,none⟩) al.out _).trans (((cell_far (p:=⟨ae,_,none⟩) al.out _).trans (hHeld.1)))),((cell_far (p:=⟨ae,_,none⟩) al.out _).trans (((cell_far (p:=⟨ae,_,none⟩) al.out _).trans (hHeld.2))))⟩ (fun hHeld=>?_);clear hK K;refine lq 15 10 65535 ?_;refine pM (pQ HT_.out (xx)) ?_;have fv:=ap.out;have fw:=ao.out;have fx:=aq.out;have fy:=al.out;have fz:=au.out;have fA:=aB.out;have⟨ep,eq,er,es⟩:=nK (w:=bp) aj;have fB:=aH.out;have fC:=aA.out;have fD:=av.out;have fE:=bq.out;have⟨et,eu,ev,ew⟩:=nK (w:=bp) ab;try go_wp2
           go_roundg k3
           case measure=>have:=bL.out;have:=b8.out;have:=cN.out;omega
           case rel=>exact⟨(wrap64 (a6 - 1)),(aT),(aR),(aW),(.slice cz aW.length cA),(Av),H',⟨by have:=bL.out;have:=b8.out;have:=cN.out;omega⟩,⟨by(with_reducible repeat(first|apply nY|apply nZ|apply nN));exact nL (nR (p:=⟨ah,1,none⟩) (nR (p:=⟨ah,0,none⟩) (nR (p:=⟨ae,1,none⟩) (nR (p:=⟨ae,0,none⟩) (oK (oK aF.out aj.out (rA)) ab.out (rA)) (fun _ hk=>hk.1.2) (.int .i64 aR)) (fun _ hk=>hk.1.2) (.slice cz aW.length cA)) (fun _ hk=>hk.2) (.int .i64 aR)) (fun _ hk=>hk.2) (.slice cz aW.length cA)) (fun _ hk=>trivial)⟩,⟨oJ ac.out⟩,⟨oJ ab.out⟩,⟨o8⟩,⟨nU HK.out⟩,⟨qo HB.out⟩⟩
          ·have H':=dm H;clear H;obtain⟨a4,a5,dM⟩:=nW aa.out;subst dM;try go_wp2
           replace aa:=dm (nN aa.out);replace ac:=dm (nV ac.out);replace ab:=dm (nV ab.out);replace ak:=dm (nz.drew ak.out);replace HK:=dm (vJ HK.out);replace HB:=dm (o9 HB.out);refine pU 16 (S:=fun w'=>w'.cell? ⟨ah,0,none⟩=some (.int .i64 af)/\w'.cell? ⟨ah,1,none⟩=some (.slice a4 ag.length a5)) [] ⟨nk ab 0,nk ab 1⟩ pK.yE pK.yz (fun hHeld HT_ HW_=>?_);generalize wr.drew=gh at aa ac ab ak HK HB hHeld⊢;refine lq 1 76 2 ?_;refine lq 2 77 6 ?_;refine lq 5 80 38 ?_;refine lq 6 81 102 ?_;refine qZ 0 75 103 ?_;refine qZ 3 78 111 ?_;refine qZ 7 82 239 ?_;refine yC (σ:=Value×Nat) 2 (pg 16 16383) (fun s_=>[(79,.int .i64 aG),(83,.int .i64 aE),(84,.tuple #[.agg #[.int .i64 aR,s_.1],.bool false]),(9,.pointer (some ⟨s_.2,0,none⟩)),(74,.tuple #[.agg #[.int .i64 aR,s_.1],.bool false]),(85,.agg #[.int .i64 aR,s_.1]),(86,.bool false)]) (fun s_ w'=>(w'.cell? ⟨ah,0,none⟩=some (.int .i64 af)/\w'.cell? ⟨ah,1,none⟩=some (.slice a4 ag.length a5))/\(Kd.R k59 59 w' w.heap.size (fun k_=>some k_≠(.slice a4 ag.length a5:Value).ownBlock) s_.1 aW)/\(Kd.R k59 59 w' w.heap.size (fun k_=>some k_≠(s_.1:Value).ownBlock) (.slice a4 ag.length a5) ag)/\(w'.heap[am]? =some (.cells #[.int .i64 0,.slice none 0 0] 31 (0,0)))/\(w'.heap[ah]? =some (.cells #[.int .i64 af,.slice a4 ag.length a5] 31 (0,0)))/\(w'.heap[s_.2]? =some (.cells #[.int .i64 0,.slice none 0 0] 31 (0,0)))/\(w.heap.size<=s_.2)/\(w0.heap.size<=s_.2)/\(g≠s_.2)/\(s_.2≠g)/\(am≠s_.2)/\(s_.2≠am)/\(ah≠s_.2)/\(s_.2≠ah)/\(nz w0 w' g ai aT)/\(ow w w' g none)/\(Below w0.heap.size w0 w')) ?_ ?_;rotate_left
           ·intro rT;refine vR (i:=4) (j:=13) (Ni:=some 79) (Nj:=some 9) (pg 16 255) (pg 16 8431) rfl rfl rfl rfl (vM HT_.out (xx)) (rA) (rA) (fun K hK=>?_) (fun K hK=>?_)
            ·skip;refine oO Try.func104 #[.pointer (some ⟨g,0,none⟩),.int .i64 af] ?_;with_reducible refine(oP.calls k3 g ai az af aG aQ w0 _ ?ng ?ni cO.out).mono ?_
             (case ng=>exact o8);(case ni=>exact qo HB.out);rintro e e2 ⟨rfl,hi,hb,hk⟩;refine⟨_,rfl,?_⟩;replace aa:=dm (nL (qi (nz.apart (show nz w0 _ g ai az from o8) (nH aa.out) (rA)) hk (fun _ h=>h.2)) (fun _ h=>h.1));replace ac:=oI ac ax hk;replace ab:=oI ab av hk;replace HK:=pR HK hk;replace HB:=dm (hb);replace ak:=dm (hi);(try clear hb cl hk hi);refine hK.out _ _ ⟨nk ab 0,nk ab 1⟩ (fun hHeld=>?_);clear hK K;refine nQ 79 ?_;refine vR (i:=8) (j:=13) (Ni:=some 83) (Nj:=some 9) (pg 16 511) (pg 16 8447) rfl rfl rfl rfl (vM HT_.out (xx)) (rA) (rA) (fun K hK=>?_) (fun K hK=>?_)
             ·skip;refine oO Try.func104 #[.pointer (some ⟨g,0,none⟩),.int .i64 af] ?_;with_reducible refine(oP.calls k3 g ai aQ af aE aT w0 _ ?ng ?ni ca.out).mono ?_
              (case ng=>exact o8);(case ni=>exact qo HB.out);rintro e dD ⟨rfl,hi,hb,hk⟩;refine⟨_,rfl,?_⟩;replace aa:=dm (nL (qi (nz.apart (show nz w0 _ g ai aQ from o8) (nH aa.out) (rA)) hk (fun _ h=>h.2)) (fun _ h=>h.1));replace ac:=oI ac ax hk;replace ab:=oI ab av hk;replace HK:=pR HK hk;replace HB:=dm (hb);replace ak:=dm (hi);(try clear hb hk hi);refine hK.out _ _ ⟨nk ab 0,nk ab 1⟩ (fun hHeld=>?_);clear hK K;refine nQ 83 ?_;refine vR (i:=9) (j:=13) (Ni:=some 84) (Nj:=some 9) (pg 16 1023) (pg 16 8703) rfl rfl rfl rfl (vM HT_.out (xx)) (rA) (rA) (fun K hK=>?_) (fun K hK=>?_)
              ·skip;refine oO Try.func105 #[.agg #[.int .i64 af,.slice a4 ag.length a5],.int .i64 aG,.int .i64 aE] ?_;with_reducible refine(oZ.calls k3 af _ _ ag aG aE aR aW false _ ?ng ?ni bM.out).mono ?_
               (case ng=>exact nO (nM aa.out).2.2);(case ni=>exact(nM aa.out).2.1);rintro e dl ⟨aS,rfl,ay,hb⟩;refine⟨_,rfl,?_⟩;have aF:=dm (oF (pV ay (oN (nH aa.out))) (o7 (w:=w) (g:=g) (row:=none) (nU HK.out)));replace aa:=qm aa ay hb;replace ac:=nA ac hb;replace ab:=nA ab hb;replace HK:=oV HK hb;replace HB:=dm (oL (qo HB.out) hb);replace ak:=dm (nz.below (o8) hb);(try clear hb ay);refine hK.out _ _ ⟨nk ab 0,nk ab 1⟩ (fun hHeld=>?_);clear hK K;refine nQ 84 ?_;refine lq 10 74 2047 ?_;refine lq 11 85 4095 ?_;refine lq 12 86 8191 ?_;refine oD 13 9 16383 (fun K hK=>?_);refine tX ?hg (N:=9) ?hd (cs:= #[.int .i64 0,.slice none 0 0]) (t:=31) ?hr ?_;(case hd=>rfl);(case hg=>rfl);(case hr=>first|(go_simp;done)|(go_simp;rfl));intro ae hg dn nu hb;have n0:=ou aa hb;have n1:=ou aF hb;have n2:=nA ac hb;have n3:=nA ab hb;have n4:=dm (nz.below (o8) hb);have n5:=oV HK hb;have n6:=dm (oL (qo HB.out) hb);have n7:=dm (nu);have n8:=dm (uP:w.heap.size<=ae);have n9:=dm (Nat.le_trans bC.out (uP:w.heap.size<=ae):w0.heap.size<=ae);have a7:=dm (yH:am≠ae);have a_:=dm (yG:ae≠am);have ba:=dm (EX:ah≠ae);have bc:=dm (Ei:ae≠ah);have bd:=dm (EF:g≠ae);have bW:=dm (EI:ae≠g);clear aa aF ac ab ak HK HB;revert n0 n1 n2 n3 n4 n5 n6 n7 n8 n9 a7 a_ ba bc bd bW;intro aa aF ac ab ak HK HB aj aO aP ao ap al aq aB au;clear hb nu hg;refine hK.out _ _ ⟨nk ab 0,nk ab 1⟩ (fun hHeld=>?_);clear hK K;refine nQ 9 ?_;exact rE (by simp only[ry,Act.put,List.setIfInBounds_toArray,List.set_cons_zero,List.set_cons_succ]) (rT (aS,ae) _ ⟨hHeld,(zB),(zw),(nG ac.out),(nG ab.out),(nG aj.out),aO.out,aP.out,aB.out,au.out,ao.out,ap.out,al.out,aq.out,(o8),(nU HK.out),(qo HB.out)⟩)
              ·skip;refine tX ?hg (N:=9) ?hd (cs:= #[.int .i64 0,.slice none 0 0]) (t:=31) ?hr ?_;(case hd=>rfl);(case hg=>rfl);(case hr=>first|(go_simp;done)|(go_simp;rfl));intro ae hg dl nu hb;have n0:=ou aa hb;have n1:=nA ac hb;have n2:=nA ab hb;have n3:=dm (nz.below (o8) hb);have n4:=oV HK hb;have n5:=dm (oL (qo HB.out) hb);have n6:=dm (nu);have n7:=dm (uP:w.heap.size<=ae);have n8:=dm (Nat.le_trans bC.out (uP:w.heap.size<=ae):w0.heap.size<=ae);have n9:=dm (yH:am≠ae);have a7:=dm (yG:ae≠am);have a_:=dm (EX:ah≠ae);have ba:=dm (Ei:ae≠ah);have bc:=dm (EF:g≠ae);have bd:=dm (EI:ae≠g);clear aa ac ab ak HK HB;revert n0 n1 n2 n3 n4 n5 n6 n7 n8 n9 a7 a_ ba bc bd;intro aa ac ab ak HK HB aj aO aP ao ap al aq aB au;clear hb nu hg;refine hK.out _ _ ⟨nk ab 0,nk ab 1⟩ (fun hHeld=>?_);clear hK K;refine nQ 9 ?_;refine oD 9 84 9215 (fun K hK=>?_);refine oO Try.func105 #[.agg #[.int .i64 af,.slice a4 ag.length a5],.int .i64 aG,.int .i64 aE] ?_;with_reducible refine(oZ.calls k3 af _ _ ag aG aE aR aW false _ ?ng ?ni bM.out).mono ?_
               (case ng=>exact nO (nM aa.out).2.2);(case ni=>exact(nM aa.out).2.1);rintro e dn ⟨aS,rfl,ay,hb⟩;refine⟨_,rfl,?_⟩;have aF:=dm (oF (pV ay (oN (nH aa.out))) (o7 (w:=w) (g:=g) (row:=none) (nU HK.out)));replace aa:=qm aa ay hb;replace ac:=nA ac hb;replace ab:=nA ab hb;replace aj:=nA aj hb;replace HK:=oV HK hb;replace HB:=dm (oL (qo HB.out) hb);replace ak:=dm (nz.below (o8) hb);(try clear hb ay);refine hK.out _ _ ⟨nk ab 0,nk ab 1⟩ (fun hHeld=>?_);clear hK K;refine nQ 84 ?_;refine lq 10 74 10239 ?_;refine lq 11 85 12287 ?_;refine lq 12 86 16383 ?_;exact rE (by simp only[ry,Act.put,List.setIfInBounds_toArray,List.set_cons_zero,List.set_cons_succ]) (rT (aS,ae) _ ⟨hHeld,(zB),(zw),(nG ac.out),(nG ab.out),(nG aj.out),aO.out,aP.out,aB.out,au.out,ao.out,ap.out,al.out,aq.out,(o8),(nU HK.out),(qo HB.out)⟩)
             ·skip;refine tX ?hg (N:=9) ?hd (cs:= #[.int .i64 0,.slice none 0 0]) (t:=31) ?hr ?_;(case hd=>rfl);(case hg=>rfl);(case hr=>first|(go_simp;done)|(go_simp;rfl));intro ae hg dD nu hb;have n0:=ou aa hb;have n1:=nA ac hb;have n2:=nA ab hb;have n3:=dm (nz.below (o8) hb);have n4:=oV HK hb;have n5:=dm (oL (qo HB.out) hb);have n6:=dm (nu);have n7:=dm (uP:w.heap.size<=ae);have n8:=dm (Nat.le_trans bC.out (uP:w.heap.size<=ae):w0.heap.size<=ae);have n9:=dm (yH:am≠ae);have a7:=dm (yG:ae≠am);have a_:=dm (EX:ah≠ae);have ba:=dm (Ei:ae≠ah);have bc:=dm ((by rw[hg];exact Nat.ne_of_lt (nz.lt (show nz w0 _ g ai aQ from o8)):g≠ae));have bd:=dm ((by rw[hg];exact Nat.ne_of_gt (nz.lt (show nz w0 _ g ai aQ from o8)):ae≠g));clear aa ac ab ak HK HB;revert n0 n1 n2 n3 n4 n5 n6 n7 n8 n9 a7 a_ ba bc bd;intro aa ac ab ak HK HB aj aO aP ao ap al aq aB au;clear hb nu hg;refine hK.out _ _ ⟨nk ab 0,nk ab 1⟩ (fun hHeld=>?_);clear hK K;refine nQ 9 ?_;refine oD 8 83 8703 (fun K hK=>?_);refine oO Try.func104 #[.pointer (some ⟨g,0,none⟩),.int .i64 af] ?_;with_reducible refine(oP.calls k3 g ai aQ af aE aT w0 _ ?ng ?ni ca.out).mono ?_
              (case ng=>exact o8);(case ni=>exact qo HB.out);rintro e dl ⟨rfl,hi,hb,hk⟩;refine⟨_,rfl,?_⟩;replace aa:=dm (nL (qi (nz.apart (show nz w0 _ g ai aQ from o8) (nH aa.out) (rA)) hk (fun _ h=>h.2)) (fun _ h=>h.1));replace ac:=oI ac ax hk;replace ab:=oI ab av hk;replace aj:=oI aj au hk;replace HK:=pR HK hk;replace HB:=dm (hb);replace ak:=dm (hi);(try clear hb hk hi);refine hK.out _ _ ⟨nk ab 0,nk ab 1⟩ (fun hHeld=>?_);clear hK K;refine nQ 83 ?_;refine oD 9 84 9215 (fun K hK=>?_);refine oO Try.func105 #[.agg #[.int .i64 af,.slice a4 ag.length a5],.int .i64 aG,.int .i64 aE] ?_;with_reducible refine(oZ.calls k3 af _ _ ag aG aE aR aW false _ ?ng ?ni bM.out).mono ?_
              (case ng=>exact nO (nM aa.out).2.2);(case ni=>exact(nM aa.out).2.1);rintro e dn ⟨aS,rfl,ay,hb⟩;refine⟨_,rfl,?_⟩;have aF:=dm (oF (pV ay (oN (nH aa.out))) (o7 (w:=w) (g:=g) (row:=none) (nU HK.out)));replace aa:=qm aa ay hb;replace ac:=nA ac hb;replace ab:=nA ab hb;replace aj:=nA aj hb;replace HK:=oV HK hb;replace HB:=dm (oL (qo HB.out) hb);replace ak:=dm (nz.below (o8) hb);(try clear hb ay);refine hK.out _ _ ⟨nk ab 0,nk ab 1⟩ (fun hHeld=>?_);clear hK K;refine nQ 84 ?_;refine lq 10 74 10239 ?_;refine lq 11 85 12287 ?_;refine lq 12 86 16383 ?_;exact rE (by simp only[ry,Act.put,List.setIfInBounds_toArray,List.set_cons_zero,List.set_cons_succ]) (rT (aS,ae) _ ⟨hHeld,(zB),(zw),(nG ac.out),(nG ab.out),(nG aj.out),aO.out,aP.out,aB.out,au.out,ao.out,ap.out,al.out,aq.out,(o8),(nU HK.out),(qo HB.out)⟩)
            ·skip;refine tX ?hg (N:=9) ?hd (cs:= #[.int .i64 0,.slice none 0 0]) (t:=31) ?hr ?_;(case hd=>rfl);(case hg=>rfl);(case hr=>first|(go_simp;done)|(go_simp;rfl));intro ae hg e2 nu hb;have n0:=ou aa hb;have n1:=nA ac hb;have n2:=nA ab hb;have n3:=dm (nz.below (o8) hb);have n4:=oV HK hb;have n5:=dm (oL (qo HB.out) hb);have n6:=dm (nu);have n7:=dm (uP:w.heap.size<=ae);have n8:=dm (Nat.le_trans bC.out (uP:w.heap.size<=ae):w0.heap.size<=ae);have n9:=dm (yH:am≠ae);have a7:=dm (yG:ae≠am);have a_:=dm (EX:ah≠ae);have ba:=dm (Ei:ae≠ah);have bc:=dm ((by rw[hg];exact Nat.ne_of_lt (nz.lt (show nz w0 _ g ai az from o8)):g≠ae));have bd:=dm ((by rw[hg];exact Nat.ne_of_gt (nz.lt (show nz w0 _ g ai az from o8)):ae≠g));clear aa ac ab ak HK HB;revert n0 n1 n2 n3 n4 n5 n6 n7 n8 n9 a7 a_ ba bc bd;intro aa ac ab ak HK HB aj aO aP ao ap al aq aB au;clear hb nu hg;refine hK.out _ _ ⟨nk ab 0,nk ab 1⟩ (fun hHeld=>?_);clear hK K;refine nQ 9 ?_;refine oD 4 79 8447 (fun K hK=>?_);refine oO Try.func104 #[.pointer (some ⟨g,0,none⟩),.int .i64 af] ?_;with_reducible refine(oP.calls k3 g ai az af aG aQ w0 _ ?ng ?ni cO.out).mono ?_
             (case ng=>exact o8);(case ni=>exact qo HB.out);rintro e dD ⟨rfl,hi,hb,hk⟩;refine⟨_,rfl,?_⟩;replace aa:=dm (nL (qi (nz.apart (show nz w0 _ g ai az from o8) (nH aa.out) (rA)) hk (fun _ h=>h.2)) (fun _ h=>h.1));replace ac:=oI ac ax hk;replace ab:=oI ab av hk;replace aj:=oI aj au hk;replace HK:=pR HK hk;replace HB:=dm (hb);replace ak:=dm (hi);(try clear hb cl hk hi);refine hK.out _ _ ⟨nk ab 0,nk ab 1⟩ (fun hHeld=>?_);clear hK K;refine nQ 79 ?_;refine oD 8 83 8703 (fun K hK=>?_);refine oO Try.func104 #[.pointer (some ⟨g,0,none⟩),.int .i64 af] ?_;with_reducible refine(oP.calls k3 g ai aQ af aE aT w0 _ ?ng ?ni ca.out).mono ?_
             (case ng=>exact o8);(case ni=>exact qo HB.out);rintro e dl ⟨rfl,hi,hb,hk⟩;refine⟨_,rfl,?_⟩;replace aa:=dm (nL (qi (nz.apart (show nz w0 _ g ai aQ from o8) (nH aa.out) (rA)) hk (fun _ h=>h.2)) (fun _ h=>h.1));replace ac:=oI ac ax hk;replace ab:=oI ab av hk;replace aj:=oI aj au hk;replace HK:=pR HK hk;replace HB:=dm (hb);replace ak:=dm (hi);(try clear hb hk hi);refine hK.out _ _ ⟨nk ab 0,nk ab 1⟩ (fun hHeld=>?_);clear hK K;refine nQ 83 ?_;refine oD 9 84 9215 (fun K hK=>?_);refine oO Try.func105 #[.agg #[.int .i64 af,.slice a4 ag.length a5],.int .i64 aG,.int .i64 aE] ?_;with_reducible refine(oZ.calls k3 af _ _ ag aG aE aR aW false _ ?ng ?ni bM.out).mono ?_
             (case ng=>exact nO (nM aa.out).2.2);(case ni=>exact(nM aa.out).2.1);rintro e dn ⟨aS,rfl,ay,hb⟩;refine⟨_,rfl,?_⟩;have aF:=dm (oF (pV ay (oN (nH aa.out))) (o7 (w:=w) (g:=g) (row:=none) (nU HK.out)));replace aa:=qm aa ay hb;replace ac:=nA ac hb;replace ab:=nA ab hb;replace aj:=nA aj hb;replace HK:=oV HK hb;replace HB:=dm (oL (qo HB.out) hb);replace ak:=dm (nz.below (o8) hb);(try clear hb ay);refine hK.out _ _ ⟨nk ab 0,nk ab 1⟩ (fun hHeld=>?_);clear hK K;refine nQ 84 ?_;refine lq 10 74 10239 ?_;refine lq 11 85 12287 ?_;refine lq 12 86 16383 ?_;exact rE (by simp only[ry,Act.put,List.setIfInBounds_toArray,List.set_cons_zero,List.set_cons_succ]) (rT (aS,ae) _ ⟨hHeld,(zB),(zw),(nG ac.out),(nG ab.out),(nG aj.out),aO.out,aP.out,aB.out,au.out,ao.out,ap.out,al.out,aq.out,(o8),(nU HK.out),(qo HB.out)⟩)
           rintro⟨aS,ae⟩ bz ⟨hS_,cm,cn,co,cp,cq,cr,ct,cu,cv,cw,bX,bY,bZ,b1,b2,b3⟩;have n0:lm (Kd.R k59 59 bz w.heap.size (fun k_=>some k_≠(.slice a4 ag.length a5:Value).ownBlock) aS aW):=⟨cm⟩;have n1:lm (Kd.R k59 59 bz w.heap.size (fun k_=>some k_≠(aS:Value).ownBlock) (.slice a4 ag.length a5) ag):=⟨cn⟩;have n2:lm (bz.heap[am]? =some (.cells #[.int .i64 0,.slice none 0 0] 31 (0,0))):=⟨co⟩;have n3:lm (bz.heap[ah]? =some (.cells #[.int .i64 af,.slice a4 ag.length a5] 31 (0,0))):=⟨cp⟩;have n4:lm (bz.heap[ae]? =some (.cells #[.int .i64 0,.slice none 0 0] 31 (0,0))):=⟨cq⟩;have n5:lm (w.heap.size<=ae):=⟨cr⟩;have n6:lm (w0.heap.size<=ae):=⟨ct⟩;have n7:lm (g≠ae):=⟨cu⟩;have n8:lm (ae≠g):=⟨cv⟩;have n9:lm (am≠ae):=⟨cw⟩;have a7:lm (ae≠am):=⟨bX⟩;have a_:lm (ah≠ae):=⟨bY⟩;have ba:lm (ae≠ah):=⟨bZ⟩;have bc:lm (nz w0 bz g ai aT):=⟨b1⟩;have bd:lm (ow w bz g none):=⟨b2⟩;have bW:lm (Below w0.heap.size w0 bz):=⟨b3⟩;clear aa ac ab ak HK HB;clear cm cn co cp cq cr ct cu cv cw bX bY bZ b1 b2 b3;revert n0 n1 n2 n3 n4 n5 n6 n7 n8 n9 a7 a_ ba bc bd bW;intro aF aa ac ab aj aO aP aB au ao ap al aq ak HK HB;have hHeld:bz.cell? ⟨ah,0,none⟩=some (.int .i64 af)/\bz.cell? ⟨ah,1,none⟩=some (.slice a4 ag.length a5):=hS_;obtain⟨dN,dO,dp⟩:=nW aF.out;(first|subst dp|(injection dp with bn bF bo;have bG:=bn.symm;have bH:=bo.symm;clear bn bF bo;subst bG;subst bH));refine rE (a':= ?_) ?_ ?_;rotate_left
           ·simp only[ry,Act.put,List.setIfInBounds_toArray,List.set_cons_zero,List.set_cons_succ];rfl
           refine Bp 14 (none) (pg 16 32767) (fun K hK=>?_);have f7:bz.cell? ⟨ae,0,none⟩=some (.int .i64 0):=nk aj 0;have fF:=qN aj.out 0;have ex:=ao.out;have ey:=al.out;have ez:=ap.out;have eA:=aq.out;have f8:bz.cell? ⟨ae,1,none⟩=some (.slice none 0 0):=nk aj 1;have fG:=qN aj.out 1;have eB:=ao.out;have eC:=al.out;have eD:=ap.out;have eE:=aq.out;refine tT (w1:= ?_) (by rfl) rfl ?_ ?_;rotate_left
           ·go_simp
            rfl
           refine hK.out _ _ ⟨((cell_far (p:=⟨ae,_,none⟩) al.out _).trans (((cell_far (p:=⟨ae,_,none⟩) al.out _).trans (hHeld.1)))),((cell_far (p:=⟨ae,_,none⟩) al.out _).trans (((cell_far (p:=⟨ae,_,none⟩) al.out _).trans (hHeld.2))))⟩ (fun hHeld=>?_);clear hK K;refine lq 15 10 65535 ?_;refine pM (pQ HT_.out (xx)) ?_;try go_wp2
           go_roundg k3
           case measure=>have:=bL.out;have:=b8.out;have:=cN.out;omega
           case rel=>exact⟨(wrap64 (a6 - 1)),(aT),(af),(ag),(.slice a4 ag.length a5),(Av),H',⟨by have:=bL.out;have:=b8.out;have:=cN.out;omega⟩,⟨by(with_reducible repeat(first|apply nY|apply nZ|apply nN));exact nL (nR (p:=⟨ae,1,none⟩) (nR (p:=⟨ae,0,none⟩) (oK aa.out aj.out (rA)) (fun _ hk=>hk.2) (.int .i64 aR)) (fun _ hk=>hk.2) (.slice dN aW.length dO)) (fun _ hk=>trivial)⟩,⟨oJ ac.out⟩,⟨oJ ab.out⟩,⟨o8⟩,⟨nU HK.out⟩,⟨qo HB.out⟩⟩
         ·rw[if_neg b_]at H;have dw:=decide_eq_false b_;clear b_;obtain⟨⟨bB,bK⟩,dE,H⟩:=ol H;(try dsimp only at H)
          by_cases b4:bB=0
          ·rw[if_pos b4]at H;have dx:=beq_iff_eq.mpr b4;have dy:=bne_eq_false_iff_eq.mpr b4;clear b4;obtain⟨⟨b5,ch,dq⟩,e3,H⟩:=ol H;(try dsimp only at H);simp only[Option.some.injEq,Prod.mk.injEq]at H;obtain⟨rfl,rfl,rfl⟩:=H
           go_wp2_with (first|((with_reducible refine oh 104 rfl ?_);refine og 90 Try.func104 #[.pointer (some ⟨g,0,none⟩),.int .i64 8] ?_;(with_reducible refine(oP.calls k3 g ai az 8 bB bK w0 _ ?ng ?ni dE.out).mono ?_);(case ng=>exact o8);(case ni=>exact qo HB.out);rintro e gi ⟨rfl,hi,hb,hk⟩;refine⟨_,rfl,?_⟩;replace aa:=dm (nL (qi (nz.apart (show nz w0 _ g ai az from o8) (nH aa.out) (rA)) hk (fun _ h=>h.2)) (fun _ h=>h.1));replace ac:=oI ac ax hk;replace ab:=oI ab av hk;replace HK:=pR HK hk;replace HB:=dm (hb);replace ak:=dm (hi);(try clear hb hk hi))|((with_reducible refine oh 106 rfl ?_);refine og 93 Try.func106 #[.pointer (some ⟨g,0,none⟩)] ?_;(with_reducible refine(zO.calls k3 g ai bK b5 ch dq w0 _ ?ng ?ni e3.out).mono ?_);(case ng=>exact o8);(case ni=>exact qo HB.out);rintro e e4 ⟨f9,rfl,ay,hi,hb,hk⟩;refine⟨_,rfl,?_⟩;replace ac:=oI ac ax hk;replace ab:=oI ab av hk;have cQ:=dm (oF (pV ay (oN (nH aa.out))) (o7 (w:=w) (g:=g) (row:=none) (nU HK.out)));replace aa:=dm (nL (JE (Jy (nz.apart (show nz w0 _ g ai bK from o8) (nH aa.out) (rA)) hk) (vL ay)) (fun _ h_=>h_.1));replace HK:=pR HK hk;replace HB:=dm (hb);replace ak:=dm (hi);(try clear hb hk hi ay);have fH:=aA.out;have fI:=aH.out;have fJ:=ax.out;have fK:=b6.out;have⟨eF,eG,eH,eI⟩:=nK (w:=e4) ac;obtain⟨dr,dt,dP⟩:=nW cQ.out;subst dP))
           refine bodyPost_ret (results_cell_row rfl _ _ am 31 #[.int .i64 b5,.slice dr ch.length dt] (0,0) _ rfl (oJ ac.out) Try.underlying31 rfl (xx)) rfl ?_;exact⟨_,qD,by(with_reducible repeat(first|apply nY|apply nZ|apply nN));exact nL (nR (p:=⟨am,1,none⟩) (nR (p:=⟨am,0,none⟩) (oK cQ.out ac.out (rA)) (fun _ hk=>hk.2) (.int .i64 b5)) (fun _ hk=>hk.2) (.slice dr ch.length dt)) (fun _ hk=>trivial),o8,qo HB.out,nU HK.out⟩
          ·rw[if_neg b4]at H;have dx:=beq_eq_false_iff_ne.mpr b4;have dy:=bne_iff_ne.mpr b4;simp only[Option.some.injEq,Prod.mk.injEq]at H;obtain⟨rfl,rfl,rfl⟩:=H
           go_wp2_with (first|((with_reducible refine oh 104 rfl ?_);refine og 90 Try.func104 #[.pointer (some ⟨g,0,none⟩),.int .i64 8] ?_;(with_reducible refine(oP.calls k3 g ai az 8 bB bK w0 _ ?ng ?ni dE.out).mono ?_);(case ng=>exact o8);(case ni=>exact qo HB.out);rintro e dF ⟨rfl,hi,hb,hk⟩;refine⟨_,rfl,?_⟩;replace aa:=dm (nL (qi (nz.apart (show nz w0 _ g ai az from o8) (nH aa.out) (rA)) hk (fun _ h=>h.2)) (fun _ h=>h.1));replace ac:=oI ac ax hk;replace ab:=oI ab av hk;replace HK:=pR HK hk;replace HB:=dm (hb);replace ak:=dm (hi);(try clear hb hk hi);have fL:=aH.out;have fM:=aA.out;have fN:=av.out;have fO:=bq.out;have⟨eJ,eK,eL,eM⟩:=nK (w:=dF) ab;have fP:=ax.out;have fQ:=b6.out;have⟨eN,eO,eP,eQ⟩:=nK (w:=dF) ac;obtain⟨du,dv,dQ⟩:=nW aa.out;subst dQ))
           refine bodyPost_ret (results_cell_row rfl _ _ am 31 #[.int .i64 af,.slice du ag.length dv] (0,0) _ rfl (oJ ac.out) Try.underlying31 rfl (xx)) rfl ?_;exact⟨_,qD,by(with_reducible repeat(first|apply nY|apply nZ|apply nN));exact nL (nR (p:=⟨am,1,none⟩) (nR (p:=⟨am,0,none⟩) (oK aa.out ac.out (rA)) (fun _ hk=>hk.2) (.int .i64 af)) (fun _ hk=>hk.2) (.slice du ag.length dv)) (fun _ hk=>trivial),o8,qo HB.out,nU HK.out⟩
end Go.Proofs.Ytgeonpciodepgaa.P
namespace Go.Proofs.Ytgeonpciodepgaa.P
open Go.RowKit Go.Proofs.YtgeonpciodepgaaW.PrintWords Go.Proofs.YtgeonpciodepgaaW.PrintLast Go.Proofs.YtgeonpciodepgaaW.PrintMore Go.Proofs.YtgeonpciodepgaaW.PrintWords.Kd Go.Proofs.YtgeonpciodepgaaW.PrintMore.Kd
theorem Oc {e t base n cap:Nat}{W:World}{ok:Nat->Prop}{ad:Addr}{xs:List (List Int)}(h:Kd.S (Kd.slice t (Kd.int .i64)) e W base ok (.slice (some ad) n cap) xs) (i j x:Int)
  (h0:0<=i) (h1:i<(xs.length:Int)) (j0:0<=j) (j1:j<((xs.getD i.toNat []).length:Int)) {A:Option Addr}{m c:Nat}(hc:W.cell? (ad.add i.toNat)=some (.slice A m c)):
  ∃ge:Nat,A=some ⟨ge,0,none⟩/\ok ge/\(∃cells,W.heap[ge]? =some (.cells cells t (0,0)))/\(∃y:Value,W.cell? ⟨ge,j.toNat,none⟩=some y)/\W.frozen? ⟨ge,j.toNat,none⟩=false/\
   Kd.S (Kd.slice t (Kd.int .i64)) e (W.setCell ⟨ge,j.toNat,none⟩ (.int .i64 x)) base ok (.slice (some ad) n cap) (xs.set i.toNat ((xs.getD i.toNat []).set j.toNat x)):=by
 have hn:=(FC h).1
 obtain⟨oki,ce,hcl,hM,hcc,hok,hbk⟩:=Oj h [] i h0 (by rw[hn];exact h1)
 obtain⟨v,rfl,hR⟩:=hM
 have hR:Kd.R (Kd.int .i64) t W base oki v (xs.getD i.toNat []):=hR
 have hv:=hcc 0 _ rfl
 rw[Nat.add_zero,show((Kd.slice t (Kd.int .i64))).sz=1 from rfl,Nat.mul_one]at hv
 replace hv:=Option.some.inj (hv.symm.trans hc)
 subst hv
 obtain⟨ge,cap',he,hb,hlt,hcells⟩:=Bl hR (by omega)
 injection he with e1 e2 e3
 subst e1;subst e2;subst e3
 have hget:oki ge:=hR.1 ge (by simp[Value.ownBlock])
 obtain⟨hce,hfr⟩:=zY (d:=(0:Int)) hR j j0 j1
 have hp:=Ci hR j x
 refine⟨ge,rfl,(hok ge hget).1,hcells,⟨_,hce⟩,hfr,hbk hp.2 (fun k hk=>?_) ⟨_,rfl,?_⟩⟩
 ·injection hk with hk;rw[←hk];exact hget
 ·exact hp.1
end Go.Proofs.Ytgeonpciodepgaa.P
namespace Go.Proofs.Ytgeonpciodepgaa.P
set_option maxHeartbeats 8000000
set_option maxRecDepth 100000
open Go.RowKit Go.Proofs.YtgeonpciodepgaaW.PrintWords Go.Proofs.YtgeonpciodepgaaW.PrintLast Go.Proofs.YtgeonpciodepgaaW.PrintMore Go.Proofs.YtgeonpciodepgaaW.PrintWords.Kd Go.Proofs.YtgeonpciodepgaaW.PrintMore.Kd
attribute [local go_sem] wC wE wJ wG wy ww wB wF
theorem wO {p:Prop}(h:p:=by exact oJ ah.out):p:=h
theorem Aq {p:Prop}(h:p:=by exact oJ aa.out):p:=h
theorem wN {p:Prop}(h:p:=by exact oJ aa.out):p:=h
theorem GU {p:Prop}(h:p:=by(with_reducible repeat(first|apply nY|apply nZ|apply nN));exact(nL (nR (p:=⟨ae,1,none⟩) (nR (p:=⟨ae,0,none⟩) (oK af.out ah.out (by decide)) (fun _ hk=>hk.2) (.int .i64 ak)) (fun _ hk=>hk.2) (.slice a2 ag.length aY)) (fun _ h_=>h_.1))):p:=h
theorem GZ {p:Prop}(h:p:=by(with_reducible repeat(first|apply nY|apply nZ|apply nN));exact(nL (nR (p:=⟨ae,1,none⟩) (nR (p:=⟨ae,0,none⟩) (oK af.out ah.out (by decide)) (fun _ hk=>hk.2) (.int .i64 ak)) (fun _ hk=>hk.2) (.slice aN ag.length aM)) (fun _ h_=>h_.1))):p:=h
theorem GV {p:Prop}(h:p:=by(with_reducible repeat(first|apply nY|apply nZ|apply nN));exact(nL (nR (p:=⟨ae,1,none⟩) (nR (p:=⟨ae,0,none⟩) (oK af.out ah.out (by decide)) (fun _ hk=>hk.2) (.int .i64 ak)) (fun _ hk=>hk.2) (.slice bd ag.length ba)) (fun _ h_=>h_.1))):p:=h
theorem Gy {p:Prop}(h:p:=by(with_reducible repeat(first|apply nY|apply nZ|apply nN));exact(nL (nR (p:=⟨ae,1,none⟩) (nR (p:=⟨ae,0,none⟩) (oK af.out ah.out (by decide)) (fun _ hk=>hk.2) (.int .i64 ak)) (fun _ hk=>hk.2) (.slice bc ag.length a9)) (fun _ h_=>h_.1))):p:=h
theorem G_ {p:Prop}(h:p:=by(with_reducible repeat(first|apply nY|apply nZ|apply nN));exact(nL (nR (p:=⟨ae,1,none⟩) (nR (p:=⟨ae,0,none⟩) (oK af.out ah.out (by decide)) (fun _ hk=>hk.2) (.int .i64 ak)) (fun _ hk=>hk.2) (.slice aJ ag.length aH)) (fun _ h_=>h_.1))):p:=h
theorem GM {p:Prop}(h:p:=by(with_reducible repeat(first|apply nY|apply nZ|apply nN));exact(nL (nR (p:=⟨ae,1,none⟩) (nR (p:=⟨ae,0,none⟩) (oK af.out ah.out (by decide)) (fun _ hk=>hk.2) (.int .i64 ak)) (fun _ hk=>hk.2) (.slice a7 ag.length a4)) (fun _ h_=>h_.1))):p:=h
theorem GI {p:Prop}(h:p:=by(with_reducible repeat(first|apply nY|apply nZ|apply nN));exact(nL (nR (p:=⟨ae,1,none⟩) (nR (p:=⟨ae,0,none⟩) (oK af.out ah.out (by decide)) (fun _ hk=>hk.2) (.int .i64 ak)) (fun _ hk=>hk.2) (.slice a_ ag.length a8)) (fun _ h_=>h_.1))):p:=h
theorem Ew {p:Prop}(h:p:=by first|(rw[add_block];exact DF (nz.zb am.out (Kd.S_N aj.out) (by decide)))|(show(Addr.add _ _).block≠_;rw[add_block];exact DF (nz.zb am.out (Kd.S_N aj.out) (by decide)))|exact DF (nz.zb am.out (Kd.S_N aj.out) (by decide))):p:=h
theorem AA {p:Prop}(h:p:=by rw[hg];exact Nat.ne_of_lt (oQ (g:=ab) (o:=.cells #[.int .i64 0,.slice none 0 0] 31 (0,0)) (nG aa.out))):p:=h
theorem Ak {p:Prop}(h:p:=by rw[hg];exact Nat.ne_of_gt (oQ (g:=ab) (o:=.cells #[.int .i64 0,.slice none 0 0] 31 (0,0)) (nG aa.out))):p:=h
theorem uE {p:Prop}(h:p:=by(with_reducible repeat(first|apply uB|apply uC|apply tZ));exact aj.out):p:=h
theorem Em {p:Prop}(h:p:=by(with_reducible repeat(first|apply wH|apply wI|apply vC));exact aj.out):p:=h
theorem Az {p:Prop}(h:p:=by rw[hg];exact Nat.ne_of_lt (nz.lt (show nz w0 _ g ao bf from oW))):p:=h
theorem Au {p:Prop}(h:p:=by rw[hg];exact Nat.ne_of_gt (nz.lt (show nz w0 _ g ao bf from oW))):p:=h
theorem Ap {p:Prop}(h:p:=by rw[hg];exact Nat.ne_of_lt (nz.lt (show nz w0 _ g ao aC from oW))):p:=h
theorem Am {p:Prop}(h:p:=by rw[hg];exact Nat.ne_of_gt (nz.lt (show nz w0 _ g ao aC from oW))):p:=h
theorem sV {p:Prop}(h:p:=by rw[hg];exact(o7 (w:=w) (g:=g) (row:=none) (nU HK.out))):p:=h
theorem yO {p:Prop}(h:p:=by kernel_rfl):p:=h
theorem pF {p:Prop}(h:p:=by decide):p:=h
theorem oW {p:Prop}(h:p:=by repeat(first|(with_reducible first|exact am.out|apply nz.alloc|apply nz.drewN|apply nz.drew|apply nz.yD)|(with_reducible refine nz.far ?_ (lm.out (by assumption)) _)|exact am.out)):p:=h
theorem qg {B:Nat}{w w1 w2:World}(H:Below B w w1) (h:Below B w w2:=by repeat(first|(with_reducible first|exact HB.out|apply sZ|apply uG|apply o9)|(with_reducible refine rX ?_ (lm.out (by assumption)))|(with_reducible refine rX ?_ (nz.ge am.out))|exact HB.out)):Below B w w2:=h
def rD.l0:Nat->List (List Int)->Int->List Int->Int->List Int->Int->Int->List (S59)->Option (Int× (List (S59))× (List (List Int))×Int)
 |0,_,_,_,_,_,_,_,_=>none
 |k+1,x5,x7,x8,x9,gm,eD,dc,dd=>if x9>=0 then(if 0<=x7 then(if x7<(x5.length:Int) then(if 0<=x9 then(if x9<((nI x5 x7).length:Int) then(if x8.length<17592186044416 then(rD.l0 k x5 x7 (x8++[rd (nI x5 x7) x9]) (wrap64 (x9 - 1)) gm eD dc dd) else(none)) else(none)) else(none)) else(none)) else(none)) else(if 0<=x7 then(if x7<(x5.length:Int) then(some (dc,dd,(x5.set (x7:Int).toNat x8),eD)) else(none)) else(none))
def rD.f (k:Nat) (ao:List Int) (bf:Int):Option (Int× (List (S59))× (List (List Int))×Int):=(pK.f k ao bf).bind fun aw=>((oU.f k aw.1 aw.2.1).bind fun ap=>(if(ap.1.length:Int)=0 then(some (aw.1,aw.2.1,(([(([0,1,2,0]:List Int))]:List (List Int))),aw.2.2)) else((oP.f k ao aw.2.2 (ap.1.length:Int)).bind fun al=>((oP.f k ao al.2 8).bind fun aq=>(if aq.1=0 then((some (([]:List (List Int)):List (List Int))).bind fun aU=>(if 0<=al.1 then(if al.1<=(ap.1.length:Int) then((some (ap.1.take (al.1:Int).toNat:List (List Int))).bind fun aI=>(if aU.length+aI.length<5864062014805 then((some (aU++aI:List (List Int))).bind fun aD=>(if 0<=(wrap64 (al.1+1)) then(if(wrap64 (al.1+1))<=(ap.1.length:Int) then((some (ap.1.drop ((wrap64 (al.1+1)):Int).toNat:List (List Int))).bind fun ax=>(if aD.length+ax.length<5864062014805 then(some (aw.1,aw.2.1,(aD++ax),aq.2)) else(none))) else(none)) else(none))) else(none))) else(none)) else(none))) else(if aq.1=1 then(if 0<=al.1 then(if al.1<(ap.1.length:Int) then(if 1<=((nI ap.1 al.1).length:Int) then(some (aw.1,aw.2.1,(ap.1.set (al.1:Int).toNat ((nI ap.1 al.1).drop 1)),aq.2)) else(none)) else(none)) else(none)) else(if aq.1=2 then(if ap.1.length<5864062014805 then(some (aw.1,aw.2.1,(ap.1++[(([0,1]:List Int))]),aq.2)) else(none)) else(if aq.1=3 then(if 0<=al.1 then(if al.1<(ap.1.length:Int) then((oP.f k ao aq.2 ((nI ap.1 al.1).length:Int)).bind fun aA=>((oP.f k ao aA.2 9).bind fun aQ=>(if 0<=aA.1 then(if aA.1<((nI ap.1 al.1).length:Int) then(some (aw.1,aw.2.1,(ap.1.set (al.1:Int).toNat ((nI ap.1 al.1).set (aA.1:Int).toNat aQ.1)),aQ.2)) else(none)) else(none)))) else(none)) else(none)) else(if aq.1=4 then(if 0<=al.1 then(if al.1<(ap.1.length:Int) then(rD.l0 k ap.1 al.1 (([]:List Int)) (wrap64 (((nI ap.1 al.1).length:Int) - 1)) ao aq.2 aw.1 aw.2.1) else(none)) else(none)) else(some (aw.1,aw.2.1,ap.1,aq.2)))))))))))
def rD.T8:Bool×List (List Nat×List Nat):=(true,[([],[]),([],[]),([],[]),([1,2],[1,2]),([0,3],[0,3]),([],[]),([],[]),([6],[6]),([5,7],[5,7]),([4,8,4],[4,8]),([9,9,0,1,2,3,4,5,6,7,8,9],[1,5,9])])
def rD.B8:List Nat:=[0,0,0,6,15,0,0,64,224,511,1023]
theorem rD.xw:p_ .any (opsOf Try.f71 8)=rD.T8:=by kernel_rfl
theorem rD.xu:qQ rD.T8.2 rD.B8=true:=by kernel_rfl
def rD.T14:Bool×List (List Nat×List Nat):=(true,[([],[]),([],[]),([0,1],[0,1]),([2],[2]),([],[]),([],[]),([],[]),([5,6],[5,6]),([7],[7]),([8],[8]),([4,9],[4,9]),([],[]),([11,10],[11]),([3,10,0,1,2,3,4,5,6,7,8,9,10,11,12],[3,10]),([13,12,12,0,1,2,3,4,5,6,7,8,9,10,11,12],[12,13])])
def rD.B14:List Nat:=[0,0,3,7,0,0,0,96,224,480,1008,0,4080,8191,16383]
theorem rD.Eb:p_ .any (opsOf Try.f71 14)=rD.T14:=by kernel_rfl
theorem rD.DX:qQ rD.T14.2 rD.B14=true:=by kernel_rfl
theorem rD.calls (k:Nat) (g:Nat) (ao:List Int) (bf:Int) (r1:Int) (r2:List (S59)) (r3:List (List Int)) (r4:Int) (w0 w:World) (hI:nz w0 w g ao bf) (hB:Below w0.heap.size w0 w) (h:rD.f k ao bf=some (r1,r2,r3,r4)):
  Calls Try.prog 71 #[.pointer (some ⟨g,0,none⟩)] w fun e w'=>∃fv gQ:Value,e=.returned (.tuple #[.agg #[.int .i64 r1,fv],gQ])/\Kd.R k59 59 w' w.heap.size (fun k_=>(w.heap.size<=k_)) fv r2/\Kd.N (Kd.slice 3 (Kd.int .i64)) 45 w' w.heap.size (fun k_=>(w.heap.size<=k_)/\some k_≠(fv:Value).ownBlock) gQ r3/\nz w0 w' g ao r4/\Below w0.heap.size w0 w'/\ow w w' g none:=by
 have l9:=Try.underlying31;have am:=dm hI;have HK:=dm (ow.refl w g none);have HL:=dm hB.size;clear hI;have br:=dm hB.size;have HB:=dm hB;clear hB;unfold rD.f at h;have H:=h;clear h;obtain⟨⟨ak,ag,aC⟩,A2,H⟩:=ol H;(try dsimp only at H)
 obtain⟨⟨ac,bV⟩,A3,H⟩:=ol H;(try dsimp only at H)
 by_cases c4:(ac.length:Int)=0
 ·rw[if_pos c4]at H;have g2:=beq_iff_eq.mpr c4;have g3:=bne_eq_false_iff_eq.mpr c4;clear c4;obtain⟨ci,bY⟩:∃y_:List Int,y_=(([0,1,2,0]:List Int)):=⟨_,rfl⟩;replace H:(some (ak,ag,(([ci]:List (List Int))),aC))=some (r1,r2,r3,r4):=pE bY H
  have eE:=dm bY;clear bY;obtain⟨g4,bZ⟩:∃y_:List (List Int),y_=(([ci]:List (List Int))):=⟨_,rfl⟩;replace H:(some (ak,ag,g4,aC))=some (r1,r2,r3,r4):=pE bZ H
  have eF:=dm bZ;clear bZ;simp only[Option.some.injEq,Prod.mk.injEq]at H;obtain⟨rfl,rfl,rfl,rfl⟩:=H
  go_enter Try.func71,Try.ntmps71
  go_wp2_with (first|((with_reducible refine nP 2 rfl ?_);refine om 2 #[.int .i64 0,.slice none 0 0] 31 ?_;intro ab hg w5 nu hb;replace HB:=dm (oL (qg HB.out) hb);have aa:=dm (nu);have bG:=dm (sV:w.heap.size<=ab);have bH:=dm (Nat.le_trans br.out (sV:w.heap.size<=ab):w0.heap.size<=ab);replace HK:=oV HK hb;have aW:=dm (Az:g≠ab);have au:=dm (Au:ab≠g);replace am:=dm (nz.below (oW) hb);clear hb nu hg)|((with_reducible refine oh 73 rfl ?_);refine og 11 Try.func73 #[.pointer (some ⟨g,0,none⟩)] ?_;(with_reducible refine(pK.calls k g ao bf ak ag aC w0 _ ?ng ?ni A2.out).mono ?_);(case ng=>exact oW);(case ni=>exact qg HB.out);rintro e w6 ⟨cj,rfl,aG,hi,hb,hk⟩;refine⟨_,rfl,?_⟩;replace aa:=oI aa au hk;have af:=dm (oF (xJ (M:=fun k_=>(w.heap.size<=k_)) aG (o7 (w:=w) (g:=g) (row:=none) (nU HK.out)) (fun k_ h_=>h_)) (o7 (w:=w) (g:=g) (row:=none) (nU HK.out)));replace HK:=pR HK hk;replace HB:=dm (hb);replace am:=dm (hi);(try clear hb hk hi aG))|((with_reducible refine nP 4 rfl ?_);refine om 4 #[.int .i64 0,.slice none 0 0] 31 ?_;intro ae hg w7 nu hb;have n0:=ou af hb;have n1:=dm (nz.below (oW) hb);have n2:=nA aa hb;have n3:=oV HK hb;have n4:=dm (oL (qg HB.out) hb);have n5:=dm (nu);have n6:=dm (sV:w.heap.size<=ae);have n7:=dm (Nat.le_trans br.out (sV:w.heap.size<=ae):w0.heap.size<=ae);have n8:=dm (AA:ab≠ae);have n9:=dm (Ak:ae≠ab);have bx:=dm (Ap:g≠ae);have bz:=dm (Am:ae≠g);clear af am aa HK HB;revert n0 n1 n2 n3 n4 n5 n6 n7 n8 n9 bx bz;intro af am aa HK HB ah bI bJ az aE aT av;clear hb nu hg;have l_:=aE.out;have ma:=az.out;have mb:=av.out;have mc:=aT.out;have⟨iX,iY,iZ,i1⟩:=nK (w:=w7) ah;obtain⟨bc,a9,g5⟩:=nW af.out;subst g5)|((with_reducible refine oh 22 rfl ?_);refine og 14 Try.func22 #[.agg #[.int .i64 ak,.slice bc ag.length a9]] ?_;(with_reducible refine(oU.calls k ak _ _ ag ac bV _ ?ng ?ni A3.out).mono ?_);(case ng=>refine(nM (e:=59) (base:=w.heap.size) (ok:=fun k_=>((w.heap.size<=k_)/\True)) (n:=ag.length) (c:=a9) ?_).2.2;exact(Gy));(case ni=>exact(nM af.out).2.1);rintro e j9 ⟨ck,rfl,aG,hb⟩;refine⟨_,rfl,?_⟩;have aj:=dm (xX (qx (ok':=fun k_=>(w.heap.size<=k_)/\some k_≠(.slice bc ag.length a9:Value).ownBlock/\k_≠ab/\k_≠ae/\k_≠g) (Kd.S_N (yw aG)) (fun k_ hk_=>⟨(Nat.le_trans (o7 (w:=w) (g:=g) (row:=none) (nU HK.out)) hk_.2.1),(Kd.fresh' (oN (Gy)) k_ hk_.2.1),(rG (g:=ab) (o:=.cells #[.int .i64 0,.slice none 0 0] 31 (0,0)) (wN) k_ hk_.2.1),(rG (g:=ae) (o:=.cells #[.int .i64 ak,.slice bc ag.length a9] 31 (0,0)) (wO) k_ hk_.2.1),(nz.fresh (oW) k_ hk_.2.1)⟩)) (o7 (w:=w) (g:=g) (row:=none) (nU HK.out)));replace af:=dm (uf (Gy) hb);replace aa:=dm (rO (g:=ab) (o:=.cells #[.int .i64 0,.slice none 0 0] 31 (0,0)) (wN) hb);replace ah:=dm (rO (g:=ae) (o:=.cells #[.int .i64 ak,.slice bc ag.length a9] 31 (0,0)) (wO) hb);replace HK:=oV HK hb;replace HB:=dm (oL (qg HB.out) hb);replace am:=dm (nz.below (show nz w0 ((w7.setCell ⟨ae,0,none⟩ (.int .i64 ak)).setCell ⟨ae,1,none⟩ (.slice bc ag.length a9)) g ao aC from oW) hb);(try clear hb aG);obtain⟨cM,cN,g6⟩:=yZ aj.out;subst g6;have⟨i2,i3,i4,i5⟩:=nK (w:=j9) ah)|((with_reducible refine nP 21 rfl ?_);refine rU (Kd.int .i64) _ 3 ?hg (N:=21) ?hd (xs:=([0,1,2,0]:List Int)) (inner:=[.int .i64 0,.int .i64 1,.int .i64 2,.int .i64 0]) (ok:=fun _=>True) (okp:=fun _=>True) ?hr ?hp (fun _ hk=>hk) trivial (Below.refl _ _) (Nat.le_refl _) (by simp) ?_;(case hd=>rfl);(case hg=>rfl);(case hr=>first|(go_simp;done)|(go_simp;rfl));(case hp=>exact(oq.one (show Kd.M (Kd.int .i64) _ _ _ 0 [.int .i64 0] from rfl) (oq.one (show Kd.M (Kd.int .i64) _ _ _ 1 [.int .i64 1] from rfl) (oq.one (show Kd.M (Kd.int .i64) _ _ _ 2 [.int .i64 2] from rfl) (oq.one (show Kd.M (Kd.int .i64) _ _ _ 0 [.int .i64 0] from rfl) (oq.none _ _))))));intro me ka cl hb hg_ pq;clear hg_ pq;(first|rw[←eE.out]at cl|(simp only[Int.reduceToNat]at cl;rw[←eE.out]at cl));replace af:=ou af hb;replace aj:=dm (BO (uE) (vL cl) hb);have cI:=dm (oF (xJ (M:=fun k_=>(w.heap.size<=k_)) cl (o7 (w:=w) (g:=g) (row:=none) (nU HK.out)) (fun k_ h_=>h_)) (o7 (w:=w) (g:=g) (row:=none) (nU HK.out)));replace aa:=nA aa hb;replace ah:=nA ah hb;replace HK:=oV HK hb;replace HB:=dm (oL (qg HB.out) hb);replace am:=dm (nz.below (oW) hb);clear hb cl;obtain⟨fw,fx,g7⟩:=nW cI.out;subst g7)|((with_reducible refine nP 22 rfl ?_);refine Qj (Kd.slice 3 (Kd.int .i64)) _ 45 ?hg (N':=22) ?hd (xs:=([ci]:List (List Int))) (inner:=[.slice fw ci.length fx]) (ok:=(fun k_=>(w.heap.size<=k_)/\some k_≠(.slice bc ag.length a9:Value).ownBlock/\some k_≠(.slice cM ac.length cN:Value).ownBlock/\k_≠ab/\k_≠ae/\k_≠g)) (okp:=(fun k_=>(w.heap.size<=k_)/\some k_≠(.slice bc ag.length a9:Value).ownBlock/\some k_≠(.slice cM ac.length cN:Value).ownBlock/\k_≠ab/\k_≠ae/\k_≠g)) ?hr ?hp (fun _ hk=>hk) ((show∀k_,ka.heap.size<=k_->(fun k_=>(w.heap.size<=k_)/\some k_≠(.slice bc ag.length a9:Value).ownBlock/\some k_≠(.slice cM ac.length cN:Value).ownBlock/\k_≠ab/\k_≠ae/\k_≠g) k_ from fun k_ hk=>⟨(Nat.le_trans (o7 (w:=w) (g:=g) (row:=none) (nU HK.out)) hk),Kd.fresh' (oN (nH af.out)) k_ hk,Kd.fresh' (GL (uE)) k_ hk,rG (g:=ab) (o:=.cells #[.int .i64 0,.slice none 0 0] 31 (0,0)) (nG aa.out) k_ hk,rG (g:=ae) (o:=.cells #[.int .i64 ak,.slice bc ag.length a9] 31 (0,0)) (nG ah.out) k_ hk,nz.fresh (oW) k_ hk⟩) _ (Nat.le_refl _)) (Below.refl _ _) (Nat.le_refl _) (by simp) ?_;(case hd=>rfl);(case hg=>rfl);(case hr=>first|(go_simp;done)|(go_simp;rfl));(case hp=>exact(oq.one (show Kd.FK (Kd.slice 3 (Kd.int .i64)) _ _ ci [.slice fw ci.length fx] from(CZ (nM (nL (ok':=(fun k_=>(w.heap.size<=k_)/\some k_≠(.slice bc ag.length a9:Value).ownBlock/\some k_≠(.slice cM ac.length cN:Value).ownBlock/\k_≠ab/\k_≠ae/\k_≠g)) (nz.apart am.out (oK (oK (wD (wD (cI.out) (sS af.out) (pF)) (xG aj.out) (pF)) aa.out (pF)) ah.out (pF)) (pF)) (fun k_ hk=>⟨hk.1.1.1.1.1.1,⟨hk.1.1.1.1.2,⟨hk.1.1.1.2,⟨hk.1.1.2,⟨hk.1.2,hk.2⟩⟩⟩⟩⟩))).2.1 (Kd.R_F (nL (ok':=(fun k_=>(w.heap.size<=k_)/\some k_≠(.slice bc ag.length a9:Value).ownBlock/\some k_≠(.slice cM ac.length cN:Value).ownBlock/\k_≠ab/\k_≠ae/\k_≠g)) (nz.apart am.out (oK (oK (wD (wD (cI.out) (sS af.out) (pF)) (xG aj.out) (pF)) aa.out (pF)) ah.out (pF)) (pF)) (fun k_ hk=>⟨hk.1.1.1.1.1.1,⟨hk.1.1.1.1.2,⟨hk.1.1.1.2,⟨hk.1.1.2,⟨hk.1.2,hk.2⟩⟩⟩⟩⟩))))) (oq.none _ _)));intro mf kc cm hb hg_ pq;clear hg_ pq;(first|rw[←eF.out]at cm|(simp only[Int.reduceToNat]at cm;rw[←eF.out]at cm));have n0:=ou af hb;have n1:=dm (BO (uE) (D9 cm) hb);have n2:=dm (xX cm (o7 (w:=w) (g:=g) (row:=none) (nU HK.out)));have n3:=dm (nz.below (oW) hb);have n4:=nA aa hb;have n5:=nA ah hb;have n6:=oV HK hb;have n7:=dm (oL (qg HB.out) hb);clear af aj am aa ah HK HB cI;revert n0 n1 n2 n3 n4 n5 n6 n7;intro af aj gn am aa ah HK HB;clear hb cm;have k8:=au.out;have k9:=aW.out;have⟨i6,i7,i8,i9⟩:=nK (w:=kc) aa))
  refine bodyPost_ret (wS rfl _ _ ab 31 #[.int .i64 ak,.slice bc ag.length a9] (0,0) _ rfl (Aq) Try.underlying31 rfl (yO)) rfl ?_;exact⟨_,_,qD,by(with_reducible repeat(first|apply nY|apply nZ|apply nN));exact nL (nR (p:=⟨ab,1,none⟩) (nR (p:=⟨ab,0,none⟩) (oK af.out aa.out (pF)) (fun _ hk=>hk.2) (.int .i64 ak)) (fun _ hk=>hk.2) (.slice bc ag.length a9)) (fun _ hk=>hk.1.1),by(with_reducible repeat(first|apply uB|apply uC|apply tZ));exact qx (vD (p:=⟨ab,1,none⟩) (vD (p:=⟨ab,0,none⟩) (qx gn.out (fun k_ hk=>(⟨hk,hk.2.2.2.1⟩:_/\k_≠ab))) (fun _ hk=>hk.2) (.int .i64 ak)) (fun _ hk=>hk.2) (.slice bc ag.length a9)) (fun _ hk=>⟨hk.1.1,hk.1.2.1⟩),oW,qg HB.out,nU HK.out⟩
 ·rw[if_neg c4]at H;have g2:=beq_eq_false_iff_ne.mpr c4;have g3:=bne_iff_ne.mpr c4;have mg:¬ (ac=[]):=fun h_=>c4 (by rw[h_];rfl);obtain⟨⟨ai,a3⟩,cO,H⟩:=ol H;(try dsimp only at H);obtain⟨⟨aB,aK⟩,cP,H⟩:=ol H;(try dsimp only at H)
  by_cases cE:aB=0
  ·rw[if_pos cE]at H;have eG:=beq_iff_eq.mpr cE;have eH:=bne_eq_false_iff_eq.mpr cE;clear cE;obtain⟨aU,b1⟩:∃y_:List (List Int),y_=(([]:List (List Int))):=⟨_,rfl⟩;replace H:(if 0<=ai then(if ai<=(ac.length:Int) then((some (ac.take (ai:Int).toNat:List (List Int))).bind fun aI=>(if aU.length+aI.length<5864062014805 then((some (aU++aI:List (List Int))).bind fun aD=>(if 0<=(wrap64 (ai+1)) then(if(wrap64 (ai+1))<=(ac.length:Int) then((some (ac.drop ((wrap64 (ai+1)):Int).toNat:List (List Int))).bind fun ax=>(if aD.length+ax.length<5864062014805 then(some (ak,ag,(aD++ax),aK)) else(none))) else(none)) else(none))) else(none))) else(none)) else(none))=some (r1,r2,r3,r4):=pE b1 H
   have eI:=dm b1;clear b1
   obtain⟨dY,H⟩:=qd H;have lb:=eq_true dY;have lc:=decide_eq_true dY;clear dY
   obtain⟨dZ,H⟩:=qd H;have ld:=eq_true dZ;have le:=decide_eq_true dZ;clear dZ;obtain⟨aI,b2⟩:∃y_:List (List Int),y_=(ac.take (ai:Int).toNat):=⟨_,rfl⟩;replace H:(if aU.length+aI.length<5864062014805 then((some (aU++aI:List (List Int))).bind fun aD=>(if 0<=(wrap64 (ai+1)) then(if(wrap64 (ai+1))<=(ac.length:Int) then((some (ac.drop ((wrap64 (ai+1)):Int).toNat:List (List Int))).bind fun ax=>(if aD.length+ax.length<5864062014805 then(some (ak,ag,(aD++ax),aK)) else(none))) else(none)) else(none))) else(none))=some (r1,r2,r3,r4):=pE b2 H
   have eJ:=dm b2;clear b2
   obtain⟨eK,H⟩:=qd H;have gp:=dm eK;clear eK;obtain⟨aD,b3⟩:∃y_:List (List Int),y_=(aU++aI):=⟨_,rfl⟩;replace H:(if 0<=(wrap64 (ai+1)) then(if(wrap64 (ai+1))<=(ac.length:Int) then((some (ac.drop ((wrap64 (ai+1)):Int).toNat:List (List Int))).bind fun ax=>(if aD.length+ax.length<5864062014805 then(some (ak,ag,(aD++ax),aK)) else(none))) else(none)) else(none))=some (r1,r2,r3,r4):=pE b3 H
   have gq:=dm b3;clear b3;obtain⟨a5,bu⟩:∃j_:Int,(wrap64 (ai+1))=j_:=⟨_,rfl⟩;replace H:(if 0<=(a5) then(if(a5)<=(ac.length:Int) then((some (ac.drop ((a5):Int).toNat:List (List Int))).bind fun ax=>(if aD.length+ax.length<5864062014805 then(some (ak,ag,(aD++ax),aK)) else(none))) else(none)) else(none))=some (r1,r2,r3,r4):=by first|(rw[bu]at H;exact H)|(simp only[bu]at H⊢;exact H)
   (try rw[bu]at A2);(try rw[bu]at A3);(try rw[bu]at cO);(try rw[bu]at cP);have kd:(IntKind.i64.wrap (ai+1))=a5:=(qA _).trans bu
   obtain⟨d7,H⟩:=qd H;have lf:=eq_true d7;have lg:=decide_eq_true d7;clear d7
   obtain⟨d8,H⟩:=qd H;have lh:=eq_true d8;have ll:=decide_eq_true d8;clear d8;obtain⟨ax,b4⟩:∃y_:List (List Int),y_=(ac.drop ((a5):Int).toNat):=⟨_,rfl⟩;replace H:(if aD.length+ax.length<5864062014805 then(some (ak,ag,(aD++ax),aK)) else(none))=some (r1,r2,r3,r4):=pE b4 H
   have eL:=dm b4;clear b4
   obtain⟨eM,H⟩:=qd H;have gr:=dm eM;clear eM;obtain⟨g8,b5⟩:∃y_:List (List Int),y_=(aD++ax):=⟨_,rfl⟩;replace H:(some (ak,ag,g8,aK))=some (r1,r2,r3,r4):=pE b5 H
   have gt:=dm b5;clear b5;simp only[Option.some.injEq,Prod.mk.injEq]at H;obtain⟨rfl,rfl,rfl,rfl⟩:=H
   go_enter Try.func71,Try.ntmps71;try go_wp2_with (first|((with_reducible refine nP 2 rfl ?_);refine om 2 #[.int .i64 0,.slice none 0 0] 31 ?_;intro ab hg mV nu hb;replace HB:=dm (oL (qg HB.out) hb);have aa:=dm (nu);have bG:=dm (sV:w.heap.size<=ab);have bH:=dm (Nat.le_trans br.out (sV:w.heap.size<=ab):w0.heap.size<=ab);replace HK:=oV HK hb;have aW:=dm (Az:g≠ab);have au:=dm (Au:ab≠g);replace am:=dm (nz.below (oW) hb);clear hb nu hg)|((with_reducible refine oh 73 rfl ?_);refine og 11 Try.func73 #[.pointer (some ⟨g,0,none⟩)] ?_;(with_reducible refine(pK.calls k g ao bf ak ag aC w0 _ ?ng ?ni A2.out).mono ?_);(case ng=>exact oW);(case ni=>exact qg HB.out);rintro e mW ⟨cj,rfl,aG,hi,hb,hk⟩;refine⟨_,rfl,?_⟩;replace aa:=oI aa au hk;have af:=dm (oF (xJ (M:=fun k_=>(w.heap.size<=k_)) aG (o7 (w:=w) (g:=g) (row:=none) (nU HK.out)) (fun k_ h_=>h_)) (o7 (w:=w) (g:=g) (row:=none) (nU HK.out)));replace HK:=pR HK hk;replace HB:=dm (hb);replace am:=dm (hi);(try clear hb hk hi aG))|((with_reducible refine nP 4 rfl ?_);refine om 4 #[.int .i64 0,.slice none 0 0] 31 ?_;intro ae hg gR nu hb;have n0:=ou af hb;have n1:=dm (nz.below (oW) hb);have n2:=nA aa hb;have n3:=oV HK hb;have n4:=dm (oL (qg HB.out) hb);have n5:=dm (nu);have n6:=dm (sV:w.heap.size<=ae);have n7:=dm (Nat.le_trans br.out (sV:w.heap.size<=ae):w0.heap.size<=ae);have n8:=dm (AA:ab≠ae);have n9:=dm (Ak:ae≠ab);have bx:=dm (Ap:g≠ae);have bz:=dm (Am:ae≠g);clear af am aa HK HB;revert n0 n1 n2 n3 n4 n5 n6 n7 n8 n9 bx bz;intro af am aa HK HB ah bI bJ az aE aT av;clear hb nu hg;have lp:=aE.out;have lr:=az.out;have ls:=av.out;have lu:=aT.out;have⟨i_,ja,jb,jc⟩:=nK (w:=gR) ah;obtain⟨aJ,aH,g9⟩:=nW af.out;subst g9)|((with_reducible refine oh 22 rfl ?_);refine og 14 Try.func22 #[.agg #[.int .i64 ak,.slice aJ ag.length aH]] ?_;(with_reducible refine(oU.calls k ak _ _ ag ac bV _ ?ng ?ni A3.out).mono ?_);(case ng=>refine(nM (e:=59) (base:=w.heap.size) (ok:=fun k_=>((w.heap.size<=k_)/\True)) (n:=ag.length) (c:=aH) ?_).2.2;exact(G_));(case ni=>exact(nM af.out).2.1);rintro e mX ⟨ck,rfl,aG,hb⟩;refine⟨_,rfl,?_⟩;have aj:=dm (xX (qx (ok':=fun k_=>(w.heap.size<=k_)/\some k_≠(.slice aJ ag.length aH:Value).ownBlock/\k_≠ab/\k_≠ae/\k_≠g) (Kd.S_N (yw aG)) (fun k_ hk_=>⟨(Nat.le_trans (o7 (w:=w) (g:=g) (row:=none) (nU HK.out)) hk_.2.1),(Kd.fresh' (oN (G_)) k_ hk_.2.1),(rG (g:=ab) (o:=.cells #[.int .i64 0,.slice none 0 0] 31 (0,0)) (wN) k_ hk_.2.1),(rG (g:=ae) (o:=.cells #[.int .i64 ak,.slice aJ ag.length aH] 31 (0,0)) (wO) k_ hk_.2.1),(nz.fresh (oW) k_ hk_.2.1)⟩)) (o7 (w:=w) (g:=g) (row:=none) (nU HK.out)));replace af:=dm (uf (G_) hb);replace aa:=dm (rO (g:=ab) (o:=.cells #[.int .i64 0,.slice none 0 0] 31 (0,0)) (wN) hb);replace ah:=dm (rO (g:=ae) (o:=.cells #[.int .i64 ak,.slice aJ ag.length aH] 31 (0,0)) (wO) hb);replace HK:=oV HK hb;replace HB:=dm (oL (qg HB.out) hb);replace am:=dm (nz.below (show nz w0 ((gR.setCell ⟨ae,0,none⟩ (.int .i64 ak)).setCell ⟨ae,1,none⟩ (.slice aJ ag.length aH)) g ao aC from oW) hb);(try clear hb aG);obtain⟨bv,bm,g_⟩:=yZ aj.out;subst g_)|((with_reducible refine oh 104 rfl ?_);refine og 26 Try.func104 #[.pointer (some ⟨g,0,none⟩),.int .i64 (ac.length:Int)] ?_;(with_reducible refine(oP.calls k g ao aC (ac.length:Int) ai a3 w0 _ ?ng ?ni cO.out).mono ?_);(case ng=>exact oW);(case ni=>exact qg HB.out);rintro e mY ⟨rfl,hi,hb,hk⟩;refine⟨_,rfl,?_⟩;replace aa:=oI aa au hk;replace af:=dm (nL (qi (nz.apart (show nz w0 _ g ao aC from oW) (nH af.out) (pF)) hk (fun _ h=>h.2)) (fun _ h=>h.1));replace ah:=oI ah av hk;replace aj:=dm (qx (xY (qx (ok:=fun k_=>(((w.heap.size<=k_))/\(some k_≠(.slice aJ ag.length aH:Value).ownBlock/\(k_≠ab/\(k_≠ae/\k_≠g))))) (uE) (fun k_ hk_=>(⟨hk_,hk_.2.2.2.2⟩:_/\k_≠g))) hk (fun _ h=>h.2)) (fun _ h=>h.1));replace HK:=pR HK hk;replace HB:=dm (hb);replace am:=dm (hi);(try clear hb hk hi))|((with_reducible refine oh 104 rfl ?_);refine og 28 Try.func104 #[.pointer (some ⟨g,0,none⟩),.int .i64 8] ?_;(with_reducible refine(oP.calls k g ao a3 8 aB aK w0 _ ?ng ?ni cP.out).mono ?_);(case ng=>exact oW);(case ni=>exact qg HB.out);rintro e ke ⟨rfl,hi,hb,hk⟩;refine⟨_,rfl,?_⟩;replace aa:=oI aa au hk;replace af:=dm (nL (qi (nz.apart (show nz w0 _ g ao a3 from oW) (nH af.out) (pF)) hk (fun _ h=>h.2)) (fun _ h=>h.1));replace ah:=oI ah av hk;replace aj:=dm (qx (xY (qx (ok:=fun k_=>(((w.heap.size<=k_))/\(some k_≠(.slice aJ ag.length aH:Value).ownBlock/\(k_≠ab/\(k_≠ae/\k_≠g))))) (uE) (fun k_ hk_=>(⟨hk_,hk_.2.2.2.2⟩:_/\k_≠g))) hk (fun _ h=>h.2)) (fun _ h=>h.1));replace HK:=pR HK hk;replace HB:=dm (hb);replace am:=dm (hi);(try clear hb hk hi)))
   replace af:=dm (nN af.out);replace aj:=dm (tZ aj.out);replace aa:=dm (nV aa.out);replace ah:=dm (nV ah.out);replace am:=dm (nz.drew am.out);replace HK:=dm (vJ HK.out);replace HB:=dm (o9 HB.out);have fy:(ai:Int)<=((ac.length:Int):Int):=nD;obtain⟨mh,eN,_,gu,_⟩:=info_parts Aa;have de:ac.length<=bm:=(qO aj.out).2.1;have fz:Kd.F (Kd.slice 3 (Kd.int .i64)) _ _ bv ac.length ac:=(Ar (base:=w.heap.size) (Kd.N_V aj.out)).2.2;have fA:=PQ (P:=Try.prog) 25 45 .i64 Try.underlying25 eN bv ac.length bm ai nD fy de;have en:=PI (m:=(ai:Int).toNat) fz (by omega);have eo:aI.length=(ai:Int).toNat:=(by rw[eJ.out,List.length_take];omega);rw[←eJ.out]at en;rw[←eo]at fA;have bh:=dm (show Kd.V (Kd.slice 3 (Kd.int .i64)) 45 _ w.heap.size _ (.slice bv aI.length bm) aI from vv (by omega) en);have lv:=dm (show aI.length<=bm from by omega);clear en fz de eN gu;have mi:=dm eo;clear eo;replace fy:=eq_true fy;have fB:((a5):Int)<=((ac.length:Int):Int):=nD;obtain⟨mj,eO,_,eP,_⟩:=info_parts Aa;have bK:ac.length<=bm:=(qO aj.out).2.1;have fC:Kd.F (Kd.slice 3 (Kd.int .i64)) _ _ bv ac.length ac:=(Ar (base:=w.heap.size) (Kd.N_V aj.out)).2.2;have hD:(0:Int)<=((a5):Int):=nD;have fD:=Dt (P:=Try.prog) 25 45 .i64 Try.underlying25 eO 1 eP bv ac.length bm (a5) hD fB;have cQ:=JL (m:=((a5):Int).toNat) (c:=bm) fC (by omega) bK;obtain⟨gS,dv⟩:∃A1,A1=(if bm=((a5):Int).toNat then bv else(bv:Option Addr).map (·.add (((a5):Int).toNat*1))):=⟨_,rfl⟩;obtain⟨gT,dw⟩:∃c1,c1=bm - ((a5):Int).toNat:=⟨_,rfl⟩;have cS:ax.length=ac.length - ((a5):Int).toNat:=(by rw[eL.out,List.length_drop]<;>omega);rw[show(ac).drop ((a5):Int).toNat=ax from eL.out.symm]at cQ;replace cQ:Kd.F (Kd.slice 3 (Kd.int .i64)) _ _ gS ax.length ax:=(by rw[dv];exact cQ);rw[←cS,←dv,←dw]at fD;have bj:=dm (show Kd.V (Kd.slice 3 (Kd.int .i64)) 45 _ w.heap.size _ (.slice gS ax.length gT) ax from vv (by rw[cS,dw];exact Nat.sub_le_sub_right bK _) cQ);have lw:=dm (show ax.length<=gT from by rw[cS,dw];exact Nat.sub_le_sub_right bK _);clear cQ fC bK eO eP dw;have ml:=dm cS;have mm:=dm dv;clear cS dv;replace fB:=eq_true fB;refine pU 11 (S:=fun w'=>True) [] trivial rD.xw rD.xu (fun hHeld HT_ HW_=>?_);generalize ke.drew=kf at af aj aa ah am HK HB bh bj hHeld⊢;refine lq 1 32 2 ?_;refine lq 2 33 6 ?_;refine lq 3 34 14 ?_;refine lq 5 36 46 ?_;refine lq 6 37 110 ?_;refine lq 7 38 238 ?_;refine lq 8 39 494 ?_;refine oD 0 31 495 (fun K hK=>?_);refine Ms (Kd.slice 3 (Kd.int .i64)) _ 45 ?hg (N':=31) ?hd (xs:=([]:List (List Int))) (inner:=[]) (ok:=(fun k_=>(w.heap.size<=k_)/\some k_≠(.slice aJ ag.length aH:Value).ownBlock/\some k_≠(.slice bv ac.length bm:Value).ownBlock/\k_≠ab/\k_≠ae/\k_≠g)) (okp:=(fun k_=>(w.heap.size<=k_)/\some k_≠(.slice aJ ag.length aH:Value).ownBlock/\some k_≠(.slice bv ac.length bm:Value).ownBlock/\k_≠ab/\k_≠ae/\k_≠g)) ?hr ?hp (fun _ hk=>hk) ((show∀k_,kf.heap.size<=k_->(fun k_=>(w.heap.size<=k_)/\some k_≠(.slice aJ ag.length aH:Value).ownBlock/\some k_≠(.slice bv ac.length bm:Value).ownBlock/\k_≠ab/\k_≠ae/\k_≠g) k_ from fun k_ hk=>⟨(Nat.le_trans (o7 (w:=w) (g:=g) (row:=none) (nU HK.out)) hk),Kd.fresh' (oN (nH af.out)) k_ hk,Kd.fresh' (GL (uE)) k_ hk,rG (g:=ab) (o:=.cells #[.int .i64 0,.slice none 0 0] 31 (0,0)) (nG aa.out) k_ hk,rG (g:=ae) (o:=.cells #[.int .i64 ak,.slice aJ ag.length aH] 31 (0,0)) (nG ah.out) k_ hk,nz.fresh (oW) k_ hk⟩) _ (Nat.le_refl _)) (Below.refl _ _) (Nat.le_refl _) (by simp) ?_;(case hd=>rfl);(case hg=>rfl);(case hr=>first|(go_simp;done)|(go_simp;rfl));(case hp=>exact(oq.none _ _))
   intro ep mZ bE hb hg_ pq;clear hg_ pq;(first|rw[←eI.out]at bE|(simp only[Int.reduceToNat]at bE;rw[←eI.out]at bE));replace af:=ou af hb;replace aj:=dm (BO (uE) (D9 bE) hb);replace bh:=dm (Fz (qX bh.out) (D9 bE) hb);replace bj:=dm (Fz (qX bj.out) (D9 bE) hb);have bA:=dm (xX bE (o7 (w:=w) (g:=g) (row:=none) (nU HK.out)));replace aa:=nA aa hb;replace ah:=nA ah hb;replace HK:=oV HK hb;replace HB:=dm (oL (qg HB.out) hb);replace am:=dm (nz.below (oW) hb);clear hb bE;refine hK.out _ _ trivial (fun hHeld=>?_);clear hK K;refine nQ 31 ?_;refine oD 4 35 511 (fun K hK=>?_);refine Ha (Kd.slice 3 (Kd.int .i64)) w.heap.size (by rfl) (.tmp 31) (.tmp 34) 25 45 (.slice none 0 0) 24 rfl Try.underlying25 Aa rfl (pF) (by omega) ep aU aI _ _ _ (fun k_=>(w.heap.size<=k_)/\some k_≠(.slice aJ ag.length aH:Value).ownBlock/\k_≠ab/\k_≠ae/\k_≠g) (fun k_=>((fun k_=>(w.heap.size<=k_)/\some k_≠(.slice aJ ag.length aH:Value).ownBlock/\k_≠ab/\k_≠ae/\k_≠g)) k_/\some k_≠(ep:Value).ownBlock) rfl rfl ?aO ?aR (fun _ hk=>hk) ?aF (Below.refl _ _) ?aS ?aL ?_;(case aR=>exact(by skip;exact Kd.V_F (wW (ok':=(fun k_=>((fun k_=>(w.heap.size<=k_)/\some k_≠(.slice aJ ag.length aH:Value).ownBlock/\k_≠ab/\k_≠ae/\k_≠g)) k_/\some k_≠(ep:Value).ownBlock)) (bh.out) (fun k_ hk=>⟨⟨hk.1.1,⟨hk.1.2.1,⟨hk.1.2.2.1,⟨hk.1.2.2.2.1,hk.1.2.2.2.2⟩⟩⟩⟩,hk.2⟩))));(case aF=>exact(fun k_ hk=>⟨(Nat.le_trans (o7 (w:=w) (g:=g) (row:=none) (nU HK.out)) hk),Kd.fresh' (oN (nH af.out)) k_ hk,rG (g:=ab) (o:=.cells #[.int .i64 0,.slice none 0 0] 31 (0,0)) (nG aa.out) k_ hk,rG (g:=ae) (o:=.cells #[.int .i64 ak,.slice aJ ag.length aH] 31 (0,0)) (nG ah.out) k_ hk,nz.fresh (oW) k_ hk⟩));(case aO=>exact(by(with_reducible repeat(first|apply uB|apply uC|apply tZ));exact qx bA.out (fun _ hk=>⟨hk.1,⟨hk.2.1,⟨hk.2.2.2.1,⟨hk.2.2.2.2.1,hk.2.2.2.2.2⟩⟩⟩⟩)));(case aS=>exact(o7 (w:=w) (g:=g) (row:=none) (nU HK.out)));(case aL=>have:=gp.out;omega);intro eq m0 ho hb hg hat;rw[←gq.out]at ho;have n0:=dm (nz.grown (oW) hg (nz.zb am.out bA.out (pF)));have n1:=o_ aa hg (xR bA.out aa.out (pF));have n2:=dm (sU (nH af.out) (xG (by(with_reducible repeat(first|apply uB|apply uC|apply tZ));exact bA.out)) (pF) hg);have n3:=o_ ah hg (xR bA.out ah.out (pF));have n4:=dm (FH (ok:=(fun k_=>(w.heap.size<=k_)/\some k_≠(.slice aJ ag.length aH:Value).ownBlock/\k_≠ab/\k_≠ae/\k_≠g)) (uE) hg hat);have n5:=dm (zX (ok:=(fun k_=>(w.heap.size<=k_)/\some k_≠(.slice aJ ag.length aH:Value).ownBlock/\k_≠ab/\k_≠ae/\k_≠g)) (qX bh.out) hg hat);have n6:=dm (zX (ok:=(fun k_=>(w.heap.size<=k_)/\some k_≠(.slice aJ ag.length aH:Value).ownBlock/\k_≠ab/\k_≠ae/\k_≠g)) (qX bj.out) hg hat);have n7:=dm (yU (qg HB.out) HL.out hb);have n8:=dm (ow.trans (nU HK.out) (ow.xe hg g) (BQ bA.out));have n9:=dm (ho);clear am aa af ah aj bh bj HB HK bA;revert n0 n1 n2 n3 n4 n5 n6 n7 n8 n9;intro am aa af ah aj bh bj HB HK bB;clear ho hb hg hat;refine hK.out _ _ trivial (fun hHeld=>?_);clear hK K;refine nQ 35 ?_;refine oD 9 40 1023 (fun K hK=>?_)
   refine Ha (Kd.slice 3 (Kd.int .i64)) w.heap.size (by rfl) (.tmp 35) (.tmp 39) 25 45 (.slice none 0 0) 24 rfl Try.underlying25 Aa rfl (pF) (by omega) eq aD ax _ _ _ (fun k_=>(w.heap.size<=k_)/\some k_≠(.slice aJ ag.length aH:Value).ownBlock/\k_≠ab/\k_≠ae/\k_≠g) (fun k_=>((fun k_=>(w.heap.size<=k_)/\some k_≠(.slice aJ ag.length aH:Value).ownBlock/\k_≠ab/\k_≠ae/\k_≠g)) k_/\some k_≠(eq:Value).ownBlock) rfl rfl ?aO ?aR (fun _ hk=>hk) ?aF (Below.refl _ _) ?aS ?aL ?_;(case aR=>exact(by skip;exact Kd.V_F (wW (ok':=(fun k_=>((fun k_=>(w.heap.size<=k_)/\some k_≠(.slice aJ ag.length aH:Value).ownBlock/\k_≠ab/\k_≠ae/\k_≠g)) k_/\some k_≠(eq:Value).ownBlock)) (bj.out) (fun k_ hk=>⟨⟨hk.1.1,⟨hk.1.2.1,⟨hk.1.2.2.1,⟨hk.1.2.2.2.1,hk.1.2.2.2.2⟩⟩⟩⟩,hk.2⟩))));(case aF=>exact(fun k_ hk=>⟨(Nat.le_trans (o7 (w:=w) (g:=g) (row:=none) (nU HK.out)) hk),Kd.fresh' (oN (nH af.out)) k_ hk,rG (g:=ab) (o:=.cells #[.int .i64 0,.slice none 0 0] 31 (0,0)) (nG aa.out) k_ hk,rG (g:=ae) (o:=.cells #[.int .i64 ak,.slice aJ ag.length aH] 31 (0,0)) (nG ah.out) k_ hk,nz.fresh (oW) k_ hk⟩));(case aO=>exact(by(with_reducible repeat(first|apply uB|apply uC|apply tZ));exact bB.out));(case aS=>exact(o7 (w:=w) (g:=g) (row:=none) (nU HK.out)));(case aL=>have:=gr.out;omega);intro mo gU ho hb hg hat;rw[←gt.out]at ho;have n0:=dm (nz.grown (oW) hg (nz.zb am.out bB.out (pF)));have n1:=o_ aa hg (xR bB.out aa.out (pF));have n2:=dm (sU (nH af.out) (xG (by(with_reducible repeat(first|apply uB|apply uC|apply tZ));exact bB.out)) (pF) hg);have n3:=o_ ah hg (xR bB.out ah.out (pF));have n4:=dm (FH (ok:=(fun k_=>(w.heap.size<=k_)/\some k_≠(.slice aJ ag.length aH:Value).ownBlock/\k_≠ab/\k_≠ae/\k_≠g)) (uE) hg hat);have n5:=dm (zX (ok:=(fun k_=>(w.heap.size<=k_)/\some k_≠(.slice aJ ag.length aH:Value).ownBlock/\k_≠ab/\k_≠ae/\k_≠g)) (qX bh.out) hg hat);have n6:=dm (zX (ok:=(fun k_=>(w.heap.size<=k_)/\some k_≠(.slice aJ ag.length aH:Value).ownBlock/\k_≠ab/\k_≠ae/\k_≠g)) (qX bj.out) hg hat);have n7:=dm (yU (qg HB.out) HL.out hb);have n8:=dm (ow.trans (nU HK.out) (ow.xe hg g) (BQ bB.out));have n9:=dm (ho);clear am aa af ah aj bh bj HB HK bB;revert n0 n1 n2 n3 n4 n5 n6 n7 n8 n9;intro am aa af ah aj bh bj HB HK gv;clear ho hb hg hat;refine hK.out _ _ trivial (fun hHeld=>?_);clear hK K;refine nQ 40 ?_;refine lq 10 5 2047 ?_;refine pM (pQ HT_.out (yO)) ?_;have⟨jd,je,jf,jg⟩:=nK (w:=gU) ah;have lx:=au.out;have ly:=aW.out;have⟨jh,ji,jj,jk⟩:=nK (w:=gU) aa;try go_wp2
   refine bodyPost_ret (wS rfl _ _ ab 31 #[.int .i64 ak,.slice aJ ag.length aH] (0,0) _ rfl (Aq) Try.underlying31 rfl (yO)) rfl ?_;exact⟨_,_,by first|rfl|(simp[qa,qb]<;>rfl)|(simp only[←bu];first|rfl|(simp[qa,qb]<;>rfl))|(simp[*,qa,qb]<;>rfl),by(with_reducible repeat(first|apply nY|apply nZ|apply nN));exact nL (nR (p:=⟨ab,1,none⟩) (nR (p:=⟨ab,0,none⟩) (oK af.out aa.out (pF)) (fun _ hk=>hk.2) (.int .i64 ak)) (fun _ hk=>hk.2) (.slice aJ ag.length aH)) (fun _ hk=>hk.1.1),by(with_reducible repeat(first|apply uB|apply uC|apply tZ));exact qx (vD (p:=⟨ab,1,none⟩) (vD (p:=⟨ab,0,none⟩) (qx gv.out (fun k_ hk=>(⟨hk,hk.2.2.1⟩:_/\k_≠ab))) (fun _ hk=>hk.2) (.int .i64 ak)) (fun _ hk=>hk.2) (.slice aJ ag.length aH)) (fun _ hk=>⟨hk.1.1,hk.1.2.1⟩),oW,qg HB.out,nU HK.out⟩
  ·rw[if_neg cE]at H;have eG:=beq_eq_false_iff_ne.mpr cE;have eH:=bne_iff_ne.mpr cE
   by_cases cF:aB=1
   ·rw[if_pos cF]at H;have eQ:=beq_iff_eq.mpr cF;have eR:=bne_eq_false_iff_eq.mpr cF;clear cF
    obtain⟨lz,H⟩:=oz H
    obtain⟨lA,H⟩:=oz H
    obtain⟨d9,H⟩:=qd H;have lB:=eq_true d9;have lC:=decide_eq_true d9;clear d9;obtain⟨bn,b6⟩:∃y_:List Int,y_=((nI ac ai).drop 1):=⟨_,rfl⟩;replace H:(some (ak,ag,(ac.set (ai:Int).toNat bn),aK))=some (r1,r2,r3,r4):=pE b6 H
    have eU:=dm b6;clear b6;obtain⟨fE,b7⟩:∃y_:List (List Int),y_=(ac.set (ai:Int).toNat bn):=⟨_,rfl⟩;replace H:(some (ak,ag,fE,aK))=some (r1,r2,r3,r4):=pE b7 H
    have gw:=dm b7;clear b7;simp only[Option.some.injEq,Prod.mk.injEq]at H;obtain⟨rfl,rfl,rfl,rfl⟩:=H
    go_enter Try.func71,Try.ntmps71
    go_wp2_with (first|((with_reducible refine nP 2 rfl ?_);refine om 2 #[.int .i64 0,.slice none 0 0] 31 ?_;intro ab hg m1 nu hb;replace HB:=dm (oL (qg HB.out) hb);have aa:=dm (nu);have bG:=dm (sV:w.heap.size<=ab);have bH:=dm (Nat.le_trans br.out (sV:w.heap.size<=ab):w0.heap.size<=ab);replace HK:=oV HK hb;have aW:=dm (Az:g≠ab);have au:=dm (Au:ab≠g);replace am:=dm (nz.below (oW) hb);clear hb nu hg)|((with_reducible refine oh 73 rfl ?_);refine og 11 Try.func73 #[.pointer (some ⟨g,0,none⟩)] ?_;(with_reducible refine(pK.calls k g ao bf ak ag aC w0 _ ?ng ?ni A2.out).mono ?_);(case ng=>exact oW);(case ni=>exact qg HB.out);rintro e m2 ⟨cj,rfl,aG,hi,hb,hk⟩;refine⟨_,rfl,?_⟩;replace aa:=oI aa au hk;have af:=dm (oF (xJ (M:=fun k_=>(w.heap.size<=k_)) aG (o7 (w:=w) (g:=g) (row:=none) (nU HK.out)) (fun k_ h_=>h_)) (o7 (w:=w) (g:=g) (row:=none) (nU HK.out)));replace HK:=pR HK hk;replace HB:=dm (hb);replace am:=dm (hi);(try clear hb hk hi aG))|((with_reducible refine nP 4 rfl ?_);refine om 4 #[.int .i64 0,.slice none 0 0] 31 ?_;intro ae hg gV nu hb;have n0:=ou af hb;have n1:=dm (nz.below (oW) hb);have n2:=nA aa hb;have n3:=oV HK hb;have n4:=dm (oL (qg HB.out) hb);have n5:=dm (nu);have n6:=dm (sV:w.heap.size<=ae);have n7:=dm (Nat.le_trans br.out (sV:w.heap.size<=ae):w0.heap.size<=ae);have n8:=dm (AA:ab≠ae);have n9:=dm (Ak:ae≠ab);have bx:=dm (Ap:g≠ae);have bz:=dm (Am:ae≠g);clear af am aa HK HB;revert n0 n1 n2 n3 n4 n5 n6 n7 n8 n9 bx bz;intro af am aa HK HB ah bI bJ az aE aT av;clear hb nu hg;have lD:=aE.out;have lE:=az.out;have lF:=av.out;have lG:=aT.out;have⟨jl,jm,jn,jo⟩:=nK (w:=gV) ah;obtain⟨a7,a4,hJ⟩:=nW af.out;subst hJ)|((with_reducible refine oh 22 rfl ?_);refine og 14 Try.func22 #[.agg #[.int .i64 ak,.slice a7 ag.length a4]] ?_;(with_reducible refine(oU.calls k ak _ _ ag ac bV _ ?ng ?ni A3.out).mono ?_);(case ng=>refine(nM (e:=59) (base:=w.heap.size) (ok:=fun k_=>((w.heap.size<=k_)/\True)) (n:=ag.length) (c:=a4) ?_).2.2;exact(GM));(case ni=>exact(nM af.out).2.1);rintro e m3 ⟨ck,rfl,aG,hb⟩;refine⟨_,rfl,?_⟩;have aj:=dm (xX (qx (ok':=fun k_=>(w.heap.size<=k_)/\some k_≠(.slice a7 ag.length a4:Value).ownBlock/\k_≠ab/\k_≠ae/\k_≠g) (Kd.S_N (yw aG)) (fun k_ hk_=>⟨(Nat.le_trans (o7 (w:=w) (g:=g) (row:=none) (nU HK.out)) hk_.2.1),(Kd.fresh' (oN (GM)) k_ hk_.2.1),(rG (g:=ab) (o:=.cells #[.int .i64 0,.slice none 0 0] 31 (0,0)) (wN) k_ hk_.2.1),(rG (g:=ae) (o:=.cells #[.int .i64 ak,.slice a7 ag.length a4] 31 (0,0)) (wO) k_ hk_.2.1),(nz.fresh (oW) k_ hk_.2.1)⟩)) (o7 (w:=w) (g:=g) (row:=none) (nU HK.out)));replace af:=dm (uf (GM) hb);replace aa:=dm (rO (g:=ab) (o:=.cells #[.int .i64 0,.slice none 0 0] 31 (0,0)) (wN) hb);replace ah:=dm (rO (g:=ae) (o:=.cells #[.int .i64 ak,.slice a7 ag.length a4] 31 (0,0)) (wO) hb);replace HK:=oV HK hb;replace HB:=dm (oL (qg HB.out) hb);replace am:=dm (nz.below (show nz w0 ((gV.setCell ⟨ae,0,none⟩ (.int .i64 ak)).setCell ⟨ae,1,none⟩ (.slice a7 ag.length a4)) g ao aC from oW) hb);(try clear hb aG);obtain⟨mq,bW,hU⟩:=yZ aj.out;subst hU)|((with_reducible refine oh 104 rfl ?_);refine og 26 Try.func104 #[.pointer (some ⟨g,0,none⟩),.int .i64 (ac.length:Int)] ?_;(with_reducible refine(oP.calls k g ao aC (ac.length:Int) ai a3 w0 _ ?ng ?ni cO.out).mono ?_);(case ng=>exact oW);(case ni=>exact qg HB.out);rintro e m4 ⟨rfl,hi,hb,hk⟩;refine⟨_,rfl,?_⟩;replace aa:=oI aa au hk;replace af:=dm (nL (qi (nz.apart (show nz w0 _ g ao aC from oW) (nH af.out) (pF)) hk (fun _ h=>h.2)) (fun _ h=>h.1));replace ah:=oI ah av hk;replace aj:=dm (qx (xY (qx (ok:=fun k_=>(((w.heap.size<=k_))/\(some k_≠(.slice a7 ag.length a4:Value).ownBlock/\(k_≠ab/\(k_≠ae/\k_≠g))))) (uE) (fun k_ hk_=>(⟨hk_,hk_.2.2.2.2⟩:_/\k_≠g))) hk (fun _ h=>h.2)) (fun _ h=>h.1));replace HK:=pR HK hk;replace HB:=dm (hb);replace am:=dm (hi);(try clear hb hk hi))|((with_reducible refine oh 104 rfl ?_);refine og 28 Try.func104 #[.pointer (some ⟨g,0,none⟩),.int .i64 8] ?_;(with_reducible refine(oP.calls k g ao a3 8 aB aK w0 _ ?ng ?ni cP.out).mono ?_);(case ng=>exact oW);(case ni=>exact qg HB.out);rintro e fF ⟨rfl,hi,hb,hk⟩;refine⟨_,rfl,?_⟩;replace aa:=oI aa au hk;replace af:=dm (nL (qi (nz.apart (show nz w0 _ g ao a3 from oW) (nH af.out) (pF)) hk (fun _ h=>h.2)) (fun _ h=>h.1));replace ah:=oI ah av hk;replace aj:=dm (qx (xY (qx (ok:=fun k_=>(((w.heap.size<=k_))/\(some k_≠(.slice a7 ag.length a4:Value).ownBlock/\(k_≠ab/\(k_≠ae/\k_≠g))))) (uE) (fun k_ hk_=>(⟨hk_,hk_.2.2.2.2⟩:_/\k_≠g))) hk (fun _ h=>h.2)) (fun _ h=>h.1));replace HK:=pR HK hk;replace HB:=dm (hb);replace am:=dm (hi);(try clear hb hk hi);have dx:0<=(ai:Int):=nD;have dy:ai<(ac.length:Int):=nD;obtain⟨lH,b8,bF,hV,df,dg,dh⟩:=rH (qO aj.out).2.2 ai dx dy;cases hV;obtain⟨lI,fG,fH,d_⟩:=vX aj.out [] ai dx (by first|exact dy|exact of_decide_eq_true (uh)|(have e_:=(qO aj.out).1;omega));obtain⟨jp,jq,rfl,cn,co⟩:=uH fH;have bL:=d_ 0 _ rfl;rw[Nat.add_zero,show((Kd.slice 3 (Kd.int .i64))).sz=1 from rfl,Nat.mul_one]at bL;replace bL:=Option.some.inj (bL.symm.trans df);injection bL with qJ sG qK;rw[qJ]at co;rw[qK]at cn;have bM:=dm (show Kd.V (Kd.int .i64) 3 _ w.heap.size _ _ (nI ac ai) from vv cn co);clear qJ sG qK co cn;clear d_ fG;have jr:=dm dh;have fk:=dm dg;clear dh dg;replace dx:=eq_true dx;replace dy:=eq_true dy;have fI:(1:Int)<=(((nI ac ai).length:Int):Int):=nD;obtain⟨mr,eV,_,eW,_⟩:=info_parts info3;have bN:(nI ac ai).length<=bF:=fk.out;have fJ:Kd.F (Kd.int .i64) _ _ b8 (nI ac ai).length (nI ac ai):=(Ar (base:=w.heap.size) bM.out).2.2;have fK:=Dt (P:=Try.prog) 45 3 .i64 Try.underlying45 eV 1 eW b8 (nI ac ai).length bF 1 (by omega) fI;have cT:=JL (m:=(1:Int).toNat) (c:=bF) fJ (by omega) bN;obtain⟨eX,dz⟩:∃A1,A1=(if bF=(1:Int).toNat then b8 else(b8:Option Addr).map (·.add ((1:Int).toNat*1))):=⟨_,rfl⟩;obtain⟨eY,dA⟩:∃c1,c1=bF - (1:Int).toNat:=⟨_,rfl⟩;have cU:bn.length=(nI ac ai).length - (1:Int).toNat:=(by rw[eU.out,List.length_drop]<;>omega);rw[show(nI ac ai).drop (1:Int).toNat=bn from eU.out.symm]at cT;replace cT:Kd.F (Kd.int .i64) _ _ eX bn.length bn:=(by rw[dz];exact cT);rw[←cU,←dz,←dA]at fK;have b9:=dm (show Kd.V (Kd.int .i64) 3 _ w.heap.size _ (.slice eX bn.length eY) bn from vv (by rw[cU,dA];exact Nat.sub_le_sub_right bN _) cT);have lJ:=dm (show bn.length<=eY from by rw[cU,dA];exact Nat.sub_le_sub_right bN _);clear cT fJ bN eV eW dA;have ms:=dm cU;have mt:=dm dz;clear cU dz;replace fI:=eq_true fI;have fL:0<=(ai:Int):=nD;have fM:(ai:Int)<((ac.length:Int):Int):=nD;obtain⟨bp,mu,fN,fO,hX,mv,fP⟩:=Jt aj.out (by omega);(first|cases fN|(injection fN with ea_ en_ ec_;(first|subst ea_|(injection ea_ with ea_;subst ea_));subst ec_;clear en_));have hY:=dm fO;have mw:=dm fP;clear fO hX fP;(first|simp only[add_plain]at df|skip);obtain⟨my,gx,fQ,eZ,e2⟩:=Cg aj.out [] (ai:Int) fL fM;obtain⟨kg,ki,rfl,kj,km⟩:=uH fQ;have fR:=eZ 0 _ rfl;have fS:=e2 0;(try simp only[show((Kd.slice 3 (Kd.int .i64))).sz=1 from rfl,Nat.mul_one,Nat.add_zero]at fR);(try simp only[show((Kd.slice 3 (Kd.int .i64))).sz=1 from rfl,Nat.mul_one,Nat.add_zero]at fS);clear gx eZ e2;(try clear fQ);replace fL:=eq_true fL;replace fM:=eq_true fM;have fT:=dm (show Kd.N (Kd.slice 3 (Kd.int .i64)) 45 fF w.heap.size (fun k_=>(w.heap.size<=k_)/\some k_≠(.slice a7 ag.length a4:Value).ownBlock/\k_≠ab/\k_≠ae/\k_≠g) (.slice (some ⟨bp,0,none⟩) ac.length bW) ac from(uE));obtain⟨mz,e3,fU,dB,e4⟩:=Cg fT.out [] (ai:Int) nD (by have h_:(ai:Int)<((ac.length:Int):Int):=nD;first|exact h_|(have e_:=(qO aj.out).1;omega)|simpa using h_);obtain⟨kn,ko,rfl,kp,kr⟩:=uH fU;have cW:=JP fT.out (ai:Int) nD (by have h_:(ai:Int)<((ac.length:Int):Int):=nD;first|exact h_|(have e_:=(qO aj.out).1;omega)|simpa using h_) (seg:=[.slice eX bn.length eY]) (j:=0) e3 dB (show 1<=1 from by decide) (x':=bn) (CZ (Oh (wW (ok':=(fun k_=>((fun k_=>(w.heap.size<=k_)/\some k_≠(.slice a7 ag.length a4:Value).ownBlock/\k_≠ab/\k_≠ae/\k_≠g)) k_/\k_≠bp)) (b9.out) (fun k_ hk=>⟨⟨hk.1.1,⟨hk.1.2.1,⟨hk.1.2.2.1,⟨hk.1.2.2.2.1,hk.1.2.2.2.2⟩⟩⟩⟩,fun e_=>(hk.2) (by rw[e_];rfl)⟩))).2.1 (Kd.V_F (wW (ok':=(fun k_=>((fun k_=>(w.heap.size<=k_)/\some k_≠(.slice a7 ag.length a4:Value).ownBlock/\k_≠ab/\k_≠ae/\k_≠g)) k_/\k_≠bp)) (b9.out) (fun k_ hk=>⟨⟨hk.1.1,⟨hk.1.2.1,⟨hk.1.2.2.1,⟨hk.1.2.2.2.1,hk.1.2.2.2.2⟩⟩⟩⟩,fun e_=>(hk.2) (by rw[e_];rfl)⟩)))) (fun _ hk=>hk);have fV:=dB 0 _ rfl;(try simp only[show((Kd.slice 3 (Kd.int .i64))).sz=1 from rfl,Nat.mul_one,Nat.add_zero]at fV);have fW:=e4 0;(try simp only[show((Kd.slice 3 (Kd.int .i64))).sz=1 from rfl,Nat.mul_one,Nat.add_zero]at fW);clear e3 dB e4;(try clear fU);(try simp only[show((Kd.slice 3 (Kd.int .i64))).sz=1 from rfl,Nat.mul_one,Nat.add_zero]at cW);(try simp only[show((Kd.slice 3 (Kd.int .i64))).sz=1 from rfl,Nat.mul_one,Nat.add_zero]at cW))|((with_reducible refine zP (t:=45) (p:=50) rfl ?_);refine zN (t:=45) (p:=50) (v:= ?vo_w71) (w1:=(fF.setCell ⟨bp,(ai:Int).toNat,none⟩ (.slice eX bn.length eY))) ?hg ?ho ?hn ?hr ?_;(case ho=>rfl);(case hg=>rfl);(case hn=>rfl);(case hr=>first|(go_simp;done)|(go_simp;rfl));intro ea hw;have hg:fF.grownBy ea (some bp):=(by rw[hw];exact cW.2);have hp_:Kd.N (Kd.slice 3 (Kd.int .i64)) 45 ea w.heap.size (fun k_=>(w.heap.size<=k_)/\some k_≠(.slice a7 ag.length a4:Value).ownBlock/\k_≠ab/\k_≠ae/\k_≠g) (.slice (some ⟨bp,0,none⟩) ac.length bW) fE:=(by rw[hw,gw.out];exact cW.1);clear cW;replace am:=dm (nz.grown (oW) hg (nz.zb am.out aj.out (pF)));replace aa:=o_ aa hg (xR aj.out aa.out (pF));replace af:=dm (sU (v:=(.slice (some ⟨bp,0,none⟩) ac.length bW)) (nH af.out) (xG aj.out) (pF) hg);replace ah:=o_ ah hg (xR aj.out ah.out (pF));replace bM:=dm (zX (v:=(.slice (some ⟨bp,0,none⟩) ac.length bW)) (v1:=(.slice (some ⟨bp,0,none⟩) ac.length bW)) (ok:=(fun k_=>(w.heap.size<=k_)/\some k_≠(.slice a7 ag.length a4:Value).ownBlock/\k_≠ab/\k_≠ae/\k_≠g)) (qX bM.out) hg (.inl rfl));replace b9:=dm (zX (v:=(.slice (some ⟨bp,0,none⟩) ac.length bW)) (v1:=(.slice (some ⟨bp,0,none⟩) ac.length bW)) (ok:=(fun k_=>(w.heap.size<=k_)/\some k_≠(.slice a7 ag.length a4:Value).ownBlock/\k_≠ab/\k_≠ae/\k_≠g)) (qX b9.out) hg (.inl rfl));replace HB:=dm ((by rw[hw];exact rX (HB.out) (Nat.le_trans HL.out hY.out):Below w0.heap.size w0 ea));replace HK:=dm (ow.trans (nU HK.out) (ow.xe hg g) (BQ aj.out));replace aj:=dm (hp_);clear hg hw hp_;have⟨js,jt,ju,jv⟩:=nK (w:=ea) ah;have lK:=au.out;have lL:=aW.out;have⟨jw,jx,jy,jz⟩:=nK (w:=ea) aa))
    refine bodyPost_ret (wS rfl _ _ ab 31 #[.int .i64 ak,.slice a7 ag.length a4] (0,0) _ rfl (Aq) Try.underlying31 rfl (yO)) rfl ?_;exact⟨_,_,qD,by(with_reducible repeat(first|apply nY|apply nZ|apply nN));exact nL (nR (p:=⟨ab,1,none⟩) (nR (p:=⟨ab,0,none⟩) (oK af.out aa.out (pF)) (fun _ hk=>hk.2) (.int .i64 ak)) (fun _ hk=>hk.2) (.slice a7 ag.length a4)) (fun _ hk=>hk.1.1),by(with_reducible repeat(first|apply uB|apply uC|apply tZ));exact qx (vD (p:=⟨ab,1,none⟩) (vD (p:=⟨ab,0,none⟩) (qx aj.out (fun k_ hk=>(⟨hk,hk.2.2.1⟩:_/\k_≠ab))) (fun _ hk=>hk.2) (.int .i64 ak)) (fun _ hk=>hk.2) (.slice a7 ag.length a4)) (fun _ hk=>⟨hk.1.1,hk.1.2.1⟩),oW,qg HB.out,nU HK.out⟩
   ·rw[if_neg cF]at H;have eQ:=beq_eq_false_iff_ne.mpr cF;have eR:=bne_iff_ne.mpr cF
    by_cases cG:aB=2
    ·rw[if_pos cG]at H;have e5:=beq_iff_eq.mpr cG;have e6:=bne_eq_false_iff_eq.mpr cG;clear cG;obtain⟨dC,b_⟩:∃y_:List Int,y_=(([0,1]:List Int)):=⟨_,rfl⟩;replace H:(if ac.length<5864062014805 then(some (ak,ag,(ac++[dC]),aK)) else(none))=some (r1,r2,r3,r4):=pE b_ H
     have e7:=dm b_;clear b_
     obtain⟨e8,H⟩:=qd H;have gy:=dm e8;clear e8;obtain⟨hZ,ca⟩:∃y_:List (List Int),y_=(ac++[dC]):=⟨_,rfl⟩;replace H:(some (ak,ag,hZ,aK))=some (r1,r2,r3,r4):=pE ca H
     have gz:=dm ca;clear ca;simp only[Option.some.injEq,Prod.mk.injEq]at H;obtain⟨rfl,rfl,rfl,rfl⟩:=H
     go_enter Try.func71,Try.ntmps71
     go_wp2_with (first|((with_reducible refine nP 2 rfl ?_);refine om 2 #[.int .i64 0,.slice none 0 0] 31 ?_;intro ab hg m5 nu hb;replace HB:=dm (oL (qg HB.out) hb);have aa:=dm (nu);have bG:=dm (sV:w.heap.size<=ab);have bH:=dm (Nat.le_trans br.out (sV:w.heap.size<=ab):w0.heap.size<=ab);replace HK:=oV HK hb;have aW:=dm (Az:g≠ab);have au:=dm (Au:ab≠g);replace am:=dm (nz.below (oW) hb);clear hb nu hg)|((with_reducible refine oh 73 rfl ?_);refine og 11 Try.func73 #[.pointer (some ⟨g,0,none⟩)] ?_;(with_reducible refine(pK.calls k g ao bf ak ag aC w0 _ ?ng ?ni A2.out).mono ?_);(case ng=>exact oW);(case ni=>exact qg HB.out);rintro e m6 ⟨cj,rfl,aG,hi,hb,hk⟩;refine⟨_,rfl,?_⟩;replace aa:=oI aa au hk;have af:=dm (oF (xJ (M:=fun k_=>(w.heap.size<=k_)) aG (o7 (w:=w) (g:=g) (row:=none) (nU HK.out)) (fun k_ h_=>h_)) (o7 (w:=w) (g:=g) (row:=none) (nU HK.out)));replace HK:=pR HK hk;replace HB:=dm (hb);replace am:=dm (hi);(try clear hb hk hi aG))|((with_reducible refine nP 4 rfl ?_);refine om 4 #[.int .i64 0,.slice none 0 0] 31 ?_;intro ae hg gW nu hb;have n0:=ou af hb;have n1:=dm (nz.below (oW) hb);have n2:=nA aa hb;have n3:=oV HK hb;have n4:=dm (oL (qg HB.out) hb);have n5:=dm (nu);have n6:=dm (sV:w.heap.size<=ae);have n7:=dm (Nat.le_trans br.out (sV:w.heap.size<=ae):w0.heap.size<=ae);have n8:=dm (AA:ab≠ae);have n9:=dm (Ak:ae≠ab);have bx:=dm (Ap:g≠ae);have bz:=dm (Am:ae≠g);clear af am aa HK HB;revert n0 n1 n2 n3 n4 n5 n6 n7 n8 n9 bx bz;intro af am aa HK HB ah bI bJ az aE aT av;clear hb nu hg;have lM:=aE.out;have lN:=az.out;have lO:=av.out;have lP:=aT.out;have⟨jA,jB,jC,jD⟩:=nK (w:=gW) ah;obtain⟨a_,a8,ia⟩:=nW af.out;subst ia)|((with_reducible refine oh 22 rfl ?_);refine og 14 Try.func22 #[.agg #[.int .i64 ak,.slice a_ ag.length a8]] ?_;(with_reducible refine(oU.calls k ak _ _ ag ac bV _ ?ng ?ni A3.out).mono ?_);(case ng=>refine(nM (e:=59) (base:=w.heap.size) (ok:=fun k_=>((w.heap.size<=k_)/\True)) (n:=ag.length) (c:=a8) ?_).2.2;exact(GI));(case ni=>exact(nM af.out).2.1);rintro e m7 ⟨ck,rfl,aG,hb⟩;refine⟨_,rfl,?_⟩;have aj:=dm (xX (qx (ok':=fun k_=>(w.heap.size<=k_)/\some k_≠(.slice a_ ag.length a8:Value).ownBlock/\k_≠ab/\k_≠ae/\k_≠g) (Kd.S_N (yw aG)) (fun k_ hk_=>⟨(Nat.le_trans (o7 (w:=w) (g:=g) (row:=none) (nU HK.out)) hk_.2.1),(Kd.fresh' (oN (GI)) k_ hk_.2.1),(rG (g:=ab) (o:=.cells #[.int .i64 0,.slice none 0 0] 31 (0,0)) (wN) k_ hk_.2.1),(rG (g:=ae) (o:=.cells #[.int .i64 ak,.slice a_ ag.length a8] 31 (0,0)) (wO) k_ hk_.2.1),(nz.fresh (oW) k_ hk_.2.1)⟩)) (o7 (w:=w) (g:=g) (row:=none) (nU HK.out)));replace af:=dm (uf (GI) hb);replace aa:=dm (rO (g:=ab) (o:=.cells #[.int .i64 0,.slice none 0 0] 31 (0,0)) (wN) hb);replace ah:=dm (rO (g:=ae) (o:=.cells #[.int .i64 ak,.slice a_ ag.length a8] 31 (0,0)) (wO) hb);replace HK:=oV HK hb;replace HB:=dm (oL (qg HB.out) hb);replace am:=dm (nz.below (show nz w0 ((gW.setCell ⟨ae,0,none⟩ (.int .i64 ak)).setCell ⟨ae,1,none⟩ (.slice a_ ag.length a8)) g ao aC from oW) hb);(try clear hb aG);obtain⟨dD,dE,ib⟩:=yZ aj.out;subst ib)|((with_reducible refine oh 104 rfl ?_);refine og 26 Try.func104 #[.pointer (some ⟨g,0,none⟩),.int .i64 (ac.length:Int)] ?_;(with_reducible refine(oP.calls k g ao aC (ac.length:Int) ai a3 w0 _ ?ng ?ni cO.out).mono ?_);(case ng=>exact oW);(case ni=>exact qg HB.out);rintro e m8 ⟨rfl,hi,hb,hk⟩;refine⟨_,rfl,?_⟩;replace aa:=oI aa au hk;replace af:=dm (nL (qi (nz.apart (show nz w0 _ g ao aC from oW) (nH af.out) (pF)) hk (fun _ h=>h.2)) (fun _ h=>h.1));replace ah:=oI ah av hk;replace aj:=dm (qx (xY (qx (ok:=fun k_=>(((w.heap.size<=k_))/\(some k_≠(.slice a_ ag.length a8:Value).ownBlock/\(k_≠ab/\(k_≠ae/\k_≠g))))) (uE) (fun k_ hk_=>(⟨hk_,hk_.2.2.2.2⟩:_/\k_≠g))) hk (fun _ h=>h.2)) (fun _ h=>h.1));replace HK:=pR HK hk;replace HB:=dm (hb);replace am:=dm (hi);(try clear hb hk hi))|((with_reducible refine oh 104 rfl ?_);refine og 28 Try.func104 #[.pointer (some ⟨g,0,none⟩),.int .i64 8] ?_;(with_reducible refine(oP.calls k g ao a3 8 aB aK w0 _ ?ng ?ni cP.out).mono ?_);(case ng=>exact oW);(case ni=>exact qg HB.out);rintro e m9 ⟨rfl,hi,hb,hk⟩;refine⟨_,rfl,?_⟩;replace aa:=oI aa au hk;replace af:=dm (nL (qi (nz.apart (show nz w0 _ g ao a3 from oW) (nH af.out) (pF)) hk (fun _ h=>h.2)) (fun _ h=>h.1));replace ah:=oI ah av hk;replace aj:=dm (qx (xY (qx (ok:=fun k_=>(((w.heap.size<=k_))/\(some k_≠(.slice a_ ag.length a8:Value).ownBlock/\(k_≠ab/\(k_≠ae/\k_≠g))))) (uE) (fun k_ hk_=>(⟨hk_,hk_.2.2.2.2⟩:_/\k_≠g))) hk (fun _ h=>h.2)) (fun _ h=>h.1));replace HK:=pR HK hk;replace HB:=dm (hb);replace am:=dm (hi);(try clear hb hk hi))|((with_reducible refine nP 54 rfl ?_);refine rU (Kd.int .i64) _ 3 ?hg (N:=54) ?hd (xs:=([0,1]:List Int)) (inner:=[.int .i64 0,.int .i64 1]) (ok:=fun _=>True) (okp:=fun _=>True) ?hr ?hp (fun _ hk=>hk) trivial (Below.refl _ _) (Nat.le_refl _) (by simp) ?_;(case hd=>rfl);(case hg=>rfl);(case hr=>first|(go_simp;done)|(go_simp;rfl));(case hp=>exact(oq.one (show Kd.M (Kd.int .i64) _ _ _ 0 [.int .i64 0] from rfl) (oq.one (show Kd.M (Kd.int .i64) _ _ _ 1 [.int .i64 1] from rfl) (oq.none _ _))));intro mA m_ cp hb hg_ pq;clear hg_ pq;(first|rw[←e7.out]at cp|(simp only[Int.reduceToNat]at cp;rw[←e7.out]at cp));replace af:=ou af hb;replace aj:=dm (BO (uE) (vL cp) hb);have cJ:=dm (oF (xJ (M:=fun k_=>(w.heap.size<=k_)) cp (o7 (w:=w) (g:=g) (row:=none) (nU HK.out)) (fun k_ h_=>h_)) (o7 (w:=w) (g:=g) (row:=none) (nU HK.out)));replace aa:=nA aa hb;replace ah:=nA ah hb;replace HK:=oV HK hb;replace HB:=dm (oL (qg HB.out) hb);replace am:=dm (nz.below (oW) hb);clear hb cp;obtain⟨ic,ie,ig⟩:=nW cJ.out;subst ig)|((with_reducible refine sj (b:=.append) (xs:= #[.tmp 53,.tmp 55]) rfl ?_);at_builtin;refine Oe (Kd.slice 3 (Kd.int .i64)) w.heap.size rfl (.tmp 53) (.tmp 55) 25 45 (.slice none 0 0) 24 rfl Try.underlying25 Aa rfl (pF) (by omega) (.slice dD ac.length dE) ac dC [.slice ic dC.length ie] (fun k_=>(w.heap.size<=k_)/\some k_≠(.slice a_ ag.length a8:Value).ownBlock/\k_≠ab/\k_≠ae/\k_≠g) (fun k_=>((fun k_=>(w.heap.size<=k_)/\some k_≠(.slice a_ ag.length a8:Value).ownBlock/\k_≠ab/\k_≠ae/\k_≠g)) k_/\some k_≠(.slice dD ac.length dE:Value).ownBlock) rfl rfl ?aP (fun _ hk=>hk) ?aF ?aO (Below.refl _ _) ?aS ?aL ?_;(case aP=>exact(CZ (nM (nL (ok':=(fun k_=>((fun k_=>(w.heap.size<=k_)/\some k_≠(.slice a_ ag.length a8:Value).ownBlock/\k_≠ab/\k_≠ae/\k_≠g)) k_/\some k_≠(.slice dD ac.length dE:Value).ownBlock)) (nz.apart am.out (oK (oK (wD (wD (cJ.out) (sS af.out) (pF)) (xG aj.out) (pF)) aa.out (pF)) ah.out (pF)) (pF)) (fun k_ hk=>⟨⟨hk.1.1.1.1.1.1,⟨hk.1.1.1.1.2,⟨hk.1.1.2,⟨hk.1.2,hk.2⟩⟩⟩⟩,hk.1.1.1.2⟩))).2.1 (Kd.R_F (nL (ok':=(fun k_=>((fun k_=>(w.heap.size<=k_)/\some k_≠(.slice a_ ag.length a8:Value).ownBlock/\k_≠ab/\k_≠ae/\k_≠g)) k_/\some k_≠(.slice dD ac.length dE:Value).ownBlock)) (nz.apart am.out (oK (oK (wD (wD (cJ.out) (sS af.out) (pF)) (xG aj.out) (pF)) aa.out (pF)) ah.out (pF)) (pF)) (fun k_ hk=>⟨⟨hk.1.1.1.1.1.1,⟨hk.1.1.1.1.2,⟨hk.1.1.2,⟨hk.1.2,hk.2⟩⟩⟩⟩,hk.1.1.1.2⟩)))));(case aF=>exact(fun k_ hk=>⟨(Nat.le_trans (o7 (w:=w) (g:=g) (row:=none) (nU HK.out)) hk),Kd.fresh' (oN (nH af.out)) k_ hk,rG (g:=ab) (o:=.cells #[.int .i64 0,.slice none 0 0] 31 (0,0)) (nG aa.out) k_ hk,rG (g:=ae) (o:=.cells #[.int .i64 ak,.slice a_ ag.length a8] 31 (0,0)) (nG ah.out) k_ hk,nz.fresh (oW) k_ hk⟩));(case aO=>exact(by(with_reducible repeat(first|apply uB|apply uC|apply tZ));exact qx aj.out (fun _ hk=>⟨hk.1.1,⟨hk.1.2.1,⟨hk.1.2.2.1,⟨hk.1.2.2.2.1,hk.1.2.2.2.2⟩⟩⟩⟩)));(case aS=>exact(o7 (w:=w) (g:=g) (row:=none) (nU HK.out)));(case aL=>have:=gy.out;omega);intro mB gX ho hb hg hat;rw[←gz.out]at ho;have n0:=dm (nz.grown (oW) hg (nz.zb am.out aj.out (pF)));have n1:=o_ aa hg (xR aj.out aa.out (pF));have n2:=dm (sU (nH af.out) (xG (uE)) (pF) hg);have n3:=o_ ah hg (xR aj.out ah.out (pF));have n4:=dm (yU (qg HB.out) HL.out hb);have n5:=dm (ow.trans (nU HK.out) (ow.xe hg g) (BQ aj.out));have n6:=dm (ho);clear am aa af ah HB HK aj cJ;revert n0 n1 n2 n3 n4 n5 n6;intro am aa af ah HB HK gA;clear ho hb hg hat;have⟨jE,jF,jG,jH⟩:=nK (w:=gX) ah;have lQ:=au.out;have lR:=aW.out;have⟨jI,jJ,jK,jL⟩:=nK (w:=gX) aa))
     refine bodyPost_ret (wS rfl _ _ ab 31 #[.int .i64 ak,.slice a_ ag.length a8] (0,0) _ rfl (Aq) Try.underlying31 rfl (yO)) rfl ?_;exact⟨_,_,qD,by(with_reducible repeat(first|apply nY|apply nZ|apply nN));exact nL (nR (p:=⟨ab,1,none⟩) (nR (p:=⟨ab,0,none⟩) (oK af.out aa.out (pF)) (fun _ hk=>hk.2) (.int .i64 ak)) (fun _ hk=>hk.2) (.slice a_ ag.length a8)) (fun _ hk=>hk.1.1),by(with_reducible repeat(first|apply uB|apply uC|apply tZ));exact qx (vD (p:=⟨ab,1,none⟩) (vD (p:=⟨ab,0,none⟩) (qx gA.out (fun k_ hk=>(⟨hk,hk.2.2.1⟩:_/\k_≠ab))) (fun _ hk=>hk.2) (.int .i64 ak)) (fun _ hk=>hk.2) (.slice a_ ag.length a8)) (fun _ hk=>⟨hk.1.1,hk.1.2.1⟩),oW,qg HB.out,nU HK.out⟩
    ·rw[if_neg cG]at H;have e5:=beq_eq_false_iff_ne.mpr cG;have e6:=bne_iff_ne.mpr cG
     by_cases cH:aB=3
     ·rw[if_pos cH]at H;have e9:=beq_iff_eq.mpr cH;have fa:=bne_eq_false_iff_eq.mpr cH;clear cH
      obtain⟨lS,H⟩:=oz H
      obtain⟨lT,H⟩:=oz H;obtain⟨⟨aX,dF⟩,ks,H⟩:=ol H;(try dsimp only at H);obtain⟨⟨bo,fX⟩,ku,H⟩:=ol H;(try dsimp only at H)
      obtain⟨kv,H⟩:=oz H
      obtain⟨kw,H⟩:=oz H;simp only[Option.some.injEq,Prod.mk.injEq]at H;obtain⟨rfl,rfl,rfl,rfl⟩:=H
      go_enter Try.func71,Try.ntmps71;try go_wp2_with (first|((with_reducible refine nP 2 rfl ?_);refine om 2 #[.int .i64 0,.slice none 0 0] 31 ?_;intro ab hg mC nu hb;replace HB:=dm (oL (qg HB.out) hb);have aa:=dm (nu);have bG:=dm (sV:w.heap.size<=ab);have bH:=dm (Nat.le_trans br.out (sV:w.heap.size<=ab):w0.heap.size<=ab);replace HK:=oV HK hb;have aW:=dm (Az:g≠ab);have au:=dm (Au:ab≠g);replace am:=dm (nz.below (oW) hb);clear hb nu hg)|((with_reducible refine oh 73 rfl ?_);refine og 11 Try.func73 #[.pointer (some ⟨g,0,none⟩)] ?_;(with_reducible refine(pK.calls k g ao bf ak ag aC w0 _ ?ng ?ni A2.out).mono ?_);(case ng=>exact oW);(case ni=>exact qg HB.out);rintro e mD ⟨cj,rfl,aG,hi,hb,hk⟩;refine⟨_,rfl,?_⟩;replace aa:=oI aa au hk;have af:=dm (oF (xJ (M:=fun k_=>(w.heap.size<=k_)) aG (o7 (w:=w) (g:=g) (row:=none) (nU HK.out)) (fun k_ h_=>h_)) (o7 (w:=w) (g:=g) (row:=none) (nU HK.out)));replace HK:=pR HK hk;replace HB:=dm (hb);replace am:=dm (hi);(try clear hb hk hi aG))|((with_reducible refine nP 4 rfl ?_);refine om 4 #[.int .i64 0,.slice none 0 0] 31 ?_;intro ae hg fY nu hb;have n0:=ou af hb;have n1:=dm (nz.below (oW) hb);have n2:=nA aa hb;have n3:=oV HK hb;have n4:=dm (oL (qg HB.out) hb);have n5:=dm (nu);have n6:=dm (sV:w.heap.size<=ae);have n7:=dm (Nat.le_trans br.out (sV:w.heap.size<=ae):w0.heap.size<=ae);have n8:=dm (AA:ab≠ae);have n9:=dm (Ak:ae≠ab);have bx:=dm (Ap:g≠ae);have bz:=dm (Am:ae≠g);clear af am aa HK HB;revert n0 n1 n2 n3 n4 n5 n6 n7 n8 n9 bx bz;intro af am aa HK HB ah bI bJ az aE aT av;clear hb nu hg;have ky:=aE.out;have kz:=az.out;have kA:=av.out;have kB:=aT.out;have⟨ii,ij,ik,il⟩:=nK (w:=fY) ah;obtain⟨a2,aY,gB⟩:=nW af.out;subst gB)|((with_reducible refine oh 22 rfl ?_);refine og 14 Try.func22 #[.agg #[.int .i64 ak,.slice a2 ag.length aY]] ?_;(with_reducible refine(oU.calls k ak _ _ ag ac bV _ ?ng ?ni A3.out).mono ?_);(case ng=>refine(nM (e:=59) (base:=w.heap.size) (ok:=fun k_=>((w.heap.size<=k_)/\True)) (n:=ag.length) (c:=aY) ?_).2.2;exact(GU));(case ni=>exact(nM af.out).2.1);rintro e mE ⟨ck,rfl,aG,hb⟩;refine⟨_,rfl,?_⟩;have aj:=dm (BZ (uZ (ok':=fun k_=>(w.heap.size<=k_)/\some k_≠(.slice a2 ag.length aY:Value).ownBlock/\k_≠ab/\k_≠ae/\k_≠g) (yw aG) (fun k_ hk_=>⟨(Nat.le_trans (o7 (w:=w) (g:=g) (row:=none) (nU HK.out)) hk_.2.1),(Kd.fresh' (oN (GU)) k_ hk_.2.1),(rG (g:=ab) (o:=.cells #[.int .i64 0,.slice none 0 0] 31 (0,0)) (wN) k_ hk_.2.1),(rG (g:=ae) (o:=.cells #[.int .i64 ak,.slice a2 ag.length aY] 31 (0,0)) (wO) k_ hk_.2.1),(nz.fresh (oW) k_ hk_.2.1)⟩)) (o7 (w:=w) (g:=g) (row:=none) (nU HK.out)));replace af:=dm (uf (GU) hb);replace aa:=dm (rO (g:=ab) (o:=.cells #[.int .i64 0,.slice none 0 0] 31 (0,0)) (wN) hb);replace ah:=dm (rO (g:=ae) (o:=.cells #[.int .i64 ak,.slice a2 ag.length aY] 31 (0,0)) (wO) hb);replace HK:=oV HK hb;replace HB:=dm (oL (qg HB.out) hb);replace am:=dm (nz.below (show nz w0 ((fY.setCell ⟨ae,0,none⟩ (.int .i64 ak)).setCell ⟨ae,1,none⟩ (.slice a2 ag.length aY)) g ao aC from oW) hb);(try clear hb aG);obtain⟨lU,cL,gC⟩:=FO aj.out;subst gC)|((with_reducible refine oh 104 rfl ?_);refine og 26 Try.func104 #[.pointer (some ⟨g,0,none⟩),.int .i64 (ac.length:Int)] ?_;(with_reducible refine(oP.calls k g ao aC (ac.length:Int) ai a3 w0 _ ?ng ?ni cO.out).mono ?_);(case ng=>exact oW);(case ni=>exact qg HB.out);rintro e mF ⟨rfl,hi,hb,hk⟩;refine⟨_,rfl,?_⟩;replace aa:=oI aa au hk;replace af:=dm (nL (qi (nz.apart (show nz w0 _ g ao aC from oW) (nH af.out) (pF)) hk (fun _ h=>h.2)) (fun _ h=>h.1));replace ah:=oI ah av hk;replace aj:=dm (uZ (D6 (uZ (ok:=fun k_=>(((w.heap.size<=k_))/\(some k_≠(.slice a2 ag.length aY:Value).ownBlock/\(k_≠ab/\(k_≠ae/\k_≠g))))) (Em) (fun k_ hk_=>(⟨hk_,hk_.2.2.2.2⟩:_/\k_≠g))) hk (fun _ h=>h.2)) (fun _ h=>h.1));replace HK:=pR HK hk;replace HB:=dm (hb);replace am:=dm (hi);(try clear hb hk hi))|((with_reducible refine oh 104 rfl ?_);refine og 28 Try.func104 #[.pointer (some ⟨g,0,none⟩),.int .i64 8] ?_;(with_reducible refine(oP.calls k g ao a3 8 aB aK w0 _ ?ng ?ni cP.out).mono ?_);(case ng=>exact oW);(case ni=>exact qg HB.out);rintro e im ⟨rfl,hi,hb,hk⟩;refine⟨_,rfl,?_⟩;replace aa:=oI aa au hk;replace af:=dm (nL (qi (nz.apart (show nz w0 _ g ao a3 from oW) (nH af.out) (pF)) hk (fun _ h=>h.2)) (fun _ h=>h.1));replace ah:=oI ah av hk;replace aj:=dm (uZ (D6 (uZ (ok:=fun k_=>(((w.heap.size<=k_))/\(some k_≠(.slice a2 ag.length aY:Value).ownBlock/\(k_≠ab/\(k_≠ae/\k_≠g))))) (Em) (fun k_ hk_=>(⟨hk_,hk_.2.2.2.2⟩:_/\k_≠g))) hk (fun _ h=>h.2)) (fun _ h=>h.1));replace HK:=pR HK hk;replace HB:=dm (hb);replace am:=dm (hi);(try clear hb hk hi)))
      replace af:=dm (nN af.out);replace aj:=dm (vC aj.out);replace aa:=dm (nV aa.out);replace ah:=dm (nV ah.out);replace am:=dm (nz.drew am.out);replace HK:=dm (vJ HK.out);replace HB:=dm (o9 HB.out);have cX:0<=(ai:Int):=nD;have cY:ai<(ac.length:Int):=nD;obtain⟨bC,eb,ec,io,bO,di,dj⟩:=rH (qO (Kd.S_N aj.out)).2.2 ai cX cY;cases io;obtain⟨lV,fZ,f2,ed⟩:=vX (Kd.S_N aj.out) [] ai cX (by first|exact cY|exact of_decide_eq_true (uh)|(have e_:=(qO (Kd.S_N aj.out)).1;omega));obtain⟨jM,jN,rfl,cq,cr⟩:=uH f2;have bP:=ed 0 _ rfl;rw[Nat.add_zero,show((Kd.slice 3 (Kd.int .i64))).sz=1 from rfl,Nat.mul_one]at bP;replace bP:=Option.some.inj (bP.symm.trans bO);injection bP with qJ sG qK;rw[qJ]at cr;rw[qK]at cq;have bk:=dm (show Kd.V (Kd.int .i64) 3 _ w.heap.size _ _ (nI ac ai) from vv cq cr);clear qJ sG qK cr cq;clear ed fZ;have fm:=dm dj;have jO:=dm di;clear dj di;replace cX:=eq_true cX;replace cY:=eq_true cY;have dI:0<=(ai:Int):=nD;have dJ:ai<(ac.length:Int):=nD;obtain⟨gD,kC,kD,ip,bQ,dk,dl⟩:=rH (qO (Kd.S_N aj.out)).2.2 ai dI dJ;obtain rfl:bC=gD:=(by injection ip);obtain⟨lW,f3,f4,ee⟩:=vX (Kd.S_N aj.out) [] ai dI (by first|exact dJ|exact of_decide_eq_true (uh)|(have e_:=(qO (Kd.S_N aj.out)).1;omega));obtain⟨jP,jQ,rfl,ct,cu⟩:=uH f4;have bR:=ee 0 _ rfl;rw[Nat.add_zero,show((Kd.slice 3 (Kd.int .i64))).sz=1 from rfl,Nat.mul_one]at bR;replace bR:=Option.some.inj (bR.symm.trans bQ);injection bR with qJ sG qK;rw[qJ]at cu;rw[qK]at ct;have bl:=dm (show Kd.V (Kd.int .i64) 3 _ w.heap.size _ _ (nI ac ai) from vv ct cu);clear qJ sG qK cu ct;clear ee f3;have fo:=dm dl;have jR:=dm dk;clear dl dk;replace dI:=eq_true dI;replace dJ:=eq_true dJ;have ea_:=Option.some.inj (bO.symm.trans bQ);injection ea_ with ea_ en_ ec_;subst ea_;subst ec_;clear en_;refine pU 15 (S:=fun w'=>w'.cell? (bC.add (ai).toNat)=some (.slice eb (nI ac ai).length ec)/\w'.cell? (bC.add (ai).toNat)=some (.slice eb (nI ac ai).length ec)) [14] ⟨bO,bQ⟩ rD.Eb rD.DX (fun hHeld HT_ HW_=>?_);generalize im.drew=mG at af aj aa ah am HK HB bk bl fm fo bO bQ hHeld⊢;refine lq 0 59 1 ?_;refine lq 1 60 3 ?_;refine lq 2 61 7 ?_;refine lq 4 63 23 ?_;refine lq 5 64 55 ?_;refine lq 6 65 119 ?_;refine lq 7 66 247 ?_;refine lq 11 70 2295 ?_;refine qZ 3 62 2303 ?_;refine qZ 8 67 2559 ?_;refine lq 9 68 3071 ?_;refine oD 10 69 4095 (fun K hK=>?_);refine oO Try.func104 #[.pointer (some ⟨g,0,none⟩),.int .i64 ((nI ac ai).length:Int)] ?_;with_reducible refine(oP.calls k g ao aK ((nI ac ai).length:Int) aX dF w0 _ ?ng ?ni ks.out).mono ?_
      (case ng=>exact oW);(case ni=>exact qg HB.out);rintro e mH ⟨rfl,hi,hb,hk⟩;have dK:=A_ hk (hHeld.1) (Ew);have er:=A_ hk (hHeld.2) (Ew);refine⟨_,rfl,?_⟩;replace aa:=oI aa au hk;replace af:=dm (nL (qi (nz.apart (show nz w0 _ g ao aK from oW) (nH af.out) (pF)) hk (fun _ h=>h.2)) (fun _ h=>h.1));replace ah:=oI ah av hk;replace aj:=dm (uZ (D6 (uZ (ok:=fun k_=>(((w.heap.size<=k_))/\(some k_≠(.slice a2 ag.length aY:Value).ownBlock/\(k_≠ab/\(k_≠ae/\k_≠g))))) (Em) (fun k_ hk_=>(⟨hk_,hk_.2.2.2.2⟩:_/\k_≠g))) hk (fun _ h=>h.2)) (fun _ h=>h.1));replace bk:=dm (wW (DY (wW (ok:=fun k_=>((((w.heap.size<=k_))/\(some k_≠(.slice a2 ag.length aY:Value).ownBlock/\(k_≠ab/\(k_≠ae/\k_≠g))))/\some k_≠(.slice (some bC) ac.length cL:Value).ownBlock)) (qX bk.out) (fun k_ hk_=>(⟨hk_,hk_.1.2.2.2.2⟩:_/\k_≠g))) hk (fun _ h=>h.2)) (fun _ h=>h.1));replace bl:=dm (wW (DY (wW (ok:=fun k_=>((((w.heap.size<=k_))/\(some k_≠(.slice a2 ag.length aY:Value).ownBlock/\(k_≠ab/\(k_≠ae/\k_≠g))))/\some k_≠(.slice (some bC) ac.length cL:Value).ownBlock)) (qX bl.out) (fun k_ hk_=>(⟨hk_,hk_.1.2.2.2.2⟩:_/\k_≠g))) hk (fun _ h=>h.2)) (fun _ h=>h.1));replace HK:=pR HK hk;replace HB:=dm (hb);replace am:=dm (hi);(try clear hb na hk hi);refine hK.out _ _ ⟨dK,er⟩ (fun hHeld=>?_);clear hK K;refine nQ 69 ?_;refine oD 12 71 8191 (fun K hK=>?_);refine oO Try.func104 #[.pointer (some ⟨g,0,none⟩),.int .i64 9] ?_;with_reducible refine(oP.calls k g ao dF 9 bo fX w0 _ ?ng ?ni ku.out).mono ?_
      (case ng=>exact oW);(case ni=>exact qg HB.out);rintro e es ⟨rfl,hi,hb,hk⟩;have dK:=A_ hk (hHeld.1) (Ew);have er:=A_ hk (hHeld.2) (Ew);refine⟨_,rfl,?_⟩;replace aa:=oI aa au hk;replace af:=dm (nL (qi (nz.apart (show nz w0 _ g ao dF from oW) (nH af.out) (pF)) hk (fun _ h=>h.2)) (fun _ h=>h.1));replace ah:=oI ah av hk;replace aj:=dm (uZ (D6 (uZ (ok:=fun k_=>(((w.heap.size<=k_))/\(some k_≠(.slice a2 ag.length aY:Value).ownBlock/\(k_≠ab/\(k_≠ae/\k_≠g))))) (Em) (fun k_ hk_=>(⟨hk_,hk_.2.2.2.2⟩:_/\k_≠g))) hk (fun _ h=>h.2)) (fun _ h=>h.1));replace bk:=dm (wW (DY (wW (ok:=fun k_=>((((w.heap.size<=k_))/\(some k_≠(.slice a2 ag.length aY:Value).ownBlock/\(k_≠ab/\(k_≠ae/\k_≠g))))/\some k_≠(.slice (some bC) ac.length cL:Value).ownBlock)) (qX bk.out) (fun k_ hk_=>(⟨hk_,hk_.1.2.2.2.2⟩:_/\k_≠g))) hk (fun _ h=>h.2)) (fun _ h=>h.1));replace bl:=dm (wW (DY (wW (ok:=fun k_=>((((w.heap.size<=k_))/\(some k_≠(.slice a2 ag.length aY:Value).ownBlock/\(k_≠ab/\(k_≠ae/\k_≠g))))/\some k_≠(.slice (some bC) ac.length cL:Value).ownBlock)) (qX bl.out) (fun k_ hk_=>(⟨hk_,hk_.1.2.2.2.2⟩:_/\k_≠g))) hk (fun _ h=>h.2)) (fun _ h=>h.1));replace HK:=pR HK hk;replace HB:=dm (hb);replace am:=dm (hi);(try clear hb hk hi);have et:0<=(aX:Int):=nD;have eu:aX<((nI ac ai).length:Int):=nD;obtain⟨ge_,hA_,hok_,⟨cs_,hc_⟩,⟨y_,hy_⟩,hfr_,hS_⟩:=Oc aj.out ai aX bo (of_eq_true cX) (of_eq_true cY) et eu dK;subst hA_;replace et:=eq_true et;replace eu:=eq_true eu;refine hK.out _ _ ⟨dK,er⟩ (fun hHeld=>?_);clear hK K;refine nQ 71 ?_;refine lq 13 72 16383 ?_;refine vz 14 (none) (pg 15 32767) (fun K hK=>?_);refine tT (w1:= ?_) (by rfl) rfl ?_ ?_;rotate_left
      ·go_simp
       rfl
      refine hK.out _ _ ?_;clear hK K;refine pM (pQ HT_.out (yO)) ?_;have n0:=dm (xH ah.out (p:=⟨ge_,(aX).toNat,none⟩) (Ne.symm (hok_.2.2.2.1)) (.int .i64 bo));have n1:=dm (xH aa.out (p:=⟨ge_,(aX).toNat,none⟩) (Ne.symm (hok_.2.2.1)) (.int .i64 bo));have n2:=dm (Qr af.out hc_ (pF) (aX).toNat (.int .i64 bo));have n3:=dm (Kd.S_N hS_);have n4:=dm (nz.far am.out (p:=⟨ge_,(aX).toNat,none⟩) (Ne.symm (hok_.2.2.2.2)) (.int .i64 bo));have n5:=dm (yY HK.out (p:=⟨ge_,(aX).toNat,none⟩) hok_.1 (.int .i64 bo));have n6:=dm (rX HB.out (Nat.le_trans HL.out hok_.1) (j:=(aX).toNat) (v:=.int .i64 bo));clear ah aa af aj am HK HB;have hwq:es.setCell ⟨ge_,(aX).toNat,none⟩ (.int .i64 bo)=es.setCell ⟨ge_,(aX).toNat,none⟩ (.int .i64 bo):=rfl;revert n0 n1 n2 n3 n4 n5 n6;intro ah aa af aj am HK HB;clear hwq;generalize es.setCell ⟨ge_,(aX).toNat,none⟩ (.int .i64 bo)=wq_ at ah aa af aj am HK HB⊢;have⟨iq,ir,iu,iv⟩:=nK (w:=wq_) ah;have kE:=au.out;have kF:=aW.out;have⟨iw,ix,iy,iz⟩:=nK (w:=wq_) aa;try go_wp2
      refine bodyPost_ret (wS rfl _ _ ab 31 #[.int .i64 ak,.slice a2 ag.length aY] (0,0) _ rfl (Aq) Try.underlying31 rfl (yO)) rfl ?_;exact⟨_,_,qD,by(with_reducible repeat(first|apply nY|apply nZ|apply nN));exact nL (nR (p:=⟨ab,1,none⟩) (nR (p:=⟨ab,0,none⟩) (oK af.out aa.out (pF)) (fun _ hk=>hk.2) (.int .i64 ak)) (fun _ hk=>hk.2) (.slice a2 ag.length aY)) (fun _ hk=>hk.1.1),by(with_reducible repeat(first|apply uB|apply uC|apply tZ));exact qx (vD (p:=⟨ab,1,none⟩) (vD (p:=⟨ab,0,none⟩) (qx aj.out (fun k_ hk=>(⟨hk,hk.2.2.1⟩:_/\k_≠ab))) (fun _ hk=>hk.2) (.int .i64 ak)) (fun _ hk=>hk.2) (.slice a2 ag.length aY)) (fun _ hk=>⟨hk.1.1,hk.1.2.1⟩),oW,qg HB.out,nU HK.out⟩
     ·rw[if_neg cH]at H;have e9:=beq_eq_false_iff_ne.mpr cH;have fa:=bne_iff_ne.mpr cH
      by_cases bX:aB=4
      ·rw[if_pos bX]at H;have ef:=beq_iff_eq.mpr bX;have eg:=bne_eq_false_iff_eq.mpr bX;clear bX;obtain⟨f5,cd⟩:∃y_:List Int,y_=(([]:List Int)):=⟨_,rfl⟩;replace H:(if 0<=ai then(if ai<(ac.length:Int) then(rD.l0 k ac ai f5 (wrap64 (((nI ac ai).length:Int) - 1)) ao aK ak ag) else(none)) else(none))=some (r1,r2,r3,r4):=pE cd H
       have fd:=dm cd;clear cd
       obtain⟨f6,H⟩:=oz H
       obtain⟨f7,H⟩:=oz H;have H':=dm H;clear H
       go_enter Try.func71,Try.ntmps71
       go_wp2_with (first|((with_reducible refine nP 2 rfl ?_);refine om 2 #[.int .i64 0,.slice none 0 0] 31 ?_;intro ab hg mI nu hb;replace HB:=dm (oL (qg HB.out) hb);have aa:=dm (nu);have bG:=dm (sV:w.heap.size<=ab);have bH:=dm (Nat.le_trans br.out (sV:w.heap.size<=ab):w0.heap.size<=ab);replace HK:=oV HK hb;have aW:=dm (Az:g≠ab);have au:=dm (Au:ab≠g);replace am:=dm (nz.below (oW) hb);clear hb nu hg)|((with_reducible refine oh 73 rfl ?_);refine og 11 Try.func73 #[.pointer (some ⟨g,0,none⟩)] ?_;(with_reducible refine(pK.calls k g ao bf ak ag aC w0 _ ?ng ?ni A2.out).mono ?_);(case ng=>exact oW);(case ni=>exact qg HB.out);rintro e mJ ⟨cj,rfl,aG,hi,hb,hk⟩;refine⟨_,rfl,?_⟩;replace aa:=oI aa au hk;have af:=dm (oF (xJ (M:=fun k_=>(w.heap.size<=k_)) aG (o7 (w:=w) (g:=g) (row:=none) (nU HK.out)) (fun k_ h_=>h_)) (o7 (w:=w) (g:=g) (row:=none) (nU HK.out)));replace HK:=pR HK hk;replace HB:=dm (hb);replace am:=dm (hi);(try clear hb hk hi aG))|((with_reducible refine nP 4 rfl ?_);refine om 4 #[.int .i64 0,.slice none 0 0] 31 ?_;intro ae hg f8 nu hb;have n0:=ou af hb;have n1:=dm (nz.below (oW) hb);have n2:=nA aa hb;have n3:=oV HK hb;have n4:=dm (oL (qg HB.out) hb);have n5:=dm (nu);have n6:=dm (sV:w.heap.size<=ae);have n7:=dm (Nat.le_trans br.out (sV:w.heap.size<=ae):w0.heap.size<=ae);have n8:=dm (AA:ab≠ae);have n9:=dm (Ak:ae≠ab);have bx:=dm (Ap:g≠ae);have bz:=dm (Am:ae≠g);clear af am aa HK HB;revert n0 n1 n2 n3 n4 n5 n6 n7 n8 n9 bx bz;intro af am aa HK HB ah bI bJ az aE aT av;clear hb nu hg;have kG:=aE.out;have kH:=az.out;have kI:=av.out;have kJ:=aT.out;have⟨ev,ew,ex,ey⟩:=nK (w:=f8) ah;obtain⟨aN,aM,gE⟩:=nW af.out;subst gE)|((with_reducible refine oh 22 rfl ?_);refine og 14 Try.func22 #[.agg #[.int .i64 ak,.slice aN ag.length aM]] ?_;(with_reducible refine(oU.calls k ak _ _ ag ac bV _ ?ng ?ni A3.out).mono ?_);(case ng=>refine(nM (e:=59) (base:=w.heap.size) (ok:=fun k_=>((w.heap.size<=k_)/\True)) (n:=ag.length) (c:=aM) ?_).2.2;exact(GZ));(case ni=>exact(nM af.out).2.1);rintro e mK ⟨ck,rfl,aG,hb⟩;refine⟨_,rfl,?_⟩;have aj:=dm (xX (qx (ok':=fun k_=>(w.heap.size<=k_)/\some k_≠(.slice aN ag.length aM:Value).ownBlock/\k_≠ab/\k_≠ae/\k_≠g) (Kd.S_N (yw aG)) (fun k_ hk_=>⟨(Nat.le_trans (o7 (w:=w) (g:=g) (row:=none) (nU HK.out)) hk_.2.1),(Kd.fresh' (oN (GZ)) k_ hk_.2.1),(rG (g:=ab) (o:=.cells #[.int .i64 0,.slice none 0 0] 31 (0,0)) (wN) k_ hk_.2.1),(rG (g:=ae) (o:=.cells #[.int .i64 ak,.slice aN ag.length aM] 31 (0,0)) (wO) k_ hk_.2.1),(nz.fresh (oW) k_ hk_.2.1)⟩)) (o7 (w:=w) (g:=g) (row:=none) (nU HK.out)));replace af:=dm (uf (GZ) hb);replace aa:=dm (rO (g:=ab) (o:=.cells #[.int .i64 0,.slice none 0 0] 31 (0,0)) (wN) hb);replace ah:=dm (rO (g:=ae) (o:=.cells #[.int .i64 ak,.slice aN ag.length aM] 31 (0,0)) (wO) hb);replace HK:=oV HK hb;replace HB:=dm (oL (qg HB.out) hb);replace am:=dm (nz.below (show nz w0 ((f8.setCell ⟨ae,0,none⟩ (.int .i64 ak)).setCell ⟨ae,1,none⟩ (.slice aN ag.length aM)) g ao aC from oW) hb);(try clear hb aG);obtain⟨lX,ce,gF⟩:=yZ aj.out;subst gF)|((with_reducible refine oh 104 rfl ?_);refine og 26 Try.func104 #[.pointer (some ⟨g,0,none⟩),.int .i64 (ac.length:Int)] ?_;(with_reducible refine(oP.calls k g ao aC (ac.length:Int) ai a3 w0 _ ?ng ?ni cO.out).mono ?_);(case ng=>exact oW);(case ni=>exact qg HB.out);rintro e mL ⟨rfl,hi,hb,hk⟩;refine⟨_,rfl,?_⟩;replace aa:=oI aa au hk;replace af:=dm (nL (qi (nz.apart (show nz w0 _ g ao aC from oW) (nH af.out) (pF)) hk (fun _ h=>h.2)) (fun _ h=>h.1));replace ah:=oI ah av hk;replace aj:=dm (qx (xY (qx (ok:=fun k_=>(((w.heap.size<=k_))/\(some k_≠(.slice aN ag.length aM:Value).ownBlock/\(k_≠ab/\(k_≠ae/\k_≠g))))) (uE) (fun k_ hk_=>(⟨hk_,hk_.2.2.2.2⟩:_/\k_≠g))) hk (fun _ h=>h.2)) (fun _ h=>h.1));replace HK:=pR HK hk;replace HB:=dm (hb);replace am:=dm (hi);(try clear hb hk hi))|((with_reducible refine oh 104 rfl ?_);refine og 28 Try.func104 #[.pointer (some ⟨g,0,none⟩),.int .i64 8] ?_;(with_reducible refine(oP.calls k g ao a3 8 aB aK w0 _ ?ng ?ni cP.out).mono ?_);(case ng=>exact oW);(case ni=>exact qg HB.out);rintro e mM ⟨rfl,hi,hb,hk⟩;refine⟨_,rfl,?_⟩;replace aa:=oI aa au hk;replace af:=dm (nL (qi (nz.apart (show nz w0 _ g ao a3 from oW) (nH af.out) (pF)) hk (fun _ h=>h.2)) (fun _ h=>h.1));replace ah:=oI ah av hk;replace aj:=dm (qx (xY (qx (ok:=fun k_=>(((w.heap.size<=k_))/\(some k_≠(.slice aN ag.length aM:Value).ownBlock/\(k_≠ab/\(k_≠ae/\k_≠g))))) (uE) (fun k_ hk_=>(⟨hk_,hk_.2.2.2.2⟩:_/\k_≠g))) hk (fun _ h=>h.2)) (fun _ h=>h.1));replace HK:=pR HK hk;replace HB:=dm (hb);replace am:=dm (hi);(try clear hb hk hi))|((with_reducible refine nP 75 rfl ?_);refine rU (Kd.int .i64) _ 3 ?hg (N:=75) ?hd (xs:=([]:List Int)) (inner:=[]) (ok:=fun _=>True) (okp:=fun _=>True) ?hr ?hp (fun _ hk=>hk) trivial (Below.refl _ _) (Nat.le_refl _) (by simp) ?_;(case hd=>rfl);(case hg=>rfl);(case hr=>first|(go_simp;done)|(go_simp;rfl));(case hp=>exact(oq.none _ _));intro mN mO bS hb hg_ pq;clear hg_ pq;(first|rw[←fd.out]at bS|(simp only[Int.reduceToNat]at bS;rw[←fd.out]at bS));replace af:=ou af hb;replace aj:=dm (BO (uE) (vL bS) hb);have gG:=dm (oF (xJ (M:=fun k_=>(w.heap.size<=k_)) bS (o7 (w:=w) (g:=g) (row:=none) (nU HK.out)) (fun k_ h_=>h_)) (o7 (w:=w) (g:=g) (row:=none) (nU HK.out)));replace aa:=nA aa hb;replace ah:=nA ah hb;replace HK:=oV HK hb;replace HB:=dm (oL (qg HB.out) hb);replace am:=dm (nz.below (oW) hb);clear hb bS;have cZ:0<=(ai:Int):=nD;have c_:ai<(ac.length:Int):=nD;obtain⟨dN,kK,kL,iA,cv,dn,dp⟩:=rH (qO aj.out).2.2 ai cZ c_;cases iA;obtain⟨lY,f9,f_,eh⟩:=vX aj.out [] ai cZ (by first|exact c_|exact of_decide_eq_true (uh)|(have e_:=(qO aj.out).1;omega));obtain⟨jS,jT,rfl,cw,cx⟩:=uH f_;have bT:=eh 0 _ rfl;rw[Nat.add_zero,show((Kd.slice 3 (Kd.int .i64))).sz=1 from rfl,Nat.mul_one]at bT;replace bT:=Option.some.inj (bT.symm.trans cv);injection bT with qJ sG qK;rw[qJ]at cx;rw[qK]at cw;have jU:=dm (show Kd.V (Kd.int .i64) 3 _ w.heap.size _ _ (nI ac ai) from vv cw cx);clear qJ sG qK cx cw;clear eh f9;have jV:=dm dp;have jW:=dm dn;clear dp dn;replace cZ:=eq_true cZ;replace c_:=eq_true c_))
       go_loopg [8,9] k (fun kq v8 v9 w'=>∃ (bw:List Int) (a6:Int),v9=.int .i64 a6/\lm (rD.l0 kq ac ai bw a6 ao aK ak ag=some (r1,r2,r3,r4))/\lm (kq<=k)/\lm (Kd.N (Kd.slice 3 (Kd.int .i64)) 45 w' w.heap.size (fun k_=>(w.heap.size<=k_)/\some k_≠(v8:Value).ownBlock/\some k_≠((.slice aN ag.length aM):Value).ownBlock/\k_≠ab/\k_≠ae/\k_≠g) (.slice (some dN) ac.length ce) ac)/\lm (Kd.R (Kd.int .i64) 3 w' w.heap.size (fun k_=>(w.heap.size<=k_)) v8 bw)/\lm (Kd.R k59 59 w' w.heap.size (fun k_=>(w.heap.size<=k_)) (.slice aN ag.length aM) ag)/\lm (w'.heap[ab]? =some (.cells #[.int .i64 0,(.slice none 0 0)] 31 (0,0)))/\lm (w'.heap[ae]? =some (.cells #[.int .i64 ak,(.slice aN ag.length aM)] 31 (0,0)))/\lm (nz w0 w' g ao aK)/\lm (ow w w' g none)/\lm (Below w0.heap.size w0 w'))
       case atStart=>exact⟨(f5),(wrap64 (((nI ac ai).length:Int) - 1)),(by first|rfl|(simp;done)|(simp[*];done)),H',⟨Nat.le_refl _⟩,⟨by(with_reducible repeat(first|apply uB|apply uC|apply tZ));exact qx aj.out (fun _ hk=>⟨hk.1.1,⟨hk.2,⟨hk.1.2.1,⟨hk.1.2.2.1,⟨hk.1.2.2.2.1,hk.1.2.2.2.2⟩⟩⟩⟩⟩)⟩,⟨by(with_reducible repeat(first|apply nY|apply nZ|apply nN));exact nL gG.out (fun _ hk=>hk.1)⟩,⟨by(with_reducible repeat(first|apply nY|apply nZ|apply nN));exact nL af.out (fun _ hk=>hk.1)⟩,⟨nG aa.out⟩,⟨nG ah.out⟩,⟨oW⟩,⟨nU HK.out⟩,⟨qg HB.out⟩⟩
       case round=>
        clear H';(try clear cE eG eH cF eQ eR cG e5 e6 cH e9 fa ef eg f6 f7 ev ew ex ey cv cZ c_);obtain⟨bw,a6,rfl,HA,gY,aZ,bq,aV,aa,ah,am,HK,HB⟩:=hrel;cases gk with
        |zero=>exact absurd HA.out (by simp[rD.l0])
        |succ k1=>
         have H:=HA.out;clear HA;simp only[rD.l0]at H
         by_cases cy:a6>=0
         ·rw[if_pos cy]at H;have ga:=decide_eq_true cy;clear cy
          obtain⟨kM,H⟩:=oz H
          obtain⟨kN,H⟩:=oz H
          obtain⟨kO,H⟩:=oz H
          obtain⟨kP,H⟩:=oz H
          obtain⟨dS,H⟩:=qd H;have gb:=dm dS;clear dS;obtain⟨gc,cf⟩:∃y_:List Int,y_=(bw++[rd (nI ac ai) a6]):=⟨_,rfl⟩;replace H:(rD.l0 k1 ac ai gc (wrap64 (a6 - 1)) ao aK ak ag)=some (r1,r2,r3,r4):=pE cf H
          have gH:=dm cf;clear cf;have H':=dm H;clear H;have dT:0<=(ai:Int):=nD;have dU:ai<(ac.length:Int):=nD;obtain⟨gI,kQ,kR,iB,dq,dr,dt⟩:=rH (qO aZ.out).2.2 ai dT dU;obtain rfl:dN=gI:=(by injection iB);obtain⟨lZ,gf,gg,ei⟩:=vX aZ.out [] ai dT (by first|exact dU|exact of_decide_eq_true (uh)|(have e_:=(qO aZ.out).1;omega));obtain⟨jX,jY,rfl,cz,cA⟩:=uH gg;have bU:=ei 0 _ rfl;rw[Nat.add_zero,show((Kd.slice 3 (Kd.int .i64))).sz=1 from rfl,Nat.mul_one]at bU;replace bU:=Option.some.inj (bU.symm.trans dq);injection bU with qJ sG qK;rw[qJ]at cA;rw[qK]at cz;have cD:=dm (show Kd.V (Kd.int .i64) 3 _ w.heap.size _ _ (nI ac ai) from vv cz cA);clear qJ sG qK cA cz;clear ei gf;have du:=dm dt;have jZ:=dm dr;clear dt dr;replace dT:=eq_true dT;replace dU:=eq_true dU;have ez:0<=(a6:Int):=nD;have eA:a6<((nI ac ai).length:Int):=nD;obtain⟨l1,iC,j0⟩:=oG (by repeat(first|(with_reducible exact du.out)|(with_reducible refine uL ?_ _)|(with_reducible refine uK ?_ _)|(with_reducible refine uo ?_)|exact du.out)) a6 ez eA;cases iC;replace ez:=eq_true ez;replace eA:=eq_true eA
          go_wp2_with (first|((with_reducible refine sj (b:=.append) (xs:= #[.tmp 86,.tmp 94]) rfl ?_);at_builtin;refine tL (Kd.int .i64) w.heap.size rfl (.tmp 86) (.tmp 94) 45 3 (.int .i64 0) 8 rfl Try.underlying45 info3 rfl (pF) (by omega) u8 bw (rd (nI ac ai) a6) [.int .i64 (rd (nI ac ai) a6)] (fun k_=>(w.heap.size<=k_)) (fun _=>False) rfl rfl ?aP (fun _ hk=>hk.elim) ?aF ?aO (Below.refl _ _) ?aS ?aL ?_;(case aP=>exact rfl);(case aF=>exact(fun k_ hk=>(Nat.le_trans (o7 (w:=w) (g:=g) (row:=none) (nU HK.out)) hk)));(case aO=>exact(nH bq.out));(case aS=>exact(o7 (w:=w) (g:=g) (row:=none) (nU HK.out)));(case aL=>have:=gb.out;omega);intro mP mQ ho hb hg hat;rw[←gH.out]at ho;have n0:=dm (FH (ok:=(fun k_=>(w.heap.size<=k_)/\some k_≠(.slice aN ag.length aM:Value).ownBlock/\k_≠ab/\k_≠ae/\k_≠g)) (by(with_reducible repeat(first|apply uB|apply uC|apply tZ));exact qx aZ.out (fun _ hk=>⟨⟨hk.1,⟨hk.2.2.1,⟨hk.2.2.2.1,⟨hk.2.2.2.2.1,hk.2.2.2.2.2⟩⟩⟩⟩,hk.2.1⟩)) hg hat);have n1:=dm (sU (nH aV.out) (sS (nH bq.out)) (pF) hg);have n2:=o_ aa hg (pG bq.out aa.out (pF));have n3:=o_ ah hg (pG bq.out ah.out (pF));have n4:=dm (nz.grown (oW) hg (nz.own_ne am.out bq.out (pF)));have n5:=dm (zX (ok:=(fun k_=>(w.heap.size<=k_)/\some k_≠(.slice (some dN) ac.length ce:Value).ownBlock/\some k_≠(.slice aN ag.length aM:Value).ownBlock/\k_≠ab/\k_≠ae/\k_≠g)) (by(with_reducible repeat(first|apply DU|apply DR|apply Bh));exact wW cD.out (fun _ hk=>⟨⟨hk.1.1,⟨hk.2,⟨hk.1.2.2.1,⟨hk.1.2.2.2.1,⟨hk.1.2.2.2.2.1,hk.1.2.2.2.2.2⟩⟩⟩⟩⟩,hk.1.2.1⟩)) hg hat);have n6:=dm (yU (qg HB.out) HL.out hb);have n7:=dm (ow.trans (nU HK.out) (ow.xe hg g) (Bf bq.out));have n8:=dm (ho);clear aZ aV aa ah am cD HB HK bq;revert n0 n1 n2 n3 n4 n5 n6 n7 n8;intro aZ aV aa ah am cD HB HK gJ;clear ho hb hg hat))
          go_roundg k1
          case measure=>have:=gY.out;omega
          case rel=>exact⟨(gc),(wrap64 (a6 - 1)),(by first|rfl|(simp;done)|(simp[*];done)),H',⟨by have:=gY.out;omega⟩,⟨by(with_reducible repeat(first|apply uB|apply uC|apply tZ));exact qx aZ.out (fun _ hk=>⟨hk.1.1,⟨hk.2,⟨hk.1.2.1,⟨hk.1.2.2.1,⟨hk.1.2.2.2.1,hk.1.2.2.2.2⟩⟩⟩⟩⟩)⟩,⟨nH gJ.out⟩,⟨nH aV.out⟩,⟨nG aa.out⟩,⟨nG ah.out⟩,⟨oW⟩,⟨nU HK.out⟩,⟨qg HB.out⟩⟩
         ·rw[if_neg cy]at H;have ga:=decide_eq_false cy;clear cy
          obtain⟨kS,H⟩:=oz H
          obtain⟨kT,H⟩:=oz H;obtain⟨gh,cg⟩:∃y_:List (List Int),y_=(ac.set (ai:Int).toNat bw):=⟨_,rfl⟩;replace H:(some (ak,ag,gh,aK))=some (r1,r2,r3,r4):=pE cg H
          have gK:=dm cg;clear cg;simp only[Option.some.injEq,Prod.mk.injEq]at H;obtain⟨rfl,rfl,rfl,rfl⟩:=H;have eB:0<=(ai:Int):=nD;have eC:(ai:Int)<((ac.length:Int):Int):=nD;obtain⟨bD,l2,fe,ff,gM,l3,fg⟩:=Jt aZ.out (by omega);(first|cases fe|(injection fe with ea_ en_ ec_;(first|subst ea_|(injection ea_ with ea_;subst ea_));subst ec_;clear en_));have gN:=dm ff;have l4:=dm fg;clear ff gM fg;(first|simp only[add_plain]at cv|skip);(first|simp only[add_plain]at dq|skip);obtain⟨l5,gi,fh,ej,ek⟩:=Cg aZ.out [] (ai:Int) eB eC;obtain⟨j1,j2,rfl,j3,j4⟩:=uH fh;have fp:=ej 0 _ rfl;have fq:=ek 0;(try simp only[show((Kd.slice 3 (Kd.int .i64))).sz=1 from rfl,Nat.mul_one,Nat.add_zero]at fp);(try simp only[show((Kd.slice 3 (Kd.int .i64))).sz=1 from rfl,Nat.mul_one,Nat.add_zero]at fq);clear gi ej ek;(try clear fh);replace eB:=eq_true eB;replace eC:=eq_true eC;have fi:=dm (show Kd.N (Kd.slice 3 (Kd.int .i64)) 45 wr w.heap.size (fun k_=>(w.heap.size<=k_)/\some k_≠(.slice aN ag.length aM:Value).ownBlock/\k_≠ab/\k_≠ae/\k_≠g) (.slice (some ⟨bD,0,none⟩) ac.length ce) ac from(by(with_reducible repeat(first|apply uB|apply uC|apply tZ));exact qx aZ.out (fun _ hk=>⟨hk.1,⟨hk.2.2.1,⟨hk.2.2.2.1,⟨hk.2.2.2.2.1,hk.2.2.2.2.2⟩⟩⟩⟩)));obtain⟨l6,el,fj,da,em⟩:=Cg fi.out [] (ai:Int) nD (by have h_:(ai:Int)<((ac.length:Int):Int):=nD;first|exact h_|(have e_:=(qO aZ.out).1;omega)|simpa using h_);obtain⟨j5,j6,rfl,j7,j8⟩:=uH fj;obtain⟨gZ,g0,kU⟩:=nW bq.out;subst kU;have ch:=JP fi.out (ai:Int) nD (by have h_:(ai:Int)<((ac.length:Int):Int):=nD;first|exact h_|(have e_:=(qO aZ.out).1;omega)|simpa using h_) (seg:=[(.slice gZ bw.length g0)]) (j:=0) el da (show 1<=1 from by decide) (x':=bw) (CZ (nM (nL (ok':=(fun k_=>((fun k_=>(w.heap.size<=k_)/\some k_≠(.slice aN ag.length aM:Value).ownBlock/\k_≠ab/\k_≠ae/\k_≠g)) k_/\k_≠bD)) (nz.apart am.out (oK (oK (wD (wD (bq.out) (sS aV.out) (pF)) (xG aZ.out) (pF)) aa.out (pF)) ah.out (pF)) (pF)) (fun k_ hk=>⟨⟨hk.1.1.1.1.1,⟨hk.1.1.1.1.2,⟨hk.1.1.2,⟨hk.1.2,hk.2⟩⟩⟩⟩,fun e_=>(hk.1.1.1.2) (by rw[e_];rfl)⟩))).2.1 (Kd.R_F (nL (ok':=(fun k_=>((fun k_=>(w.heap.size<=k_)/\some k_≠(.slice aN ag.length aM:Value).ownBlock/\k_≠ab/\k_≠ae/\k_≠g)) k_/\k_≠bD)) (nz.apart am.out (oK (oK (wD (wD (bq.out) (sS aV.out) (pF)) (xG aZ.out) (pF)) aa.out (pF)) ah.out (pF)) (pF)) (fun k_ hk=>⟨⟨hk.1.1.1.1.1,⟨hk.1.1.1.1.2,⟨hk.1.1.2,⟨hk.1.2,hk.2⟩⟩⟩⟩,fun e_=>(hk.1.1.1.2) (by rw[e_];rfl)⟩)))) (fun _ hk=>hk);have ft:=da 0 _ rfl;(try simp only[show((Kd.slice 3 (Kd.int .i64))).sz=1 from rfl,Nat.mul_one,Nat.add_zero]at ft);have fu:=em 0;(try simp only[show((Kd.slice 3 (Kd.int .i64))).sz=1 from rfl,Nat.mul_one,Nat.add_zero]at fu);clear el da em;(try clear fj);(try simp only[show((Kd.slice 3 (Kd.int .i64))).sz=1 from rfl,Nat.mul_one,Nat.add_zero]at ch);(try simp only[show((Kd.slice 3 (Kd.int .i64))).sz=1 from rfl,Nat.mul_one,Nat.add_zero]at ch)
          go_wp2_with (first|((with_reducible refine zP (t:=45) (p:=99) rfl ?_);refine zN (t:=45) (p:=99) (v:= ?vo_w146) (w1:=(wr.setCell ⟨bD,(ai:Int).toNat,none⟩ ((.slice gZ bw.length g0)))) ?hg ?ho ?hn ?hr ?_;(case ho=>rfl);(case hg=>rfl);(case hn=>rfl);(case hr=>first|(go_simp;done)|(go_simp;rfl));intro db hw;have hg:wr.grownBy db (some bD):=(by rw[hw];exact ch.2);have hp_:Kd.N (Kd.slice 3 (Kd.int .i64)) 45 db w.heap.size (fun k_=>(w.heap.size<=k_)/\some k_≠(.slice aN ag.length aM:Value).ownBlock/\k_≠ab/\k_≠ae/\k_≠g) (.slice (some ⟨bD,0,none⟩) ac.length ce) gh:=(by rw[hw,gK.out];exact ch.1);clear ch;have n0:=dm (hp_);have n1:=dm (sU (v:=(.slice (some ⟨bD,0,none⟩) ac.length ce)) (nH aV.out) (xG aZ.out) (pF) hg);have n2:=o_ aa hg (xR aZ.out aa.out (pF));have n3:=o_ ah hg (xR aZ.out ah.out (pF));have n4:=dm (nz.grown (oW) hg (nz.zb am.out aZ.out (pF)));have n5:=dm ((by rw[hw];exact rX (HB.out) (Nat.le_trans HL.out gN.out):Below w0.heap.size w0 db));have n6:=dm (ow.trans (nU HK.out) (ow.xe hg g) (BQ aZ.out));clear aZ aV aa ah am HB HK bq;revert n0 n1 n2 n3 n4 n5 n6;intro aZ aV aa ah am HB HK;clear hg hw hp_;have kV:=aE.out;have kW:=az.out;have kX:=av.out;have kY:=aT.out;have⟨iD,iE,iF,iG⟩:=nK (w:=db) ah;have kZ:=au.out;have k0:=aW.out;have⟨iH,iI,iJ,iK⟩:=nK (w:=db) aa))
          refine bodyPost_ret (wS rfl _ _ ab 31 #[.int .i64 ak,.slice aN ag.length aM] (0,0) _ rfl (Aq) Try.underlying31 rfl (yO)) rfl ?_;exact⟨_,_,qD,by(with_reducible repeat(first|apply nY|apply nZ|apply nN));exact nL (nR (p:=⟨ab,1,none⟩) (nR (p:=⟨ab,0,none⟩) (oK aV.out aa.out (pF)) (fun _ hk=>hk.2) (.int .i64 ak)) (fun _ hk=>hk.2) (.slice aN ag.length aM)) (fun _ hk=>hk.1),by(with_reducible repeat(first|apply uB|apply uC|apply tZ));exact qx (vD (p:=⟨ab,1,none⟩) (vD (p:=⟨ab,0,none⟩) (qx aZ.out (fun k_ hk=>(⟨hk,hk.2.2.1⟩:_/\k_≠ab))) (fun _ hk=>hk.2) (.int .i64 ak)) (fun _ hk=>hk.2) (.slice aN ag.length aM)) (fun _ hk=>⟨hk.1.1,hk.1.2.1⟩),oW,qg HB.out,nU HK.out⟩
      ·rw[if_neg bX]at H;have ef:=beq_eq_false_iff_ne.mpr bX;have eg:=bne_iff_ne.mpr bX;simp only[Option.some.injEq,Prod.mk.injEq]at H;obtain⟨rfl,rfl,rfl,rfl⟩:=H
       go_enter Try.func71,Try.ntmps71
       go_wp2_with (first|((with_reducible refine nP 2 rfl ?_);refine om 2 #[.int .i64 0,.slice none 0 0] 31 ?_;intro ab hg mR nu hb;replace HB:=dm (oL (qg HB.out) hb);have aa:=dm (nu);have bG:=dm (sV:w.heap.size<=ab);have bH:=dm (Nat.le_trans br.out (sV:w.heap.size<=ab):w0.heap.size<=ab);replace HK:=oV HK hb;have aW:=dm (Az:g≠ab);have au:=dm (Au:ab≠g);replace am:=dm (nz.below (oW) hb);clear hb nu hg)|((with_reducible refine oh 73 rfl ?_);refine og 11 Try.func73 #[.pointer (some ⟨g,0,none⟩)] ?_;(with_reducible refine(pK.calls k g ao bf ak ag aC w0 _ ?ng ?ni A2.out).mono ?_);(case ng=>exact oW);(case ni=>exact qg HB.out);rintro e mS ⟨cj,rfl,aG,hi,hb,hk⟩;refine⟨_,rfl,?_⟩;replace aa:=oI aa au hk;have af:=dm (oF (xJ (M:=fun k_=>(w.heap.size<=k_)) aG (o7 (w:=w) (g:=g) (row:=none) (nU HK.out)) (fun k_ h_=>h_)) (o7 (w:=w) (g:=g) (row:=none) (nU HK.out)));replace HK:=pR HK hk;replace HB:=dm (hb);replace am:=dm (hi);(try clear hb hk hi aG))|((with_reducible refine nP 4 rfl ?_);refine om 4 #[.int .i64 0,.slice none 0 0] 31 ?_;intro ae hg gj nu hb;have n0:=ou af hb;have n1:=dm (nz.below (oW) hb);have n2:=nA aa hb;have n3:=oV HK hb;have n4:=dm (oL (qg HB.out) hb);have n5:=dm (nu);have n6:=dm (sV:w.heap.size<=ae);have n7:=dm (Nat.le_trans br.out (sV:w.heap.size<=ae):w0.heap.size<=ae);have n8:=dm (AA:ab≠ae);have n9:=dm (Ak:ae≠ab);have bx:=dm (Ap:g≠ae);have bz:=dm (Am:ae≠g);clear af am aa HK HB;revert n0 n1 n2 n3 n4 n5 n6 n7 n8 n9 bx bz;intro af am aa HK HB ah bI bJ az aE aT av;clear hb nu hg;have k2:=aE.out;have k3:=az.out;have k4:=av.out;have k5:=aT.out;have⟨iL,iM,iN,iO⟩:=nK (w:=gj) ah;obtain⟨bd,ba,gO⟩:=nW af.out;subst gO)|((with_reducible refine oh 22 rfl ?_);refine og 14 Try.func22 #[.agg #[.int .i64 ak,.slice bd ag.length ba]] ?_;(with_reducible refine(oU.calls k ak _ _ ag ac bV _ ?ng ?ni A3.out).mono ?_);(case ng=>refine(nM (e:=59) (base:=w.heap.size) (ok:=fun k_=>((w.heap.size<=k_)/\True)) (n:=ag.length) (c:=ba) ?_).2.2;exact(GV));(case ni=>exact(nM af.out).2.1);rintro e mT ⟨ck,rfl,aG,hb⟩;refine⟨_,rfl,?_⟩;have aj:=dm (xX (qx (ok':=fun k_=>(w.heap.size<=k_)/\some k_≠(.slice bd ag.length ba:Value).ownBlock/\k_≠ab/\k_≠ae/\k_≠g) (Kd.S_N (yw aG)) (fun k_ hk_=>⟨(Nat.le_trans (o7 (w:=w) (g:=g) (row:=none) (nU HK.out)) hk_.2.1),(Kd.fresh' (oN (GV)) k_ hk_.2.1),(rG (g:=ab) (o:=.cells #[.int .i64 0,.slice none 0 0] 31 (0,0)) (wN) k_ hk_.2.1),(rG (g:=ae) (o:=.cells #[.int .i64 ak,.slice bd ag.length ba] 31 (0,0)) (wO) k_ hk_.2.1),(nz.fresh (oW) k_ hk_.2.1)⟩)) (o7 (w:=w) (g:=g) (row:=none) (nU HK.out)));replace af:=dm (uf (GV) hb);replace aa:=dm (rO (g:=ab) (o:=.cells #[.int .i64 0,.slice none 0 0] 31 (0,0)) (wN) hb);replace ah:=dm (rO (g:=ae) (o:=.cells #[.int .i64 ak,.slice bd ag.length ba] 31 (0,0)) (wO) hb);replace HK:=oV HK hb;replace HB:=dm (oL (qg HB.out) hb);replace am:=dm (nz.below (show nz w0 ((gj.setCell ⟨ae,0,none⟩ (.int .i64 ak)).setCell ⟨ae,1,none⟩ (.slice bd ag.length ba)) g ao aC from oW) hb);(try clear hb aG);obtain⟨l7,l8,gP⟩:=yZ aj.out;subst gP)|((with_reducible refine oh 104 rfl ?_);refine og 26 Try.func104 #[.pointer (some ⟨g,0,none⟩),.int .i64 (ac.length:Int)] ?_;(with_reducible refine(oP.calls k g ao aC (ac.length:Int) ai a3 w0 _ ?ng ?ni cO.out).mono ?_);(case ng=>exact oW);(case ni=>exact qg HB.out);rintro e mU ⟨rfl,hi,hb,hk⟩;refine⟨_,rfl,?_⟩;replace aa:=oI aa au hk;replace af:=dm (nL (qi (nz.apart (show nz w0 _ g ao aC from oW) (nH af.out) (pF)) hk (fun _ h=>h.2)) (fun _ h=>h.1));replace ah:=oI ah av hk;replace aj:=dm (qx (xY (qx (ok:=fun k_=>(((w.heap.size<=k_))/\(some k_≠(.slice bd ag.length ba:Value).ownBlock/\(k_≠ab/\(k_≠ae/\k_≠g))))) (uE) (fun k_ hk_=>(⟨hk_,hk_.2.2.2.2⟩:_/\k_≠g))) hk (fun _ h=>h.2)) (fun _ h=>h.1));replace HK:=pR HK hk;replace HB:=dm (hb);replace am:=dm (hi);(try clear hb hk hi))|((with_reducible refine oh 104 rfl ?_);refine og 28 Try.func104 #[.pointer (some ⟨g,0,none⟩),.int .i64 8] ?_;(with_reducible refine(oP.calls k g ao a3 8 aB aK w0 _ ?ng ?ni cP.out).mono ?_);(case ng=>exact oW);(case ni=>exact qg HB.out);rintro e gl ⟨rfl,hi,hb,hk⟩;refine⟨_,rfl,?_⟩;replace aa:=oI aa au hk;replace af:=dm (nL (qi (nz.apart (show nz w0 _ g ao a3 from oW) (nH af.out) (pF)) hk (fun _ h=>h.2)) (fun _ h=>h.1));replace ah:=oI ah av hk;replace aj:=dm (qx (xY (qx (ok:=fun k_=>(((w.heap.size<=k_))/\(some k_≠(.slice bd ag.length ba:Value).ownBlock/\(k_≠ab/\(k_≠ae/\k_≠g))))) (uE) (fun k_ hk_=>(⟨hk_,hk_.2.2.2.2⟩:_/\k_≠g))) hk (fun _ h=>h.2)) (fun _ h=>h.1));replace HK:=pR HK hk;replace HB:=dm (hb);replace am:=dm (hi);(try clear hb hk hi);have⟨iP,iQ,iR,iS⟩:=nK (w:=gl) ah;have k6:=au.out;have k7:=aW.out;have⟨iT,iU,iV,iW⟩:=nK (w:=gl) aa))
       refine bodyPost_ret (wS rfl _ _ ab 31 #[.int .i64 ak,.slice bd ag.length ba] (0,0) _ rfl (Aq) Try.underlying31 rfl (yO)) rfl ?_;exact⟨_,_,qD,by(with_reducible repeat(first|apply nY|apply nZ|apply nN));exact nL (nR (p:=⟨ab,1,none⟩) (nR (p:=⟨ab,0,none⟩) (oK af.out aa.out (pF)) (fun _ hk=>hk.2) (.int .i64 ak)) (fun _ hk=>hk.2) (.slice bd ag.length ba)) (fun _ hk=>hk.1.1),by(with_reducible repeat(first|apply uB|apply uC|apply tZ));exact qx (vD (p:=⟨ab,1,none⟩) (vD (p:=⟨ab,0,none⟩) (qx aj.out (fun k_ hk=>(⟨hk,hk.2.2.1⟩:_/\k_≠ab))) (fun _ hk=>hk.2) (.int .i64 ak)) (fun _ hk=>hk.2) (.slice bd ag.length ba)) (fun _ hk=>⟨hk.1.1,hk.1.2.1⟩),oW,qg HB.out,nU HK.out⟩
theorem Bu {B:Nat}{w w1 w2:World}(H:Below B w w1) (h:Below B w w2:=by repeat(first|(with_reducible first|exact HB.out|apply sZ|apply uG|apply o9)|(with_reducible refine rX ?_ (lm.out (by assumption)))|(with_reducible refine rX ?_ (nz.ge ay.out))|exact HB.out)):Below B w w2:=h
def zI.f (k:Nat) (l0:List Int):Option (Int× (List (S59))× (List (List Int))):=(zM.f l0).bind fun ag=>((rD.f k ag.1 ag.2).bind fun ac=>(some (ac.1,ac.2.1,ac.2.2.1)))
theorem zI.calls (k:Nat) (A0:Option Addr) (c0:Nat) (l0:List Int) (r1:Int) (r2:List (S59)) (r3:List (List Int)) (w:World) (az:Kd.C (Kd.int .u8) w A0 l0.length l0) (aA:l0.length<=c0) (h:zI.f k l0=some (r1,r2,r3)):
  Calls Try.prog 27 #[.slice A0 l0.length c0] w fun e w'=>∃aq aB:Value,e=.returned (.tuple #[.agg #[.int .i64 r1,aq],aB])/\Kd.R k59 59 w' w.heap.size (fun k_=>(w.heap.size<=k_)) aq r2/\Kd.N (Kd.slice 3 (Kd.int .i64)) 45 w' w.heap.size (fun k_=>(w.heap.size<=k_)/\some k_≠(aq:Value).ownBlock) aB r3/\Below w.heap.size w w':=by
 have aO:=Try.underlying31;have aF:=dm az;have aG:=dm aA;clear az aA;have HB:=dm (Below.refl w.heap.size w);unfold zI.f at h;have H:=h;clear h;obtain⟨⟨ak,al⟩,A2,H⟩:=ol H;(try dsimp only at H);obtain⟨⟨ah,aj,au,aD⟩,A3,H⟩:=ol H;(try dsimp only at H);simp only[Option.some.injEq,Prod.mk.injEq]at H;obtain⟨rfl,rfl,rfl⟩:=H
 go_enter Try.func27,Try.ntmps27
 go_wp2_with (first|((with_reducible refine nP 2 rfl ?_);refine om 2 #[.int .i64 0,.slice none 0 0] 31 ?_;intro aa hg w4 nu hb;have ab:=dm (nu);have aM:=dm ((by rw[hg];exact(nX (nC HB.out)):w.heap.size<=aa));have aN:=dm ((by rw[hg];exact(nX (nC HB.out)):w.heap.size<=aa));replace HB:=nJ HB hb;clear hb nu hg)|((with_reducible refine oh 72 rfl ?_);refine og 5 Try.func72 #[.slice A0 l0.length c0] ?_;(with_reducible refine(zM.calls _ _ l0 ak al w _ ?ng ?ni ?sF A2.out).mono ?_);(case ng=>exact nC HB.out);(case ni=>exact aF.out);(case sF=>exact aG.out);rintro e w5 ⟨am,rfl,hi,hb,ao⟩;refine⟨_,rfl,?_⟩;replace HB:=dm (hb);have af:=dm (hi);have ae:=dm (nz.Jp hi (rO (g:=aa) (o:=.cells #[.int .i64 0,.slice none 0 0] 31 (0,0)) (nG ab.out) ao) (by decide));have ai:=dm (Ne.symm (nz.Jp hi (rO (g:=aa) (o:=.cells #[.int .i64 0,.slice none 0 0] 31 (0,0)) (nG ab.out) ao) (by decide)));replace ab:=dm (rO (g:=aa) (o:=.cells #[.int .i64 0,.slice none 0 0] 31 (0,0)) (nG ab.out) ao);(try clear hb ao hi))|((with_reducible refine oh 71 rfl ?_);refine og 6 Try.func71 #[.pointer (some ⟨am,0,none⟩)] ?_;(with_reducible refine(rD.calls k am ak al ah aj au aD w _ ?ng ?ni A3.out).mono ?_);(case ng=>repeat(first|(with_reducible first|exact af.out|apply nz.alloc|apply nz.drewN|apply nz.drew|apply nz.yD|refine nz.far ?_ ae.out _)|exact af.out));(case ni=>exact Bu HB.out);rintro e w6 ⟨aE,aP,rfl,aC,ho1,hi,hb,hk⟩;refine⟨_,rfl,?_⟩;have ap:=dm (oF (xJ (M:=fun k_=>(w.heap.size<=k_)) (nL (ok':=fun k_=>True) aC (fun _ hk_=>trivial)) (nX (Bu HB.out)) (fun k_ h_=>h_)) (nX (Bu HB.out)));have ax:=dm (xX (qx (ok':=fun k_=>(w.heap.size<=k_)/\some k_≠(aE:Value).ownBlock/\k_≠aa/\k_≠am) ho1 (fun k_ hk_=>⟨(Nat.le_trans (nX (Bu HB.out)) hk_.1),hk_.2,(rG (g:=aa) (o:=.cells #[.int .i64 0,.slice none 0 0] 31 (0,0)) (nG ab.out) k_ hk_.1),(nz.fresh (by repeat(first|(with_reducible first|exact af.out|apply nz.alloc|apply nz.drewN|apply nz.drew|apply nz.yD|refine nz.far ?_ ae.out _)|exact af.out)) k_ hk_.1)⟩)) (nX (Bu HB.out)));replace ab:=oI ab ai hk;replace HB:=dm (hb);replace af:=dm (hi);(try clear hb hk hi aC ho1);have aQ:=ai.out;have aR:=ae.out;have⟨aH,aI,aJ,aK⟩:=nK (w:=w6) ab;obtain⟨av,aw,aL⟩:=nW ap.out;subst aL))
 refine bodyPost_ret (wS rfl _ _ aa 31 #[.int .i64 ah,.slice av aj.length aw] (0,0) _ rfl (oJ ab.out) Try.underlying31 rfl (by kernel_rfl)) rfl ?_;exact⟨_,_,qD,by(with_reducible repeat(first|apply nY|apply nZ|apply nN));exact nL (nR (p:=⟨aa,1,none⟩) (nR (p:=⟨aa,0,none⟩) (oK ap.out ab.out (by decide)) (fun _ hk=>hk.2) (.int .i64 ah)) (fun _ hk=>hk.2) (.slice av aj.length aw)) (fun _ hk=>hk.1.1),by(with_reducible repeat(first|apply uB|apply uC|apply tZ));exact qx (vD (p:=⟨aa,1,none⟩) (vD (p:=⟨aa,0,none⟩) (qx ax.out (fun k_ hk=>(⟨hk,hk.2.2.1⟩:_/\k_≠aa))) (fun _ hk=>hk.2) (.int .i64 ah)) (fun _ hk=>hk.2) (.slice av aj.length aw)) (fun _ hk=>⟨hk.1.1,hk.1.2.1⟩),Bu HB.out⟩
theorem Kq {p:Prop}(h:p:=by exact oJ ap.out):p:=h
theorem KN {p:Prop}(h:p:=by exact oJ ae.out):p:=h
theorem J7 {p:Prop}(h:p:=by exact oJ af.out):p:=h
theorem KE {p:Prop}(h:p:=by exact oJ ag.out):p:=h
theorem Ka {p:Prop}(h:p:=by(with_reducible repeat(first|apply nY|apply nZ|apply nN));exact(nL (nR (p:=⟨aj,1,none⟩) (nR (p:=⟨aj,0,none⟩) (nL ac.out (fun k_ hk=>(⟨hk,hk.2⟩:_/\k_≠aj))) (fun _ hk=>hk.2) (.int .i64 ((ny aa ab).f0))) (fun _ hk=>hk.2) (.int .i64 ((ny aa ab).f1))) (fun _ h_=>h_.1))):p:=h
theorem K5 {p:Prop}(h:p:=by rw[hg];exact Nat.ne_of_lt (oQ (g:=ao) (o:=.cells #[.int .i64 ai,.slice (some aM) aa.length ay] 31 (0,0)) (nG ae.out))):p:=h
theorem La {p:Prop}(h:p:=by rw[hg];exact Nat.ne_of_gt (oQ (g:=ao) (o:=.cells #[.int .i64 ai,.slice (some aM) aa.length ay] 31 (0,0)) (nG ae.out))):p:=h
theorem KV {p:Prop}(h:p:=by rw[hg];exact Nat.ne_of_lt (oQ (g:=ao) (o:=.cells #[.int .i64 ai,.slice aU aa.length ay] 31 (0,0)) (nG ae.out))):p:=h
theorem KU {p:Prop}(h:p:=by rw[hg];exact Nat.ne_of_gt (oQ (g:=ao) (o:=.cells #[.int .i64 ai,.slice aU aa.length ay] 31 (0,0)) (nG ae.out))):p:=h
theorem GG {p:Prop}(h:p:=by rw[hg];exact Nat.ne_of_lt (oQ (g:=al) (o:=.cells #[.int .i64 0,.slice none 0 0] 31 (0,0)) (nG af.out))):p:=h
theorem Gr {p:Prop}(h:p:=by rw[hg];exact Nat.ne_of_gt (oQ (g:=al) (o:=.cells #[.int .i64 0,.slice none 0 0] 31 (0,0)) (nG af.out))):p:=h
theorem yo {p:Prop}(h:p:=by rw[hg];exact(nX (nC HB.out))):p:=h
def uz.l0:Nat->List (S59)->List (S59)->Int->Int->Int->List (S59)->Option (Int× (List (S59)))
 |0,_,_,_,_,_,_=>none
 |k+1,x1,aY,bz,aN,aV,aI=>if aN<bz then(if 0<=aN then(if aN<(aY.length:Int) then((uF.f k x1 ((ny aY aN).f0) ((ny aY aN).f1)).bind fun a4=>(if a4=true then(uz.l0 k x1 aY bz (wrap64 (aN+1)) aV aI) else(if aI.length<8796093022208 then(uz.l0 k x1 aY bz (wrap64 (aN+1)) aV (aI++[(⟨(ny aY aN).f0,(ny aY aN).f1⟩:S59)])) else(none)))) else(none)) else(none)) else(some (aV,aI))
def uz.f (k:Nat) (ai:Int) (aa:List (S59)) (l1:List (S59)):Option (Int× (List (S59))):=uz.l0 k l1 aa (aa.length:Int) 0 ai (([]:List (S59)))
theorem uz.calls (k:Nat) (ai:Int) (aU:Option Addr) (ay:Nat) (aa:List (S59)) (A1:Option Addr) (c1:Nat) (l1:List (S59)) (r1:Int) (r2:List (S59)) (w:World) (ba:Kd.C k59 w aU aa.length aa) (bc:aa.length<=ay) (hr1:Kd.C k59 w A1 l1.length l1) (bQ:l1.length<=c1) (h:uz.f k ai aa l1=some (r1,r2)):
  Calls Try.prog 66 #[.agg #[.int .i64 ai,.slice aU aa.length ay],.slice A1 l1.length c1] w fun e w'=>∃bR:Value,e=.returned (.agg #[.int .i64 r1,bR])/\Kd.R k59 59 w' w.heap.size (fun _=>True) bR r2/\Below w.heap.size w w':=by
 have dq:=Try.underlying31;have dr:=Try.underlying59;have bd:=dm ba;have cD:=dm bc;clear ba bc;have bS:=dm hr1;have bT:=dm bQ;clear hr1 bQ;have HB:=dm (Below.refl w.heap.size w);unfold uz.f at h;have H:=h;clear h;obtain⟨a5,aQ⟩:∃y_:List (S59),y_=(([]:List (S59))):=⟨_,rfl⟩;replace H:(uz.l0 k l1 aa (aa.length:Int) 0 ai a5)=some (r1,r2):=pE aQ H
 have bf:=dm aQ;clear aQ;have H':=dm H;clear H
 go_enter Try.func66,Try.ntmps66
 go_wp2_with (first|((with_reducible refine nP 2 rfl ?_);refine om 2 #[.int .i64 ai,.slice aU aa.length ay] 31 ?_;intro ao hg w3 nu hb;have ae:=dm (nu);have cE:=dm (yo:w.heap.size<=ao);have cF:=dm (yo:w.heap.size<=ao);replace HB:=nJ HB hb;clear hb nu hg)|((with_reducible refine nP 4 rfl ?_);refine om 4 #[.int .i64 0,.slice none 0 0] 31 ?_;intro al hg w4 nu hb;have af:=dm (nu);have cG:=dm (yo:w.heap.size<=al);have cH:=dm (yo:w.heap.size<=al);replace HB:=nJ HB hb;have aW:=dm (KV:ao≠al);have aX:=dm (KU:al≠ao);replace ae:=nA ae hb;clear hb nu hg;have dt:=aW.out;have du:=aX.out;have⟨bA,bB,bC,bD⟩:=nK (w:=w4) ae)|((with_reducible refine nP 10 rfl ?_);refine rU k59 _ 59 ?hg (N:=10) ?hd (xs:=([]:List (S59))) (inner:=[]) (ok:=fun _=>True) (okp:=fun _=>True) ?hr ?hp (fun _ hk=>hk) trivial (Below.refl _ _) (Nat.le_refl _) (by simp) ?_;(case hd=>rfl);(case hg=>rfl);(case hr=>first|(go_simp;done)|(go_simp;rfl));(case hp=>exact(oq.none _ _));intro dv w7 a8 hb hg_ pq;clear hg_ pq;(first|rw[←bf.out]at a8|(simp only[Int.reduceToNat]at a8;rw[←bf.out]at a8));have aR:=dm (oF a8 (nX (nC HB.out)));replace ae:=nA ae hb;replace af:=nA af hb;replace HB:=nJ HB hb;clear hb a8;obtain⟨bU,bV,cw⟩:=nW aR.out;subst cw)|((with_reducible refine nP 5 rfl ?_);refine om 5 #[.int .i64 0,.slice none 0 0] 31 ?_;intro ak hg bW nu hb;have n0:=ou aR hb;have n1:=nA ae hb;have n2:=nA af hb;have n3:=nJ HB hb;have n4:=dm (nu);have n5:=dm (yo:w.heap.size<=ak);have n6:=dm (yo:w.heap.size<=ak);have n7:=dm (KV:ao≠ak);have n8:=dm (KU:ak≠ao);have n9:=dm (GG:al≠ak);have a9:=dm (Gr:ak≠al);clear aR ae af HB;revert n0 n1 n2 n3 n4 n5 n6 n7 n8 n9 a9;intro aR ae af HB ag cI cJ aq aC au aD;clear hb nu hg;have cL:=aC.out;have cM:=aq.out;have cN:=aD.out;have cO:=au.out;have⟨bo,bp,bq,br⟩:=nK (w:=bW) ag;have⟨bu,bv,bw,bx⟩:=nK (w:=bW) ae))
 go_loopg [15] k (fun kq cx w'=>∃ (ab:Int) (ah:List (S59)) (am:Value),cx=.int .i64 ab/\lm (uz.l0 kq l1 aa (aa.length:Int) ab ai ah=some (r1,r2))/\lm (kq<=k)/\lm (Kd.R k59 59 w' w.heap.size (fun _=>True) am ah)/\lm (w'.heap[ao]? =some (.cells #[.int .i64 ai,(.slice aU aa.length ay)] 31 (0,0)))/\lm (w'.heap[al]? =some (.cells #[.int .i64 0,(.slice none 0 0)] 31 (0,0)))/\lm (w'.heap[ak]? =some (.cells #[.int .i64 ai,am] 31 (0,0)))/\lm (Below w.heap.size w w'))
 case atStart=>exact⟨(0),(a5),(.slice bU a5.length bV),(by first|rfl|(simp;done)|(simp[*];done)),H',⟨Nat.le_refl _⟩,⟨by(with_reducible repeat(first|apply nY|apply nZ|apply nN));exact nL (nR (p:=⟨ak,1,none⟩) (nR (p:=⟨ak,0,none⟩) (oK aR.out ag.out (by decide)) (fun _ hk=>hk.2) (.int .i64 ai)) (fun _ hk=>hk.2) (.slice bU a5.length bV)) (fun _ hk=>trivial)⟩,⟨oJ ae.out⟩,⟨oJ af.out⟩,⟨oJ ag.out⟩,⟨nC HB.out⟩⟩
 case round=>
  clear H';(try clear bo bp bu bv bA bB bq br bw bx bC bD);obtain⟨ab,ah,am,rfl,HA,bh,ac,ae,af,ag,HB⟩:=hrel;cases gk with
  |zero=>exact absurd HA.out (by simp[uz.l0])
  |succ k1=>
   have H:=HA.out;clear HA;simp only[uz.l0]at H
   by_cases a3:ab<(aa.length:Int)
   ·rw[if_pos a3]at H;have bL:=decide_eq_true a3;clear a3
    obtain⟨cP,H⟩:=oz H
    obtain⟨cQ,H⟩:=oz H;obtain⟨a4,bX,H⟩:=ol H;(try dsimp only at H)
    rcases pJ H with⟨h_,H_⟩|⟨h_,H_⟩<;> (subst h_;clear H;have H:=H_;clear H_)
    ·have H':=dm H;clear H;have aJ:0<=(ab:Int):=nD;have aK:ab<(aa.length:Int):=nD;obtain⟨aM,a_,az,aA⟩:=qC bd.out ab aJ aK;cases a_;replace az:=nE HB az;replace aA:=nE HB aA;replace aJ:=eq_true aJ;replace aK:=eq_true aK
     go_wp2_with (first|((with_reducible refine nP 7 rfl ?_);refine om 7 #[.int .i64 0,.int .i64 0] 59 ?_;intro aj hg cy nu hb;have n0:=dm (uf (DD (nH ac.out) aj (Nat.le_of_eq hg.symm)) hb);have n1:=nA ae hb;have n2:=nA af hb;have n3:=nA ag hb;have n4:=nJ HB hb;have n5:=dm (nu);have n6:=dm (yo:w.heap.size<=aj);have n7:=dm (yo:w.heap.size<=aj);have n8:=dm (K5:ao≠aj);have n9:=dm (La:aj≠ao);have a9:=dm (GG:al≠aj);have bE:=dm (Gr:aj≠al);have bF:=dm ((by rw[hg];exact Nat.ne_of_lt (oQ (g:=ak) (o:=.cells #[.int .i64 ai,am] 31 (0,0)) (nG ag.out)):ak≠aj));have bG:=dm ((by rw[hg];exact Nat.ne_of_gt (oQ (g:=ak) (o:=.cells #[.int .i64 ai,am] 31 (0,0)) (nG ag.out)):aj≠ak));clear ac ae af ag HB;revert n0 n1 n2 n3 n4 n5 n6 n7 n8 n9 a9 bE bF bG;intro ac ae af ag HB ap bM bN av aE aw aG ax aH;clear hb nu hg;have cS:=aE.out;have cT:=av.out;have cU:=aG.out;have cW:=aw.out;have cX:=aH.out;have cY:=ax.out;have⟨b2,b3,b4,b5⟩:=nK (w:=cy) ap)|((with_reducible refine oh 81 rfl ?_);refine og 21 Try.func81 #[.slice A1 l1.length c1,.agg #[.int .i64 ((ny aa ab).f0),.int .i64 ((ny aa ab).f1)]] ?_;(with_reducible refine(uF.calls k1 _ _ l1 ((ny aa ab).f0) ((ny aa ab).f1) true _ ?ng ?ni bX.out).mono ?_);(case ng=>exact nT bS.out (nC HB.out));(case ni=>exact bT.out);rintro e dx ⟨rfl,hb⟩;refine⟨_,rfl,?_⟩;replace ac:=dm (uf (Ka) hb);replace ae:=dm (rO (g:=ao) (o:=.cells #[.int .i64 ai,.slice (some aM) aa.length ay] 31 (0,0)) (KN) hb);replace af:=dm (rO (g:=al) (o:=.cells #[.int .i64 0,.slice none 0 0] 31 (0,0)) (J7) hb);replace ag:=dm (rO (g:=ak) (o:=.cells #[.int .i64 ai,am] 31 (0,0)) (KE) hb);replace ap:=dm (rO (g:=aj) (o:=.cells #[.int .i64 ((ny aa ab).f0),.int .i64 ((ny aa ab).f1)] 59 (0,0)) (Kq) hb);replace HB:=nJ HB hb;(try clear hb)))
     go_roundg k1
     case measure=>have:=bh.out;omega
     case rel=>exact⟨(wrap64 (ab+1)),(ah),(am),(by first|rfl|(simp;done)|(simp[*];done)),H',⟨by have:=bh.out;omega⟩,⟨by(with_reducible repeat(first|apply nY|apply nZ|apply nN));exact nL ac.out (fun _ hk=>trivial)⟩,⟨nG ae.out⟩,⟨nG af.out⟩,⟨nG ag.out⟩,⟨nC HB.out⟩⟩
    ·skip
     obtain⟨bm,H⟩:=qd H;have bO:=dm bm;clear bm;obtain⟨a6,aT⟩:∃y_:List (S59),y_=(ah++[(⟨(ny aa ab).f0,(ny aa ab).f1⟩:S59)]):=⟨_,rfl⟩;replace H:(uz.l0 k1 l1 aa (aa.length:Int) (wrap64 (ab+1)) ai a6)=some (r1,r2):=pE aT H
     have bP:=dm aT;clear aT;have H':=dm H;clear H;have aJ:0<=(ab:Int):=nD;have aK:ab<(aa.length:Int):=nD;obtain⟨aM,a_,az,aA⟩:=qC bd.out ab aJ aK;cases a_;replace az:=nE HB az;replace aA:=nE HB aA;replace aJ:=eq_true aJ;replace aK:=eq_true aK
     go_wp2_with (first|((with_reducible refine nP 7 rfl ?_);refine om 7 #[.int .i64 0,.int .i64 0] 59 ?_;intro aj hg cz nu hb;have n0:=dm (uf (DD (nH ac.out) aj (Nat.le_of_eq hg.symm)) hb);have n1:=nA ae hb;have n2:=nA af hb;have n3:=nA ag hb;have n4:=nJ HB hb;have n5:=dm (nu);have n6:=dm (yo:w.heap.size<=aj);have n7:=dm (yo:w.heap.size<=aj);have n8:=dm (K5:ao≠aj);have n9:=dm (La:aj≠ao);have a9:=dm (GG:al≠aj);have bE:=dm (Gr:aj≠al);have bF:=dm ((by rw[hg];exact Nat.ne_of_lt (oQ (g:=ak) (o:=.cells #[.int .i64 ai,am] 31 (0,0)) (nG ag.out)):ak≠aj));have bG:=dm ((by rw[hg];exact Nat.ne_of_gt (oQ (g:=ak) (o:=.cells #[.int .i64 ai,am] 31 (0,0)) (nG ag.out)):aj≠ak));clear ac ae af ag HB;revert n0 n1 n2 n3 n4 n5 n6 n7 n8 n9 a9 bE bF bG;intro ac ae af ag HB ap bM bN av aE aw aG ax aH;clear hb nu hg;have cZ:=aE.out;have c_:=av.out;have da:=aG.out;have db:=aw.out;have dc:=aH.out;have dd:=ax.out;have⟨b6,b7,b8,b9⟩:=nK (w:=cz) ap)|((with_reducible refine oh 81 rfl ?_);refine og 21 Try.func81 #[.slice A1 l1.length c1,.agg #[.int .i64 ((ny aa ab).f0),.int .i64 ((ny aa ab).f1)]] ?_;(with_reducible refine(uF.calls k1 _ _ l1 ((ny aa ab).f0) ((ny aa ab).f1) false _ ?ng ?ni bX.out).mono ?_);(case ng=>exact nT bS.out (nC HB.out));(case ni=>exact bT.out);rintro e bY ⟨rfl,hb⟩;refine⟨_,rfl,?_⟩;replace ac:=dm (uf (Ka) hb);replace ae:=dm (rO (g:=ao) (o:=.cells #[.int .i64 ai,.slice (some aM) aa.length ay] 31 (0,0)) (KN) hb);replace af:=dm (rO (g:=al) (o:=.cells #[.int .i64 0,.slice none 0 0] 31 (0,0)) (J7) hb);replace ag:=dm (rO (g:=ak) (o:=.cells #[.int .i64 ai,am] 31 (0,0)) (KE) hb);replace ap:=dm (rO (g:=aj) (o:=.cells #[.int .i64 ((ny aa ab).f0),.int .i64 ((ny aa ab).f1)] 59 (0,0)) (Kq) hb);replace HB:=nJ HB hb;(try clear hb);have de:=aC.out;have df:=aq.out;have dg:=aD.out;have dh:=au.out;have⟨b_,ca,cd,ce⟩:=nK (w:=bY) ag;have⟨cf,cg,ch,ci⟩:=nK (w:=bY) ap)|((with_reducible refine sj (b:=.append) (xs:= #[.tmp 24,.tmp 26]) rfl ?_);at_builtin;refine tL k59 (w0:=w) w.heap.size rfl (.tmp 24) (.tmp 26) 29 59 (.agg #[(.int .i64 0),(.int .i64 0)]) 16 rfl Try.underlying29 u_ rfl (by decide) (by omega) am ah (⟨(ny aa ab).f0,(ny aa ab).f1⟩:S59) [.int .i64 ((ny aa ab).f0),.int .i64 ((ny aa ab).f1)] (fun k_=>k_≠aj) (fun _=>False) rfl rfl ?aP (fun _ hk=>hk.elim) ?aF ?aO ?aB ?aS ?aL ?_;(case aP=>exact uJ _ _ _ (⟨(ny aa ab).f0,(ny aa ab).f1⟩:S59));(case aB=>exact(nC HB.out));(case aF=>exact(fun k_ hk=>rG (g:=aj) (o:=.cells #[.int .i64 ((ny aa ab).f0),.int .i64 ((ny aa ab).f1)] 59 (0,0)) (nG ap.out) k_ hk));(case aO=>exact(by(with_reducible repeat(first|apply nY|apply nZ|apply nN));exact nL ac.out (fun _ hk=>hk.2)));(case aS=>exact(nX (nC HB.out)));(case aL=>have:=bO.out;omega);intro dw cA ho hb hg hat;rw[←bP.out]at ho;have n0:=o_ ae hg (pG ac.out ae.out (by decide));have n1:=o_ af hg (pG ac.out af.out (by decide));have n2:=o_ ag hg (pG ac.out ag.out (by decide));have n3:=o_ ap hg (yB ac.out (fun _ hk=>hk.2));have n4:=dm (hb);have n5:=dm (ho);clear ae af ag ap HB ac;revert n0 n1 n2 n3 n4 n5;intro ae af ag ap HB bn;clear ho hb hg hat;obtain⟨bH,bI,bZ⟩:=nW bn.out;subst bZ;have⟨cj,ck,cl,cm⟩:=nK (w:=cA) ag))
     go_roundg k1
     case measure=>have:=bh.out;omega
     case rel=>exact⟨(wrap64 (ab+1)),(a6),(.slice bH a6.length bI),(by first|rfl|(simp;done)|(simp[*];done)),H',⟨by have:=bh.out;omega⟩,⟨by(with_reducible repeat(first|apply nY|apply nZ|apply nN));exact nL (nR (p:=⟨ak,1,none⟩) (oK bn.out ag.out (by decide)) (fun _ hk=>hk.2) (.slice bH a6.length bI)) (fun _ hk=>trivial)⟩,⟨oJ ae.out⟩,⟨oJ af.out⟩,⟨oJ ag.out⟩,⟨nC HB.out⟩⟩
   ·rw[if_neg a3]at H;have bL:=decide_eq_false a3;clear a3;simp only[Option.some.injEq,Prod.mk.injEq]at H;obtain⟨rfl,rfl⟩:=H;have di:=aC.out;have dj:=aq.out;have dk:=aD.out;have dl:=au.out;have⟨cn,co,cp,cq⟩:=nK (w:=wr) ag;have dn:=aX.out;have dp:=aW.out;have⟨cr,ct,cu,cv⟩:=nK (w:=wr) af;obtain⟨bJ,bK,b1⟩:=nW ac.out;subst b1
    go_wp2;refine bodyPost_ret (results_cell_row rfl _ _ al 31 #[.int .i64 ai,.slice bJ ah.length bK] (0,0) _ rfl (oJ af.out) Try.underlying31 rfl (by kernel_rfl)) rfl ?_;exact⟨_,qD,by(with_reducible repeat(first|apply nY|apply nZ|apply nN));exact nL (nR (p:=⟨al,1,none⟩) (nR (p:=⟨al,0,none⟩) (oK ac.out af.out (by decide)) (fun _ hk=>hk.2) (.int .i64 ai)) (fun _ hk=>hk.2) (.slice bJ ah.length bK)) (fun _ hk=>trivial),nC HB.out⟩
end Go.Proofs.Ytgeonpciodepgaa.P
namespace Go.Proofs.Ytgeonpciodepgaa.G
open Go.RowKit Go.Proofs.YtgeonpciodepgaaW.PrintWords
abbrev big:Int:=4611686018427387904
theorem w64 {x:Int}(h0: -9223372036854775808<=x) (h1:x<=9223372036854775807):wrap64 x=x:=by
 unfold wrap64
 omega
theorem qz {α:Type}(pre:List α) (t:α) (suf:List α):(pre.length:Int)<((pre++t::suf).length:Int):=by
 simp;omega
theorem tN {α:Type}(pre:List α):¬ (pre.length:Int)<((pre++[]).length:Int):=by
 simp
theorem nn (n:Nat):0<=(n:Int):=Int.natCast_nonneg n
theorem qE {α:Type}(pre:List α) (t:α) (suf:List α):pre++t::suf=(pre++[t])++suf:=by simp
theorem qW {α:Type}{pre:List α}{t:α}(h:(pre.length:Int)<big):wrap64 ((pre.length:Int)+1)=((pre++[t]).length:Int):=by
 rw[w64 (by omega) (by unfold big at h;omega)];simp
theorem zW {α:Type}(pre:List α) (t:α) (suf:List α) (d:α):(pre++t::suf).getD ((pre.length:Int)).toNat d=t:=by
 simp[List.getD]
theorem rF (pre:List Int) (t:Int) (suf:List Int):rd (pre++t::suf) (pre.length:Int)=t:=by
 unfold rd;exact zW pre t suf 0
theorem IX {α:Type}(d:α) (pre:List α) (t:α) (suf:List α):qc d (pre++t::suf) (pre.length:Int)=t:=by
 unfold qc;exact zW pre t suf d
theorem tu {α:Type}{pre:List α}{t:α}{suf:List α}(h:((pre++t::suf).length:Int)<big):(pre.length:Int)<big:=by
 simp at h;unfold big at*;omega
theorem xW {α:Type}{pre:List α}{t:α}{suf:List α}(h:((pre++t::suf).length:Int)<big):(((pre++[t])++suf).length:Int)<big:=by
 rw[←qE];exact h
theorem Ev.const {α β:Type}{a:Option α}{f:Nat->α->Option β}{x:α}{r:β}(h:a=some x) (k:Ev (fun n=>f n x) r):Ev (fun n=>a.bind (f n)) r:=by
 subst h;exact k
theorem Ev.val {α:Type}{a:Option α}{r:α}(h:a=some r):Ev (fun _=>a) r:=⟨0,fun _ _=>h⟩
theorem Ev.eq {α:Type}{g:Nat->Option α}{r s:α}(h:Ev g r) (e:r=s):Ev g s:=e▸h
def tlt (s t:Tie):Prop:=s.f0<t.f0\/s.f0=t.f0/\s.f1<t.f1
instance(s t:Tie):Decidable (tlt s t):=by unfold tlt;infer_instance
def inr (n:Int) (t:Tie):Prop:=0<=t.f0/\t.f0<t.f1/\t.f1<n
instance(n:Int) (t:Tie):Decidable (inr n t):=by unfold inr;infer_instance
def asc:List Tie->Prop
 |[]=>True
 |[_]=>True
 |a::b::r=>tlt a b/\asc (b::r)
instance Pi:(l:List Tie)->Decidable (asc l)
 |[]=>isTrue trivial
 |[_]=>isTrue trivial
 |a::b::r=>by
  have:=Pi (b::r)
  unfold asc
  infer_instance
def ok (n:Int) (E:List Tie):Prop:=0<=n/\n<=8/\(∀t∈E,inr n t)/\asc E
instance(n:Int) (E:List Tie):Decidable (ok n E):=by unfold ok;infer_instance
theorem MV {a b c:Tie}(h:tlt a b) (k:tlt b c):tlt a c:=by
 unfold tlt at*;omega
theorem Mt (a:Tie):¬tlt a a:=by unfold tlt;omega
theorem IR {a:Tie}{l:List Tie}:asc (a::l)↔(∀t∈l,tlt a t)/\asc l:=by
 induction l generalizing a with
 |nil=>simp[asc]
 |cons b r ih=>
  constructor
  ·intro h
   obtain⟨h1,h2⟩:=h
   refine⟨fun t ht=>?_,h2⟩
   rcases List.mem_cons.1 ht with rfl|ht
   ·exact h1
   ·exact MV h1 ((ih.1 h2).1 t ht)
  ·rintro⟨h1,h2⟩
   exact⟨h1 b (List.mem_cons_self),h2⟩
theorem Ht {l:List Tie}:asc l↔l.Pairwise tlt:=by
 induction l with
 |nil=>simp[asc]
 |cons a l ih=>rw[IR,List.pairwise_cons,ih]
theorem Nr {l:List Tie}(h:asc l):l.Nodup:=by
 rw[Ht]at h
 exact h.imp (fun{a b} hab e=>by subst e;exact Mt a hab)
theorem Hy {l m:List Tie}(h:asc m) (s:l.Sublist m):asc l:=by
 rw[Ht]at*;exact h.sublist s
theorem MG {l:List Tie}(p:Tie->Bool) (h:asc l):asc (l.filter p):=Hy h List.filter_sublist
theorem Nl {n:Int}{E:List Tie}(p:Tie->Bool) (h:ok n E):ok n (E.filter p):=
 ⟨h.1,h.2.1,fun t ht=>h.2.2.1 t (List.mem_filter.1 ht).1,MG p h.2.2.2⟩
theorem Ii {n:Int}{E F:List Tie}(h:ok n E) (s:F.Sublist E):ok n F:=
 ⟨h.1,h.2.1,fun t ht=>h.2.2.1 t (s.subset ht),Hy h.2.2.2 s⟩
theorem Oy {l:List Tie}(lo:Int) (hl:∀t∈l,0<=t.f0/\t.f0<8/\0<=t.f1/\t.f1<8) (h:asc l) (hlo:∀t∈l,lo<=t.f0*8+t.f1) (h64:lo<=64):(l.length:Int)<=64 - lo:=by
 induction l generalizing lo with
 |nil=>simp;omega
 |cons a r ih=>
  obtain⟨h1,h2⟩:=IR.1 h
  have ha:=hlo a (List.mem_cons_self)
  have hb:=hl a (List.mem_cons_self)
  have:=ih (a.f0*8+a.f1+1) (fun t ht=>hl t (List.mem_cons_of_mem _ ht)) h2 (fun t ht=>by
   have:=h1 t ht
   have hc:=hl t (List.mem_cons_of_mem _ ht)
   unfold tlt at this;omega) (by omega)
  simp only [List.length_cons]
  omega
theorem uY {n:Int}{E:List Tie}(h:ok n E):(E.length:Int)<=64:=by
 have:=Oy (l:=E) 0 (fun t ht=>by have:=h.2.2.1 t ht;have:=h.2.1;unfold inr at*;omega) h.2.2.2 (fun t ht=>by have:=h.2.2.1 t ht;unfold inr at this;omega) (by omega)
 omega
end Go.Proofs.Ytgeonpciodepgaa.G
namespace Go.Proofs.Ytgeonpciodepgaa.P
open Go.RowKit Go.Proofs.YtgeonpciodepgaaW.PrintWords Go.Proofs.Ytgeonpciodepgaa.G Go.Proofs.YtgeonpciodepgaaW.PrintWords.Kd
theorem B_ (pre:List S59) (t:S59) (suf:List S59):ny (pre++t::suf) (pre.length:Int)=t:=by
  unfold ny;exact zW pre t suf _
theorem Eh (a b c:Int):uA.f a b c=some (decide (b<=a/\a<=c)):=by
  unfold uA.f
  by_cases h:b<=a<;>simp[h]
theorem FQ (a b c d:Int):w_.f a b c d=some (decide (tlt ⟨a,b⟩ ⟨c,d⟩)):=by
  unfold w_.f tlt
  by_cases h:a<c
  · simp[h]
  · by_cases h2:a=c<;>simp[h,h2]
theorem vB {α:Type}(p:List α) (q:α) (h:((p++[q]).length:Int)<big):wrap64 (((p++[q]).length:Int) - 1)=(p.length:Int):=by
  rw[w64 (by rw[List.length_append];omega) (by unfold big at h;omega)];simp
theorem z8 {α:Type}(p:List α) (q:α) (suf:List α):p++[q]++suf=p++q::suf:=by simp
theorem DV {α:Type}(p:List α) (q:α) (suf:List α):(p.length:Int)<((p++[q]++suf).length:Int):=by simp;omega
theorem M6 (n:Int) (h0:0<=n) (h8:n<=8):∀ (suf p:List S59) (q:S59),(((p++[q])++suf).length:Int)<big->
    Ev (fun k=>pO.l0 k ((p++[q]).length:Int) n ((p++[q])++suf)) (decide ((∀t∈suf,inr n t)/\asc (q::suf))):=by
  intro suf
  induction suf with
  |nil=>
    intro p q hb
    refine Ev.step (fun k=>by simp only [pO.l0,tN,if_false]<;>exact rfl) ?_
    exact Ev.val (congrArg some (decide_eq_true (by simp[asc])).symm)
  |cons t suf ih=>
    intro p q hb
    have hp:((p++[q]).length:Int)<big:=tu hb
    have e1:((p++[q]).length:Int)>0:=by rw[List.length_append,List.length_singleton];omega
    refine Ev.step (fun k=>by simp only [pO.l0,qz,nn,if_true,B_,Eh,FQ,Option.bind_some,e1,vB p q hp,DV,qW (t:=t) hp]<;>exact rfl) ?_
    have e2:ny (p++[q]++t::suf) (p.length:Int)=q:=by rw[z8];exact B_ p q _
    simp only [e2,decide_eq_true_eq]
    rw[w64 (by omega) (by omega)]
    by_cases c1:0<=t.f0/\t.f0<=n - 1
    · simp only [if_pos c1]
      rw[w64 (by omega) (by omega)]
      by_cases c2:t.f0+1<=t.f1/\t.f1<=n - 1
      · simp only [if_pos c2]
        have ht:inr n t:=by unfold inr;omega
        by_cases c3:tlt q t
        · simp only [if_pos c3]
          rw[qE (p++[q]) t suf]
          refine Ev.eq (ih (p++[q]) t (xW hb)) ?_
          rw[decide_eq_decide]
          simp[asc,ht,c3]
        · simp only [if_neg c3]
          exact Ev.val (by simp[asc,c3])
      · simp only [if_neg c2]
        refine Ev.val ?_
        have:¬inr n t:=by unfold inr;omega
        simp[this]
    · simp only [if_neg c1]
      refine Ev.val ?_
      have:¬inr n t:=by unfold inr;omega
      simp[this]
theorem ze (n:Int) (E:List S59) (hb:(E.length:Int)<big):Ev (fun k=>pO.f k n E) (decide (ok n E)):=by
  unfold pO.f
  simp only [Eh,Option.bind_some,decide_eq_true_eq]
  by_cases c1:0<=n/\n<=8
  · simp only [if_pos c1]
    by_cases c2:(E.length:Int)>64
    · refine Ev.step (fun k=>by simp only [pO.j0,c2,decide_true,if_true]<;>exact rfl) ?_
      exact Ev.val (by rw[decide_eq_false (fun h=>by have:=uY h;omega)])
    · refine Ev.step (fun k=>by simp only [pO.j0,c2,decide_false,Bool.false_eq_true,if_false]<;>exact rfl) ?_
      cases E with
      |nil=>
        refine Ev.step (fun k=>by simp[pO.l0]<;>exact rfl) ?_
        exact Ev.val (by simp[ok,asc,c1])
      |cons t suf=>
        have l1:(0:Int)<((t::suf).length:Int):=by rw[List.length_cons];omega
        have r1:ny (t::suf) 0=t:=rfl
        have h0:(0:Int)<=0:=Int.le_refl 0
        have w1:wrap64 (0+1)=1:=w64 (by omega) (by omega)
        have g1:¬ (0:Int)>0:=by omega
        refine Ev.step (fun k=>by simp only [pO.l0,l1,h0,if_true,r1,Eh,Option.bind_some,w1,g1,if_false,decide_eq_true_eq]<;>exact rfl) ?_
        rw[w64 (by omega) (by omega)]
        by_cases d1:0<=t.f0/\t.f0<=n - 1
        · simp only [if_pos d1]
          rw[w64 (by omega) (by omega)]
          by_cases d2:t.f0+1<=t.f1/\t.f1<=n - 1
          · simp only [if_pos d2]
            have ht:inr n t:=by unfold inr;omega
            refine Ev.eq (M6 n c1.1 c1.2 suf [] t hb) ?_
            rw[decide_eq_decide]
            simp[ok,c1,ht]
          · simp only [if_neg d2]
            refine Ev.val ?_
            have:¬inr n t:=by unfold inr;omega
            simp[this,ok]
        · simp only [if_neg d1]
          refine Ev.val ?_
          have:¬inr n t:=by unfold inr;omega
          simp[this,ok]
  · simp only [if_neg c1]
    refine Ev.step (fun k=>by simp only [pO.j0,if_true]<;>exact rfl) ?_
    refine Ev.val ?_
    have:¬ok n E:=fun h=>c1 ⟨h.1,h.2.1⟩
    simp[this]
def uy (x y:Int):Int:=if x<y then -1 else if y<x then 1 else 0
theorem cmp_eq (a b:Int):cmp_Compare_int.f a b=some (uy a b):=by
  unfold cmp_Compare_int.f uy
  simp only [cmp_isNaN_int.f,bne_self_eq_false,Option.bind_some,Bool.false_eq_true,if_false]
  repeat' split
  all_goals first|rfl|omega
def ord (a b c d:Int):Int:=if uy a c=0 then uy b d else uy a c
theorem Pn (a b c d:Int):ord a b c d>=0↔¬tlt ⟨a,b⟩ ⟨c,d⟩:=by
  unfold ord uy tlt
  simp only
  repeat' split
  all_goals omega
theorem Ji (x y:Int):Ev (fun k=>sI.f k [x,y]) (if x=0 then y else x):=by
  unfold sI.f
  have l:(([x,y]:List Int).length:Int)=2:=rfl
  have r0:rd [x,y] 0=x:=rfl
  have r1:rd [x,y] 1=y:=rfl
  have h0:(0:Int)<=0:=Int.le_refl 0
  have a1:(0:Int)<=1:=by omega
  have a2:(0:Int)<2:=by omega
  have a3:(1:Int)<2:=by omega
  have a4:¬ (2:Int)<2:=by omega
  have w1:wrap64 (0+1)=1:=w64 (by omega) (by omega)
  have w2:wrap64 (1+1)=2:=w64 (by omega) (by omega)
  refine Ev.step (fun k=>by simp only [sI.l0,l,r0,h0,a2,if_true,w1]<;>exact rfl) ?_
  by_cases c:x=0
  · simp only [if_pos c]
    refine Ev.step (fun k=>by simp only [sI.l0,l,r1,a1,a3,if_true,w2]<;>exact rfl) ?_
    by_cases d:y=0
    · simp only [if_pos d]
      refine Ev.step (fun k=>by simp only [sI.l0,a4,if_false]<;>exact rfl) ?_
      exact Ev.val (by rw[d])
    · simp only [if_neg d]
      exact Ev.val rfl
  · simp only [if_neg c]
    exact Ev.val rfl
theorem NU (a b c d:Int):Ev (fun k=>tJ.f k a b c d) (ord a b c d):=by
  unfold tJ.f
  simp only [cmp_eq,Option.bind_some]
  exact Ev.bind (Ji _ _) (Ev.val rfl)
theorem LB:∀ (suf p:List S59) (q:S59),(((p++[q])++suf).length:Int)<big->
    Ev (fun k=>qU.l0 k ((p++[q])++suf) ((p++[q]).length:Int)) (decide (asc (q::suf))):=by
  intro suf
  induction suf with
  |nil=>
    intro p q hb
    refine Ev.step (fun k=>by simp only [qU.l0,tN,if_false]<;>exact rfl) ?_
    exact Ev.val (congrArg some (decide_eq_true (by simp[asc])).symm)
  |cons t suf ih=>
    intro p q hb
    have hp:((p++[q]).length:Int)<big:=tu hb
    have e2:ny (p++[q]++t::suf) (p.length:Int)=q:=by rw[z8];exact B_ p q _
    refine Ev.step (fun k=>by simp only [qU.l0,qz,nn,if_true,B_,vB p q hp,DV,qW (t:=t) hp,e2]<;>exact rfl) ?_
    refine Ev.bind (NU _ _ _ _) ?_
    simp only [Pn]
    by_cases c3:tlt q t
    · simp only [c3,not_true_eq_false,if_false]
      rw[qE (p++[q]) t suf]
      refine Ev.eq (ih (p++[q]) t (xW hb)) ?_
      rw[decide_eq_decide]
      simp[asc,c3]
    · simp only [c3,not_false_eq_true,if_true]
      exact Ev.val (by simp[asc,c3])
theorem LA (E:List S59) (hb:(E.length:Int)<big):Ev (fun k=>qU.f k E) (decide (asc E)):=by
  unfold qU.f
  cases E with
  |nil=>
    refine Ev.step (fun k=>by simp[qU.l0]<;>exact rfl) ?_
    exact Ev.val (congrArg some (decide_eq_true (by simp[asc])).symm)
  |cons t suf=>exact LB suf [] t hb
theorem MK (n:Int) (E:List S59) (hE:(E.length:Int)<big):∀ (suf p:List S59),((p++suf).length:Int)<big->
    Ev (fun k=>qI.l0 k (p++suf) ((p++suf).length:Int) (p.length:Int) n E) (decide ((∀t∈suf,inr n t)/\asc E)):=by
  intro suf
  induction suf with
  |nil=>
    intro p hb
    refine Ev.step (fun k=>by simp only [qI.l0,tN,if_false]<;>exact rfl) ?_
    refine Ev.bind (LA E hE) ?_
    exact Ev.val (by simp)
  |cons t suf ih=>
    intro p hb
    have hp:(p.length:Int)<big:=tu hb
    refine Ev.step (fun k=>by simp only [qI.l0,qz,nn,if_true,B_,qW (t:=t) hp]<;>exact rfl) ?_
    by_cases c1:t.f0<0
    · simp only [if_pos c1]
      exact Ev.val (by have:¬inr n t:=by unfold inr;omega
                       simp[this])
    · simp only [if_neg c1]
      by_cases c2:t.f0>=t.f1
      · simp only [if_pos c2]
        exact Ev.val (by have:¬inr n t:=by unfold inr;omega
                         simp[this])
      · simp only [if_neg c2]
        by_cases c3:t.f1>=n
        · simp only [if_pos c3]
          exact Ev.val (by have:¬inr n t:=by unfold inr;omega
                           simp[this])
        · simp only [if_neg c3]
          rw[qE p t suf]
          refine Ev.eq (ih (p++[t]) (xW hb)) ?_
          have:inr n t:=by unfold inr;omega
          rw[decide_eq_decide]
          simp[this]
theorem F_ (n:Int) (E:List S59) (hb:(E.length:Int)<big):Ev (fun k=>qI.f k n E) (decide (ok n E)):=by
  unfold qI.f
  by_cases c1:n<0
  · simp only [if_pos c1]
    refine Ev.step (fun k=>by simp only [qI.j0,if_true]<;>exact rfl) ?_
    exact Ev.val (by have:¬ok n E:=fun h=>by have:=h.1;omega
                     simp[this])
  · simp only [if_neg c1]
    by_cases c2:n>8
    · refine Ev.step (fun k=>by simp only [qI.j0,c2,decide_true,if_true]<;>exact rfl) ?_
      exact Ev.val (by have:¬ok n E:=fun h=>by have:=h.2.1;omega
                       simp[this])
    · refine Ev.step (fun k=>by simp only [qI.j0,c2,decide_false,Bool.false_eq_true,if_false]<;>exact rfl) ?_
      refine Ev.eq (MK n E hb E [] hb) ?_
      rw[decide_eq_decide]
      unfold ok
      constructor
      · exact fun h=>⟨by omega,by omega,h.1,h.2⟩
      · exact fun h=>⟨h.2.2.1,h.2.2.2⟩
end Go.Proofs.Ytgeonpciodepgaa.P
namespace Go.Proofs.Ytgeonpciodepgaa.G
def oo (a b:Int):Tie:=if a<b then⟨a,b⟩ else⟨b,a⟩
theorem AX (a b:Int):oo a b=oo b a:=by
 unfold oo
 rcases Int.lt_trichotomy a b with h|h|h
 ·rw[if_pos h,if_neg (by omega)]
 ·subst h;rfl
 ·rw[if_neg (by omega),if_pos h]
end Go.Proofs.Ytgeonpciodepgaa.G
namespace Go.Proofs.Ytgeonpciodepgaa.P
open Go.RowKit Go.Proofs.YtgeonpciodepgaaW.PrintWords Go.Proofs.Ytgeonpciodepgaa.G Go.Proofs.YtgeonpciodepgaaW.PrintWords.Kd
theorem Bc (pre:List S59) (t:S59) (suf:List S59):ny (pre++t::suf) (pre.length:Int)=t:=by
 unfold ny;exact zW pre t suf _
theorem zS (a b:Int):tK.f a b=some ((oo a b).f0,(oo a b).f1):=by
 unfold tK.f oo
 by_cases h:a<b<;>simp[h]
theorem Je (s t:Tie):(s.f0==t.f0&&(s.f1==t.f1))=decide (s=t):=by
 obtain⟨a,b⟩:=s
 obtain⟨c,d⟩:=t
 simp only [Tie.mk.injEq]
 by_cases h:a=c<;>by_cases k:b=d<;>simp[h,k]
theorem Ob (n a b:Int):∀ (suf p:List S59),((p++suf).length:Int)<big->
  Ev (fun k=>sJ.l0 k a b (p.length:Int) n (p++suf)) (decide (oo a b∈suf)):=by
 intro suf
 induction suf with
 |nil=>
  intro p hb
  refine Ev.step (fun k=>by simp only [sJ.l0,tN,if_false]<;>exact rfl) ?_
  exact Ev.val (congrArg some (decide_eq_false (by simp)).symm)
 |cons t suf ih=>
  intro p hb
  have hp:(p.length:Int)<big:=tu hb
  refine Ev.step (fun k=>by simp only [sJ.l0,qz,nn,if_true,Bc,qW (t:=t) hp,zS,Option.bind_some,Je,decide_eq_true_eq]<;>exact rfl) ?_
  by_cases c:t=oo a b
  ·simp only [if_pos c]
   exact Ev.val (congrArg some (decide_eq_true (by simp[c])).symm)
  ·simp only [if_neg c]
   rw[qE p t suf]
   refine Ev.eq (ih (p++[t]) (xW hb)) ?_
   rw[decide_eq_decide]
   have:¬oo a b=t:=fun e=>c e.symm
   simp[this]
theorem Iz (n a b:Int) (E:List S59) (hb:(E.length:Int)<big):Ev (fun k=>sJ.f k n E a b) (decide (oo a b∈E)):=by
 unfold sJ.f
 exact Ob n a b E [] hb
end Go.Proofs.Ytgeonpciodepgaa.P
namespace Go.Proofs.Ytgeonpciodepgaa.G
def cut (X:List Tie) (t:Tie):List Tie:=X.filter fun s=> !decide (s=t)
theorem Jd {X:List Tie}{s t:Tie}:s∈cut X t↔s∈X/\s≠t:=by
 unfold cut
 rw[List.mem_filter]
 simp
theorem Bi {n:Int}{X:List Tie}(t:Tie) (h:ok n X):ok n (cut X t):=Nl _ h
theorem NA {X:List Tie}{t:Tie}(h:t∉X):cut X t=X:=by
 unfold cut
 rw[List.filter_eq_self]
 intro s hs
 have:s≠t:=fun e=>h (e▸hs)
 simp[this]
theorem OP {X:List Tie}(hX:X.Nodup) (t:Tie):(cut X t).length+(if t∈X then 1 else 0)=X.length:=by
 induction X with
 |nil=>simp[cut]
 |cons a r ih=>
  obtain⟨h1,h2⟩:=List.nodup_cons.1 hX
  have ih:=ih h2
  by_cases e:a=t
  ·subst e
   have:cut (a::r) a=cut r a:=by simp[cut]
   rw[this,NA h1]
   simp
  ·have e1:cut (a::r) t=a::cut r t:=by simp[cut,e]
   rw[e1]
   have e2:(t∈a::r)=(t∈r):=by simp[Ne.symm e]
   simp only [e2,List.length_cons]
   omega
def ties:List Int->List Tie
 |a::b::r=>oo a b::ties (b::r)
 |_=>[]
def cuts:List Tie->List Tie->Prop
 |_,[]=>True
 |X,t::r=>t∈X/\cuts (cut X t) r
instance ND:(X T:List Tie)->Decidable (cuts X T)
 |_,[]=>isTrue trivial
 |X,t::r=>by
  have:=ND (cut X t) r
  unfold cuts
  infer_instance
theorem zV:∀ (r:List Int),(ties r).length=r.length - 1
 |[]=>rfl
 |[_]=>rfl
 |a::b::r=>by
  have:=zV (b::r)
  simp only [ties,List.length_cons]at*
  omega
def Jc (n:Int) (E:List Tie) (row:List Int):Prop:=ok n E/\row.length=E.length+1/\(∀v∈row,0<=v/\v<n)/\cuts E (ties row)
instance(n:Int) (E:List Tie) (row:List Int):Decidable (Jc n E row):=by unfold Jc;infer_instance
theorem vT {n a b:Int}(h:inr n (oo a b)):(0<=a/\a<n)/\(0<=b/\b<n)/\a≠b:=by
 unfold oo inr at h
 by_cases c:a<b
 ·rw[if_pos c]at h;simp only at h;omega
 ·rw[if_neg c]at h;simp only at h;omega
theorem Ih {n:Int}{E:List Tie}(hE:∀t∈E,inr n t):∀ (r:List Int) (a:Int),0<=a/\a<n->(∀t∈ties (a::r),t∈E)->∀v∈a::r,0<=v/\v<n
 |[],a,ha,_=>by simpa using ha
 |b::r,a,ha,h=>by
  intro v hv
  have ht:oo a b∈E:=h _ (by simp[ties])
  have hb:=(vT (hE _ ht)).2.1
  rcases List.mem_cons.1 hv with rfl|hv
  ·exact ha
  ·exact Ih hE r b hb (fun t ht=>h t (by simp[ties,ht])) v hv
end Go.Proofs.Ytgeonpciodepgaa.G
namespace Go.Proofs.Ytgeonpciodepgaa.G
open Go.RowKit Go.Proofs.YtgeonpciodepgaaW.PrintWords
inductive qR (E:List Tie):Int->Int->Prop
 |refl (a:Int):qR E a a
 |step {a b c:Int}:qR E a b->oo b c∈E->qR E a c
theorem qR.one {E:List Tie}{a b:Int}(h:oo a b∈E):qR E a b:=.step (.refl a) h
theorem qR.trans {E:List Tie}{a b c:Int}(h:qR E a b) (k:qR E b c):qR E a c:=by
 induction k with
 |refl=>exact h
 |step _ t ih=>exact .step ih t
theorem qR.symm {E:List Tie}{a b:Int}(h:qR E a b):qR E b a:=by
 induction h with
 |refl=>exact .refl _
 |step _ t ih=>exact(qR.one (AX _ _▸t)).trans ih
theorem qR.mono {E F:List Tie}{a b:Int}(h:qR E a b) (hs:∀t∈E,t∈F):qR F a b:=by
 induction h with
 |refl=>exact .refl _
 |step _ t ih=>exact .step ih (hs _ t)
theorem qR.closed {E:List Tie}{a b:Int}(h:qR E a b) (p:Int->Prop) (ha:p a) (hc:∀x y,p x->oo x y∈E->p y):p b:=by
 induction h with
 |refl=>exact ha
 |step _ t ih=>exact hc _ _ ih t
theorem qR.range {n:Int}{E:List Tie}(hE:∀t∈E,inr n t) {a b:Int}(h:qR E a b) (ha:0<=a/\a<n):0<=b/\b<n:=
 h.closed (fun x=>0<=x/\x<n) ha (fun _ _ _ ht=>(vT (hE _ ht)).2.1)
def EvP (g:Nat->Option Bool) (P:Prop):Prop:=∃b:Bool,Ev g b/\(b=true↔P)
theorem EvP.of {g:Nat->Option Bool}{P:Prop} [Decidable P] (h:Ev g (decide P)):EvP g P:=⟨_,h,by simp⟩
theorem EvP.step {g f:Nat->Option Bool}{P:Prop}(h:∀k,g (k+1)=f k) (k:EvP f P):EvP g P:=by
 obtain⟨b,h1,h2⟩:=k
 exact⟨b,Ev.step h h1,h2⟩
theorem EvP.bind {α:Type}{g:Nat->Option α}{f:Nat->α->Option Bool}{a:α}{P:Prop}(h:Ev g a) (k:EvP (fun n=>f n a) P):EvP (fun n=>(g n).bind (f n)) P:=by
 obtain⟨b,h1,h2⟩:=k
 exact⟨b,Ev.bind h h1,h2⟩
theorem EvP.test {g:Nat->Option Bool}{f:Nat->Bool->Option Bool}{P Q:Prop}(h:EvP g Q) (kt:Q->EvP (fun n=>f n true) P) (kf:¬Q->EvP (fun n=>f n false) P):EvP (fun n=>(g n).bind (f n)) P:=by
 obtain⟨b,h1,h2⟩:=h
 cases b with
 |true=>exact EvP.bind h1 (kt (h2.1 rfl))
 |false=>exact EvP.bind h1 (kf (fun q=>by have:=h2.2 q;simp at this))
theorem EvP.same {g f:Nat->Option Bool}{P:Prop}(h:EvP g P) (k:EvP f P):∃b,Ev g b/\Ev f b:=by
 obtain⟨b,h1,h2⟩:=h
 obtain⟨c,k1,k2⟩:=k
 have:b=c:=by
  rw[Bool.eq_iff_iff];exact h2.trans k2.symm
 exact⟨b,h1,this▸k1⟩
theorem zK {α:Type} [DecidableEq α]:∀ {l m:List α},l.Nodup->(∀x∈l,x∈m)->l.length<=m.length
 |[],m,_,_=>Nat.zero_le _
 |a::l,m,h,hs=>by
  obtain⟨h1,h2⟩:=List.nodup_cons.1 h
  have ha:a∈m:=hs a (List.mem_cons_self)
  have:l.length<=(m.erase a).length:=zK h2 (fun x hx=>(List.mem_erase_of_ne (fun(e:x=a)=>h1 (by rw[←e];exact hx))).2 (hs x (List.mem_cons_of_mem _ hx)))
  rw[List.length_erase_of_mem ha]at this
  have:0<m.length:=List.length_pos_of_mem ha
  simp only [List.length_cons]
  omega
theorem LU {α:Type} [DecidableEq α] {l m:List α}(hl:l.Nodup) (hm:m.Nodup) (h:∀x,x∈l↔x∈m):l.length=m.length:=
 Nat.le_antisymm (zK hl (fun x hx=>(h x).1 hx)) (zK hm (fun x hx=>(h x).2 hx))
def sM (n:Int):List Int:=(List.range n.toNat).map fun(i:Nat)=>(i:Int)
theorem Dj {n v:Int}:v∈sM n↔0<=v/\v<n:=by
 unfold sM
 rw[List.mem_map]
 constructor
 ·rintro⟨i,hi,rfl⟩
  have:=List.mem_range.1 hi
  omega
 ·rintro⟨h0,h1⟩
  exact⟨v.toNat,List.mem_range.2 (by omega),by omega⟩
theorem xD (n:Int):(sM n).length=n.toNat:=by simp[sM]
theorem Mi {n:Int}(h:0<=n):sM (n+1)=sM n++[n]:=by
 unfold sM
 have:(n+1).toNat=n.toNat+1:=by omega
 rw[this,List.range_succ,List.map_append]
 simp
 omega
def next (n:Int) (E:List Tie) (v:Int):List Int:=(sM n).filter fun i=>decide (oo v i∈E)
theorem xE {n v i:Int}{E:List Tie}(hE:∀t∈E,inr n t):i∈next n E v↔oo v i∈E:=by
 unfold next
 rw[List.mem_filter,Dj]
 simp only [decide_eq_true_eq]
 exact⟨fun h=>h.2,fun h=>⟨(vT (hE _ h)).2.1,h⟩⟩
end Go.Proofs.Ytgeonpciodepgaa.G
namespace Go.Proofs.Ytgeonpciodepgaa.G
def vO:List Int->List Int->Prop
 |[],[]=>False
 |[],_::_=>True
 |_::_,[]=>False
 |x::a,y::b=>x<y\/x=y/\vO a b
instance M5:(a b:List Int)->Decidable (vO a b)
 |[],[]=>isFalse (fun h=>h)
 |[],_::_=>isTrue trivial
 |_::_,[]=>isFalse (fun h=>h)
 |x::a,y::b=>by
  have:=M5 a b
  unfold vO
  infer_instance
theorem Ho:∀a:List Int,¬vO a a
 |[],h=>h
 |x::a,h=>by
  rcases h with h|h
  ·omega
  ·exact Ho a h.2
theorem Hz:∀ {a b c:List Int},vO a b->vO b c->vO a c
 |[],[],_,h,_=>h.elim
 |[],_::_,[],_,k=>k.elim
 |[],_::_,_::_,_,_=>trivial
 |_::_,[],_,h,_=>h.elim
 |_::_,_::_,[],_,k=>k.elim
 |x::a,y::b,z::c,h,k=>by
  rcases h with h|⟨rfl,h⟩
  ·rcases k with k|⟨rfl,k⟩
   ·exact .inl (by omega)
   ·exact .inl h
  ·rcases k with k|⟨rfl,k⟩
   ·exact .inl k
   ·exact .inr ⟨rfl,Hz h k⟩
theorem Iq:∀a b:List Int,vO a b\/a=b\/vO b a
 |[],[]=> .inr (.inl rfl)
 |[],_::_=> .inl trivial
 |_::_,[]=> .inr (.inr trivial)
 |x::a,y::b=>by
  rcases Int.lt_trichotomy x y with h|h|h
  ·exact .inl (.inl h)
  ·subst h
   rcases Iq a b with h|h|h
   ·exact .inl (.inr ⟨rfl,h⟩)
   ·exact .inr (.inl (by rw[h]))
   ·exact .inr (.inr (.inr ⟨rfl,h⟩))
  ·exact .inr (.inr (.inl h))
def wlt (a b:List Int):Prop:=a.length<b.length\/a.length=b.length/\vO a b
instance(a b:List Int):Decidable (wlt a b):=by unfold wlt;infer_instance
theorem C_ (a:List Int):¬wlt a a:=by
 rintro(h|h)
 ·omega
 ·exact Ho a h.2
theorem BN {a b c:List Int}(h:wlt a b) (k:wlt b c):wlt a c:=by
 rcases h with h|⟨h,h2⟩
 ·rcases k with k|⟨k,_⟩
  ·exact .inl (by omega)
  ·exact .inl (by omega)
 ·rcases k with k|⟨k,k2⟩
  ·exact .inl (by omega)
  ·exact .inr ⟨by omega,Hz h2 k2⟩
theorem Cc (a b:List Int):wlt a b\/a=b\/wlt b a:=by
 rcases Nat.lt_trichotomy a.length b.length with h|h|h
 ·exact .inl (.inl h)
 ·rcases Iq a b with k|k|k
  ·exact .inl (.inr ⟨h,k⟩)
  ·exact .inr (.inl k)
  ·exact .inr (.inr (.inr ⟨h.symm,k⟩))
 ·exact .inr (.inr (.inl h))
def xL (l:List (List Int)):List (List Int):=l.mergeSort fun a b=> !decide (wlt b a)
theorem AY (l:List (List Int)):(xL l).Perm l:=List.mergeSort_perm l _
theorem Hl (l:List (List Int)):(xL l).Pairwise fun a b=>¬wlt b a:=by
 have:=List.pairwise_mergeSort (le:=fun a b=> !decide (wlt b a)) (fun a b c h1 h2=>by
  simp only [Bool.not_eq_true',decide_eq_false_iff_not]at*
  intro h
  rcases Cc a b with x|x|x
  ·exact h2 (BN h x)
  ·subst x;exact h2 h
  ·exact h1 x) (fun a b=>by
  rcases Cc a b with x|x|x
  ·have:¬wlt b a:=fun k=>C_ _ (BN x k)
   simp[this]
  ·subst x;simp[C_]
  ·have:¬wlt a b:=fun k=>C_ _ (BN x k)
   simp[this]) l
 exact this.imp (fun{a b} h=>by simpa using h)
theorem He:∀ {l m:List (List Int)},l.Perm m->(l.Pairwise fun a b=>¬wlt b a)->(m.Pairwise fun a b=>¬wlt b a)->l=m
 |[],m,p,_,_=>(List.nil_perm.1 p).symm
 |a::r,[],p,_,_=>absurd p.length_eq (by simp)
 |a::r,b::s,p,h,k=>by
  rw[List.pairwise_cons]at h k
  have e:a=b:=by
   rcases Cc a b with x|x|x
   ·have:a∈b::s:=p.subset (by simp)
    rcases List.mem_cons.1 this with q|q
    ·exact q
    ·exact absurd x (k.1 a q)
   ·exact x
   ·have:b∈a::r:=p.symm.subset (by simp)
    rcases List.mem_cons.1 this with q|q
    ·exact q.symm
    ·exact absurd x (h.1 b q)
  subst e
  rw[He (List.Perm.cons_inv p) h.2 k.2]
theorem Mv {l:List (List Int)}{p:List Int}(hp:p∈l) (hm:∀q∈l,¬wlt q p):∃r,xL l=p::r:=by
 have h1:=Hl l
 have h2:=(AY l).mem_iff (a:=p)
 cases e:xL l with
 |nil=>rw[e]at h2;exact absurd (h2.2 hp) (by simp)
 |cons h r=>
  rw[e]at h1 h2
  have hh:h∈l:=(AY l).mem_iff.1 (by rw[e];simp)
  rcases Cc p h with x|x|x
  ·rcases List.mem_cons.1 (h2.2 hp) with q|q
   ·rw[q];exact⟨r,rfl⟩
   ·exact absurd x ((List.pairwise_cons.1 h1).1 p q)
  ·rw[x];exact⟨r,rfl⟩
  ·exact absurd x (hm h hh)
structure uq (E:List Tie) (a b:Int) (p:List Int):Prop where
 head:p.head? =some a
 last:p.getLast? =some b
 ties:∀t∈ties p,t∈E
 nodup:p.Nodup
def uN (n:Int) (E:List Tie) (tgt:Int):Nat->List Int->Int->List (List Int)
 |0,_,_=>[]
 |d+1,pre,v=>if v=tgt then[pre++[v]] else((next n E v).filter fun k=> !decide (k∈pre++[v])).flatMap fun k=>uN n E tgt d (pre++[v]) k
theorem Ir {n tgt:Int}{E:List Tie}(hE:∀t∈E,inr n t):∀ (d:Nat) (pre:List Int) (v:Int) (p:List Int),p∈uN n E tgt d pre v->(pre++[v]).Nodup->
  ∃ext,p=pre++v::ext/\(∀t∈ties (v::ext),t∈E)/\(v::ext).getLast? =some tgt/\p.Nodup
 |0,pre,v,p,h,_=>by simp[uN]at h
 |d+1,pre,v,p,h,hn=>by
  unfold uN at h
  by_cases c:v=tgt
  ·rw[if_pos c,List.mem_singleton]at h
   exact⟨[],h,by simp[ties],by simp[c],h▸hn⟩
  ·rw[if_neg c,List.mem_flatMap]at h
   obtain⟨k,hk,h⟩:=h
   rw[List.mem_filter,xE hE]at hk
   have hk2:k∉pre++[v]:=by simpa using hk.2
   have hn2:((pre++[v])++[k]).Nodup:=by
    rw[List.nodup_append]
    exact⟨hn,by simp,fun a ha b hb e=>by rw[List.mem_singleton]at hb;subst hb;subst e;exact hk2 ha⟩
   obtain⟨ext,e,ht,hl,hd⟩:=Ir hE d (pre++[v]) k p h hn2
   refine⟨k::ext,by rw[e];simp,fun t ht2=>?_,?_,hd⟩
   ·simp only [ties,List.mem_cons]at ht2
    rcases ht2 with rfl|ht2
    ·exact hk.1
    ·exact ht t ht2
   ·rw[List.getLast?_cons_cons];exact hl
theorem Iu {n tgt:Int}{E:List Tie}(hE:∀t∈E,inr n t):∀ (d:Nat) (pre:List Int) (v:Int) (ext:List Int),(∀t∈ties (v::ext),t∈E)->(v::ext).getLast? =some tgt->(pre++v::ext).Nodup->ext.length<d->
  pre++v::ext∈uN n E tgt d pre v
 |0,_,_,_,_,_,_,h=>absurd h (Nat.not_lt_zero _)
 |d+1,pre,v,[],_,hl,_,_=>by
  have:v=tgt:=by simpa using hl
  unfold uN
  rw[if_pos this];simp
 |d+1,pre,v,k::ext,ht,hl,hn,hd=>by
  have c:v≠tgt:=by
   intro c
   rw[List.getLast?_cons_cons]at hl
   have h1:=List.mem_of_getLast? hl
   rw[List.nodup_append]at hn
   exact(List.nodup_cons.1 hn.2.1).1 (c▸h1)
  unfold uN
  rw[if_neg c,List.mem_flatMap]
  have e:pre++v::k::ext=(pre++[v])++k::ext:=by simp
  refine⟨k,?_,?_⟩
  ·rw[List.mem_filter,xE hE]
   refine⟨ht _ (by simp[ties]),?_⟩
   rw[e,List.nodup_append]at hn
   have:k∉pre++[v]:=fun h=>hn.2.2 k h k (by simp) rfl
   simpa using this
  ·rw[e]at hn⊢
   exact Iu hE d (pre++[v]) k ext (fun t h=>ht t (by simp[ties,h])) (by rw[List.getLast?_cons_cons]at hl;exact hl) hn (by simp at hd;omega)
theorem Jg {α β:Type}(f:α->List β) (M:Nat):∀ (l:List α),(∀x∈l,(f x).length<=M)->(l.flatMap f).length<=l.length*M
 |[],_=>by simp
 |a::l,h=>by
  have:=Jg f M l (fun x hx=>h x (List.mem_cons_of_mem _ hx))
  have:=h a (by simp)
  rw[List.flatMap_cons,List.length_append,List.length_cons,Nat.succ_mul]
  omega
theorem Dp {n tgt:Int}{E:List Tie}(h8:n<=8):∀ (d:Nat) (pre:List Int) (v:Int),(uN n E tgt d pre v).length<=8^d
 |0,_,_=>by simp[uN]
 |d+1,pre,v=>by
  unfold uN
  have p1:0<8^d:=Nat.pow_pos (by omega)
  by_cases c:v=tgt
  ·rw[if_pos c,Nat.pow_succ];simp;omega
  ·rw[if_neg c]
   have l1:((next n E v).filter fun k=> !decide (k∈pre++[v])).length<=8:=by
    refine Nat.le_trans (List.length_filter_le _ _) ?_
    unfold next
    refine Nat.le_trans (List.length_filter_le _ _) ?_
    rw[xD];omega
   refine Nat.le_trans (Jg _ (8^d) _ (fun k _=>Dp h8 d (pre++[v]) k)) ?_
   rw[Nat.pow_succ,Nat.mul_comm (8^d)]
   exact Nat.mul_le_mul_right _ l1
def xQ (n:Int) (E:List Tie) (a b:Int):List (List Int):=xL (uN n E b 9 [] a)
theorem Iw {n a b:Int}{E:List Tie}(hE:∀t∈E,inr n t) (ha:0<=a/\a<n) {p:List Int}(h:uq E a b p):∀v∈p,0<=v/\v<n:=by
 cases p with
 |nil=>simp
 |cons x r=>
  have:x=a:=by have:=h.head;simpa using this
  subst this
  exact Ih hE r x ha h.ties
theorem Oq {n a b:Int}{E:List Tie}(hE:∀t∈E,inr n t) (ha:0<=a/\a<n) {p:List Int}(h:uq E a b p):(p.length:Int)<=n:=by
 have:=zK h.nodup (fun x hx=>Dj.2 (Iw hE ha h x hx))
 rw[xD]at this
 omega
theorem Fh {n a b:Int}{E:List Tie}(h8:n<=8) (hE:∀t∈E,inr n t) (ha:0<=a/\a<n) {p:List Int}:p∈uN n E b 9 [] a↔uq E a b p:=by
 constructor
 ·intro h
  obtain⟨ext,e,ht,hl,hn⟩:=Ir hE 9 [] a p h (by simp)
  rw[List.nil_append]at e
  subst e
  exact⟨rfl,hl,ht,hn⟩
 ·intro h
  have hl:=Oq hE ha h
  cases p with
  |nil=>have:=h.head;simp at this
  |cons x r=>
   have:x=a:=by have:=h.head;simpa using this
   subst this
   exact Iu hE 9 [] x r h.ties h.last h.nodup (by simp at hl;omega)
theorem Ny {n a b:Int}{E:List Tie}(h8:n<=8) (hE:∀t∈E,inr n t) (ha:0<=a/\a<n) {p:List Int}:p∈xQ n E a b↔uq E a b p:=by
 unfold xQ
 rw[(AY _).mem_iff,Fh h8 hE ha]
theorem Mm {n a b:Int}{E:List Tie}(h8:n<=8) (hE:∀t∈E,inr n t) (ha:0<=a/\a<n) {p:List Int}(hp:uq E a b p) (hm:∀q,uq E a b q->¬wlt q p):∃r,xQ n E a b=p::r:=
 Mv ((Fh h8 hE ha).2 hp) (fun q hq=>hm q ((Fh h8 hE ha).1 hq))
theorem Nf {n a b:Int}{E:List Tie}{p:List Int}(h:uq E a b p):qR E a b:=by
 obtain⟨h1,h2,h3,_⟩:=h
 have go:∀ (p:List Int) (a:Int),(a::p).getLast? =some b->(∀t∈ties (a::p),t∈E)->qR E a b:=by
  intro p
  induction p with
  |nil=>
   intro a h _
   have:a=b:=by simpa using h
   rw[this];exact .refl _
  |cons x p ih=>
   intro a h ht
   rw[List.getLast?_cons_cons]at h
   exact(qR.one (ht _ (by simp[ties]))).trans (ih x h (fun t q=>ht t (by simp[ties,q])))
 cases p with
 |nil=>simp at h1
 |cons x r=>
  have:x=a:=by simpa using h1
  subst this
  exact go r x h2 h3
structure Far (n:Int) (E:List Tie) (b:Int) (f:Int->Int):Prop where
 zero:f b=0
 only:∀v,0<=v->v<n->f v=0->v=b
 down:∀v,0<=v->v<n->0<f v->∃w,oo v w∈E/\f w=f v - 1
 near:∀v w,oo v w∈E->0<=f v->0<=f w/\f w<=f v+1
 lo:∀v,0<=v->v<n-> -1<=f v
def down (n:Int) (E:List Tie) (f:Int->Int):Nat->Int->List Int
 |0,v=>[v]
 |d+1,v=>v::down n E f d (((next n E v).find? fun w=>decide (f w=d)).getD 0)
theorem L9 (n v:Int) (E:List Tie):(next n E v).Pairwise (· <·):=by
 unfold next sM
 refine List.Pairwise.sublist List.filter_sublist ?_
 rw[List.pairwise_map]
 exact List.pairwise_lt_range.imp (fun{a b} h=>by omega)
theorem Far.step {n b:Int}{E:List Tie}{f:Int->Int}(F:Far n E b f) (hE:∀t∈E,inr n t) {d:Nat}{v:Int}(hv:0<=v/\v<n) (hf:f v=(d+1:Nat)):
  ∃x,(next n E v).find? (fun w=>decide (f w=d))=some x/\oo v x∈E/\f x=d/\(0<=x/\x<n)/\∀w,oo v w∈E->f w=d->x<=w:=by
 obtain⟨w,h1,h2⟩:=F.down v hv.1 hv.2 (by omega)
 have hw:w∈next n E v:=(xE hE).2 h1
 cases e:(next n E v).find? (fun w=>decide (f w=d)) with
 |none=>
  rw[List.find?_eq_none]at e
  have:=e w hw
  simp at this
  omega
 |some x=>
  have hx:=List.mem_of_find?_eq_some e
  have hx2:=List.find?_some e
  simp only [decide_eq_true_eq]at hx2
  have ht:=(xE hE).1 hx
  refine⟨x,rfl,ht,hx2,(vT (hE _ ht)).2.1,fun w h1 h2=>?_⟩
  obtain⟨_,ls,rs,e1,e2⟩:=List.find?_eq_some_iff_append.1 e
  have hw:w∈next n E v:=(xE hE).2 h1
  rw[e1,List.mem_append]at hw
  rcases hw with q|q
  ·have:=e2 w q
   simp[h2]at this
  ·rcases List.mem_cons.1 q with q|q
   ·omega
   ·have hs:=L9 n v E
    rw[e1,List.pairwise_append]at hs
    have:=(List.pairwise_cons.1 hs.2.1).1 w q
    omega
theorem BP {n b:Int}{E:List Tie}{f:Int->Int}(F:Far n E b f) (hE:∀t∈E,inr n t):∀ (d:Nat) (v:Int),0<=v/\v<n->f v=(d:Int)->
  ∃r,down n E f d v=v::r/\r.length=d/\(v::r).getLast? =some b/\(∀t∈ties (v::r),t∈E)/\(∀x∈r,f x<d)/\(v::r).Nodup
 |0,v,hv,hf=>⟨[],rfl,rfl,by rw[F.only v hv.1 hv.2 hf];rfl,by simp[ties],by simp,by simp⟩
 |d+1,v,hv,hf=>by
  obtain⟨x,e,ht,hx,hr,_⟩:=F.step hE hv hf
  obtain⟨r,e1,e2,e3,e4,e5,e6⟩:=BP F hE d x hr hx
  refine⟨x::r,?_,by simp[e2],?_,?_,?_,?_⟩
  ·unfold down
   rw[e]
   simp only [Option.getD_some,e1]
  ·rw[List.getLast?_cons_cons];exact e3
  ·intro t h
   simp only [ties,List.mem_cons]at h
   rcases h with rfl|h
   ·exact ht
   ·exact e4 t h
  ·intro y hy
   rcases List.mem_cons.1 hy with rfl|hy
   ·omega
   ·have:=e5 y hy;omega
  ·rw[List.nodup_cons]
   refine⟨fun h=>?_,e6⟩
   rcases List.mem_cons.1 h with q|q
   ·rw[q]at hf;omega
   ·have:=e5 v q;omega
theorem Far.walk {n b:Int}{E:List Tie}{f:Int->Int}(F:Far n E b f):∀ (r:List Int) (v:Int),(v::r).getLast? =some b->(∀t∈ties (v::r),t∈E)->0<=f v/\f v<=(r.length:Int)
 |[],v,h,_=>by
  have:v=b:=by simpa using h
  rw[this,F.zero];simp
 |w::r,v,h,ht=>by
  rw[List.getLast?_cons_cons]at h
  have:=F.walk r w h (fun t q=>ht t (by simp[ties,q]))
  have:=F.near w v (by rw[AX];exact ht _ (by simp[ties])) (by omega)
  simp only [List.length_cons]
  omega
theorem Ic {n b:Int}{E:List Tie}{f:Int->Int}(F:Far n E b f) (hE:∀t∈E,inr n t):∀ (d:Nat) (v:Int) (q:List Int),0<=v/\v<n->f v=(d:Int)->(v::q).getLast? =some b->(∀t∈ties (v::q),t∈E)->q.length<=d->
  q.length=d/\¬vO (v::q) (down n E f d v)
 |0,v,[],_,_,_,_,_=>⟨rfl,by simp[down,vO]⟩
 |0,v,_::_,_,_,_,_,h=>by simp at h
 |d+1,v,[],hv,hf,h,_,_=>by
  have:v=b:=by simpa using h
  rw[this,F.zero]at hf;omega
 |d+1,v,w::q,hv,hf,h,ht,hl=>by
  obtain⟨x,e,htx,hx,hr,hmin⟩:=F.step hE hv hf
  rw[List.getLast?_cons_cons]at h
  have hw:=F.walk q w h (fun t k=>ht t (by simp[ties,k]))
  have htw:oo v w∈E:=ht _ (by simp[ties])
  have h2:=F.near w v (by rw[AX];exact htw) (by omega)
  have hfw:f w=(d:Int):=by simp only [List.length_cons]at hl;omega
  obtain⟨a,b2⟩:=Ic F hE d w q (vT (hE _ htw)).2.1 hfw h (fun t k=>ht t (by simp[ties,k])) (by simp only [List.length_cons]at hl;omega)
  refine⟨by simp[a],?_⟩
  unfold down
  rw[e]
  simp only [Option.getD_some]
  intro k
  have hm:=hmin w htw hfw
  obtain⟨r,e1,_⟩:=BP F hE d x hr hx
  rcases k with k|⟨_,k⟩
  ·omega
  ·by_cases c:w=x
   ·subst c;exact b2 k
   ·rw[e1]at k
    rcases k with k|k
    ·omega
    ·exact c k.1
def Dr (n:Int) (E:List Tie) (f:Int->Int) (a:Int):List Int:=down n E f (f a).toNat a
theorem Far.first {n a b:Int}{E:List Tie}{f:Int->Int}(F:Far n E b f) (hE:∀t∈E,inr n t) (ha:0<=a/\a<n) (h:0<=f a):uq E a b (Dr n E f a)/\∀q,uq E a b q->¬wlt q (Dr n E f a):=by
 obtain⟨r,e1,e2,e3,e4,e5,e6⟩:=BP F hE (f a).toNat a ha (by omega)
 unfold Dr
 refine⟨⟨by rw[e1];rfl,by rw[e1];exact e3,by rw[e1];exact e4,by rw[e1];exact e6⟩,fun q hq k=>?_⟩
 cases q with
 |nil=>have:=hq.head;simp at this
 |cons x q=>
  have:x=a:=by have:=hq.head;simpa using this
  subst this
  have hl:q.length<=(f x).toNat:=by
   rw[e1]at k
   rcases k with k|k
   ·simp only [List.length_cons,e2]at k;omega
   ·have:=k.1;simp only [List.length_cons,e2]at this;omega
  obtain⟨l1,l2⟩:=Ic F hE (f x).toNat x q ha (by omega) hq.last hq.ties hl
  rcases k with k|k
  ·rw[e1]at k;simp only [List.length_cons,e2]at k;omega
  ·exact l2 k.2
theorem Far.conn {n a b:Int}{E:List Tie}{f:Int->Int}(F:Far n E b f) (hE:∀t∈E,inr n t) (ha:0<=a/\a<n):0<=f a↔qR E a b:=by
 constructor
 ·intro h;exact Nf (n:=n) (F.first hE ha h).1
 ·intro h
  refine h.symm.closed (fun x=>0<=f x) (by rw[F.zero];omega) (fun x y hx ht=>(F.near x y ht hx).1)
theorem OV {n a b:Int}{E:List Tie}{f:Int->Int}(F:Far n E b f) (h8:n<=8) (hE:∀t∈E,inr n t) (ha:0<=a/\a<n) (h:0<=f a):∃r,xQ n E a b=Dr n E f a::r:=
 Mm h8 hE ha (F.first hE ha h).1 (F.first hE ha h).2
end Go.Proofs.Ytgeonpciodepgaa.G
namespace Go.Proofs.Ytgeonpciodepgaa.P
set_option maxHeartbeats 8000000
set_option maxRecDepth 100000
open Go.RowKit Go.Proofs.YtgeonpciodepgaaW.PrintWords Go.Proofs.YtgeonpciodepgaaW.PrintLast Go.Proofs.YtgeonpciodepgaaW.PrintMore Go.Proofs.YtgeonpciodepgaaW.PrintWords.Kd Go.Proofs.YtgeonpciodepgaaW.PrintMore.Kd
attribute [local go_sem] wC wE wJ wG wy ww wB wF
theorem Br {p:Prop}(h:p:=by first|rfl|(simp;done)|(simp[*];done)):p:=h
def vS.l0:Nat->List Int->List Int->List Int->Int->Int->Option (Int)
 |0,_,_,_,_,_=>none
 |k+1,x0,x1,x9,aJ,am=>if am<aJ then(if 0<=am then(if am<(x9.length:Int) then(if am>=(x1.length:Int) then(some 1) else(if am<(x1.length:Int) then((cmp_Compare_int.f (rd x9 am) (rd x1 am)).bind fun ac=>(if ac=0 then(vS.l0 k x0 x1 x9 aJ (wrap64 (am+1))) else(some ac))) else(none))) else(none)) else(none)) else(if(x0.length:Int)<(x1.length:Int) then(some (-1)) else(some 0))
def vS.f (k:Nat) (l0:List Int) (l1:List Int):Option (Int):=vS.l0 k l0 l1 l0 (l0.length:Int) 0
theorem vS.calls (k:Nat) (A0:Option Addr) (c0:Nat) (l0:List Int) (A1:Option Addr) (c1:Nat) (l1:List Int) (r:Int) (w:World) (aw:Kd.C (Kd.int .i64) w A0 l0.length l0) (ax:l0.length<=c0) (hr1:Kd.C (Kd.int .i64) w A1 l1.length l1) (ay:l1.length<=c1) (h:vS.f k l0 l1=some r):
  Calls Try.prog 101 #[.slice A0 l0.length c0,.slice A1 l1.length c1] w fun e w'=>e=.returned (.int .i64 r)/\oM w w':=by
 have az:=dm aw;have aK:=dm ax;clear aw ax;have aE:=dm hr1;have aL:=dm ay;clear hr1 ay;unfold vS.f at h;have H:=h;clear h;have H':=dm H;clear H
 go_enter Try.func101,Try.ntmps101
 go_wp2
 go_loopg [11] k (fun kq aR w'=>∃ (aa:Int),aR=.int .i64 aa/\lm (vS.l0 kq l0 l1 l0 (l0.length:Int) aa=some r)/\lm (kq<=k)/\oM w w')
 case atStart=>exact⟨(0),(Br),H',⟨Nat.le_refl _⟩,by repeat(first|exact oM.refl _|apply oM.step)⟩
 case round=>
  clear H';obtain⟨aa,rfl,HA,aM,⟨m1,rfl⟩⟩:=hrel;cases gk with
  |zero=>exact absurd HA.out (by simp[vS.l0])
  |succ k1=>
   have H:=HA.out;clear HA;simp only[vS.l0]at H
   by_cases c3:aa<(l0.length:Int)
   ·rw[if_pos c3]at H;have aN:=decide_eq_true c3;clear c3
    obtain⟨aW,H⟩:=oz H
    obtain⟨aX,H⟩:=oz H
    by_cases c6:aa>=(l1.length:Int)
    ·rw[if_pos c6]at H;have aO:=decide_eq_true c6;clear c6;obtain rfl:=Option.some.inj H;have ag:0<=(aa:Int):=nD;have ah:aa<(l0.length:Int):=nD;obtain⟨aA,al,ao⟩:=oG az.out aa ag ah;cases al;replace ag:=eq_true ag;replace ah:=eq_true ah
     go_wp2
     go_ret
     exact⟨Br,by repeat(first|exact oM.refl _|apply oM.step)⟩
    ·rw[if_neg c6]at H;have aO:=decide_eq_false c6;clear c6
     obtain⟨aY,H⟩:=oz H;obtain⟨ac,A8,H⟩:=ol H;(try dsimp only at H)
     by_cases c9:ac=0
     ·rw[if_pos c9]at H;have aP:=beq_iff_eq.mpr c9;have aQ:=bne_eq_false_iff_eq.mpr c9;clear c9;have H':=dm H;clear H;have ag:0<=(aa:Int):=nD;have ah:aa<(l0.length:Int):=nD;obtain⟨aA,al,ao⟩:=oG az.out aa ag ah;cases al;replace ag:=eq_true ag;replace ah:=eq_true ah;have ai:0<=(aa:Int):=nD;have aj:aa<(l1.length:Int):=nD;obtain⟨aF,aq,aD⟩:=oG aE.out aa ai aj;cases aq;replace ai:=eq_true ai;replace aj:=eq_true aj
      go_wp2_with (first|((with_reducible refine oh 110 rfl ?_);refine og 26 Try.func110 #[.int .i64 (rd l0 aa),.int .i64 (rd l1 aa)] ?_;(with_reducible refine(cmp_Compare_int.calls (rd l0 aa) (rd l1 aa) ac _ A8.out).mono ?_);rintro e w' ⟨rfl,⟨nd,rfl⟩⟩;refine⟨_,rfl,?_⟩))
      go_roundg k1
      case measure=>have:=aM.out;omega
      case rel=>exact⟨(wrap64 (aa+1)),(Br),H',⟨by have:=aM.out;omega⟩,by repeat(first|exact oM.refl _|apply oM.step)⟩
     ·rw[if_neg c9]at H;have aP:=beq_eq_false_iff_ne.mpr c9;have aQ:=bne_iff_ne.mpr c9;obtain rfl:=Option.some.inj H;have ag:0<=(aa:Int):=nD;have ah:aa<(l0.length:Int):=nD;obtain⟨aA,al,ao⟩:=oG az.out aa ag ah;cases al;replace ag:=eq_true ag;replace ah:=eq_true ah;have ai:0<=(aa:Int):=nD;have aj:aa<(l1.length:Int):=nD;obtain⟨aF,aq,aD⟩:=oG aE.out aa ai aj;cases aq;replace ai:=eq_true ai;replace aj:=eq_true aj
      go_wp2_with (first|((with_reducible refine oh 110 rfl ?_);refine og 26 Try.func110 #[.int .i64 (rd l0 aa),.int .i64 (rd l1 aa)] ?_;(with_reducible refine(cmp_Compare_int.calls (rd l0 aa) (rd l1 aa) ac _ A8.out).mono ?_);rintro e w' ⟨rfl,⟨nd,rfl⟩⟩;refine⟨_,rfl,?_⟩))
      go_ret
      exact⟨Br,by repeat(first|exact oM.refl _|apply oM.step)⟩
   ·rw[if_neg c3]at H;have aN:=decide_eq_false c3;clear c3
    by_cases c10:(l0.length:Int)<(l1.length:Int)
    ·rw[if_pos c10]at H;have aH:=decide_eq_true c10;have aI:=decide_eq_true (Int.ofNat_lt.mp c10);clear c10;obtain rfl:=Option.some.inj H
     go_wp2
     go_ret
     exact⟨Br,by repeat(first|exact oM.refl _|apply oM.step)⟩
    ·rw[if_neg c10]at H;have aH:=decide_eq_false c10;have aI:decide (l0.length<l1.length)=false:=decide_eq_false (fun h=>c10 (Int.ofNat_lt.mpr h));clear c10;obtain rfl:=Option.some.inj H
     go_wp2
     go_ret
     exact⟨Br,by repeat(first|exact oM.refl _|apply oM.step)⟩
end Go.Proofs.Ytgeonpciodepgaa.P
namespace Go.Proofs.Ytgeonpciodepgaa.P
open Go.RowKit Go.Lib Go.Sort Go.Proofs.YtgeonpciodepgaaW.PrintWords Go.Proofs.YtgeonpciodepgaaW.PrintLast Go.Proofs.YtgeonpciodepgaaW.PrintMore Go.Proofs.Ytgeonpciodepgaa.G Go.Proofs.YtgeonpciodepgaaW.PrintWords.Kd Go.Proofs.YtgeonpciodepgaaW.PrintMore.Kd
def cmpL:List Int->List Int->Int
 |[],[]=>0
 |[],_::_=> -1
 |_::_,[]=>1
 |x::a,y::b=>if uy x y=0 then cmpL a b else uy x y
def cfW (a b:List Int):Int:=if uy a.length b.length=0 then cmpL a b else uy a.length b.length
theorem Dn {x y:Int}:uy x y=0↔x=y:=by unfold uy;repeat' split<;>omega
theorem IM {x y:Int}:uy x y<0↔x<y:=by unfold uy;repeat' split<;>omega
theorem IY:∀a b:List Int,cmpL a b<0↔vO a b
 |[],[]=>by simp[cmpL,vO]
 |[],_::_=>by simp[cmpL,vO]
 |_::_,[]=>by simp[cmpL,vO]
 |x::a,y::b=>by
  unfold cmpL vO
  by_cases c:uy x y=0
  ·rw[if_pos c,IY a b]
   have:=Dn.1 c
   constructor
   ·intro h;exact .inr ⟨this,h⟩
   ·rintro(h|h)
    ·omega
    ·exact h.2
  ·rw[if_neg c,IM]
   constructor
   ·intro h;exact .inl h
   ·rintro(h|h)
    ·exact h
    ·exact absurd (Dn.2 h.1) c
theorem OL (a b:List Int):cfW a b<0↔wlt a b:=by
 unfold cfW wlt
 by_cases c:uy (a.length:Int) b.length=0
 ·rw[if_pos c,IY]
  have:=Dn.1 c
  constructor
  ·intro h;exact .inr ⟨by omega,h⟩
  ·rintro(h|h)
   ·omega
   ·exact h.2
 ·rw[if_neg c,IM]
  constructor
  ·intro h;exact .inl (by omega)
  ·rintro(h|h)
   ·omega
   ·exact absurd (Dn.2 (by omega)) c
theorem Jb:∀ (a b p q:List Int),p.length=q.length->(p++a).length<=9223372036854775807->
  Ev (fun k=>vS.l0 k (p++a) (q++b) (p++a) ((p++a).length:Int) (p.length:Int)) (cmpL a b)
 |[],b,p,q,h,hb=>by
  refine Ev.step (fun k=>by simp only [vS.l0,tN,if_false]<;>exact rfl) ?_
  refine Ev.val ?_
  cases b with
  |nil=>rw[if_neg (by simp;omega)];rfl
  |cons y b=>rw[if_pos (by simp;omega)];rfl
 |x::a,[],p,q,h,hb=>by
  have h2:(p.length:Int)>=((q++[]).length:Int):=by simp;omega
  refine Ev.step (fun k=>by simp only [vS.l0,qz,nn,if_true,if_pos h2]<;>exact rfl) ?_
  exact Ev.val rfl
 |x::a,y::b,p,q,h,hb=>by
  have h2:¬ (p.length:Int)>=((q++y::b).length:Int):=by simp;omega
  have h3:(p.length:Int)<((q++y::b).length:Int):=by simp;omega
  have e1:rd (q++y::b) (p.length:Int)=y:=by rw[h];exact rF q y b
  have w:wrap64 ((p.length:Int)+1)=((p++[x]).length:Int):=by
   rw[List.length_append,List.length_cons]at hb
   rw[w64 (by omega) (by omega)];simp
  refine Ev.step (fun k=>by simp only [vS.l0,qz,nn,if_true,if_neg h2,if_pos h3,rF,e1,cmp_eq,Option.bind_some,w]<;>exact rfl) ?_
  unfold cmpL
  by_cases c:uy x y=0
  ·simp only [if_pos c]
   rw[qE p x a,qE q y b]
   exact Jb a b (p++[x]) (q++[y]) (by simp[h]) (by rw[←qE];exact hb)
  ·simp only [if_neg c]
   exact Ev.val rfl
theorem Ps (a b:List Int) (ha:a.length<=9223372036854775807):Ev (fun k=>vS.f k a b) (cmpL a b):=by
 unfold vS.f
 exact Jb a b [] [] rfl ha
theorem M9 {P:Program}{ops:Array Oper}{rest:List Oper}{o:Oper}{a:Act}{Q:Exit->Act->World->Prop}{W V:World}{x y:Int}{e:Nat}(hgd:o.guard=none)
  (hrun:(execOp a.eval o).run P V=.ok (.value (.slice (some ⟨V.heap.size,0,none⟩) 2 2)) (V.alloc (.cells #[.int .i64 x,.int .i64 y] e))) (hV:∃q,V=W.drewN q)
  (h:∀ad w1,Kd.C (Kd.int .i64) w1 (some ad) [x,y].length [x,y]->(∃q os,w1=grow (W.drewN q) os)->wpList P ops Q rest (a.put o.dst (.slice (some ad) 2 2)) w1):wpList P ops Q (o::rest) a V:=by
 refine Fp hgd hrun (h ⟨V.heap.size,0,none⟩ _ ?_ ?_)
 ·have bn:=DK V (.cells #[.int .i64 x,.int .i64 y] e (0,0))
  refine zR (d:=(0:Int)) (h1:=fun _=>rfl) ⟨rfl,by simp,fun hn=>⟨_,rfl,fun j hj=>?_⟩⟩
  match j,hj with
  |0,_=>exact(rP bn 0).trans rfl
  |1,_=>exact(rP bn 1).trans rfl
 ·obtain⟨q,rfl⟩:=hV
  exact⟨q,_,alloc_eq_grow _ _⟩
set_option maxHeartbeats 4000000 in
set_option maxRecDepth 100000 in
theorem Me (A0:Option Addr) (c0:Nat) (l0:List Int) (A1:Option Addr) (c1:Nat) (l1:List Int) (W:World) (hr0:Kd.C (Kd.int .i64) W A0 l0.length l0) (hc0:l0.length<=c0) (hr1:Kd.C (Kd.int .i64) W A1 l1.length l1) (hc1:l1.length<=c1):
  Calls Try.prog 132 #[.slice A0 l0.length c0,.slice A1 l1.length c1] W fun e w'=>e=.returned (.int .i64 (cfW l0 l1))/\∃q os',w'=grow (W.drewN q) os':=by
 obtain⟨k,hk⟩:=Ev.rounds (Ps l0 l1 hr0.2.1)
 obtain⟨k2,hk2⟩:=Ev.rounds (Ji (uy l0.length l1.length) (cmpL l0 l1))
 obtain⟨r,hr⟩:∃r:Int,(if uy l0.length l1.length=0 then cmpL l0 l1 else uy l0.length l1.length)=r:=⟨_,rfl⟩
 rw[hr]at hk2
 have HR0:=lm.mk hr0
 have HC0:=lm.mk hc0
 have HR1:=lm.mk hr1
 have HC1:=lm.mk hc1
 have A3:=lm.mk (cmp_eq l0.length l1.length)
 have A4:=lm.mk hk
 have A5:=lm.mk hk2
 have HR:=lm.mk hr
 clear hr0 hc0 hr1 hc1 hk hk2 hr
 go_enter Try.func132,Try.ntmps132
 go_wp2_with (first
  |((with_reducible refine wZ (f:=110) rfl ?_);refine wV (some 9) rfl rfl Try.func110 (by kernel_rfl) rfl #[.int .i64 (l0.length:Int),.int .i64 (l1.length:Int)] rfl (yS) ?_;(with_reducible refine(cmp_Compare_int.calls (l0.length:Int) (l1.length:Int) _ _ A3.out).mono ?_);rintro e w' ⟨rfl,⟨nd,rfl⟩⟩;refine⟨_,rfl,?_⟩)
  |((with_reducible refine wZ (f:=101) rfl ?_);refine wV (some 12) rfl rfl Try.func101 (by kernel_rfl) rfl #[.slice A0 l0.length c0,.slice A1 l1.length c1] rfl (yS) ?_;(with_reducible refine(vS.calls k _ _ l0 _ _ l1 _ _ ?ng ?ni ?sF ?sN A4.out).mono ?_);(case ng=>repeat(first|exact HR0.out|(with_reducible refine uL ?_ _)|(with_reducible refine uK ?_ _)|(with_reducible refine uo ?_)));(case ni=>exact HC0.out);(case sF=>repeat(first|exact HR1.out|(with_reducible refine uL ?_ _)|(with_reducible refine uK ?_ _)|(with_reducible refine uo ?_)));(case sN=>exact HC1.out);rintro e w' ⟨rfl,⟨nd2,rfl⟩⟩;refine⟨_,rfl,?_⟩)
  |((with_reducible refine DC (N:=13) rfl ?_);refine M9 (W:=W) (x:=uy l0.length l1.length) (y:=cmpL l0 l1) (e:=3) rfl (by first|(go_simp;done)|(go_simp;rfl)) ⟨nd+nd2,by simp[World.drewN,Nat.add_assoc]⟩ ?_;intro ad w6 hl_ hg_;have HL:=lm.mk hl_;have HG:=lm.mk hg_;clear hl_ hg_)
  |((with_reducible refine wZ (f:=109) rfl ?_);refine wV (some 14) rfl rfl Try.func109 (by kernel_rfl) rfl #[.slice (some ad) 2 2] rfl (yS) ?_;(refine(sI.calls k2 (some ad) 2 [uy l0.length l1.length,cmpL l0 l1] r _ ?ng ?ni A5.out).mono ?_);(case ng=>exact HL.out);(case ni=>exact Nat.le_refl _);rintro e w' ⟨rfl,⟨nd3,rfl⟩⟩;refine⟨_,rfl,?_⟩))
 go_ret
 refine⟨?_,?_⟩
 ·rw[←HR.out]
  rfl
 ·obtain⟨q,os,e⟩:=HG.out
  rw[e]
  refine⟨q+nd3,os,?_⟩
  show grow ((W.drewN q).drewN nd3) _=_
  congr 1
  simp[World.drewN,Nat.add_assoc]
end Go.Proofs.Ytgeonpciodepgaa.P
namespace Go.Proofs.Ytgeonpciodepgaa.P
set_option maxHeartbeats 8000000
set_option maxRecDepth 100000
open Go.RowKit Go.Proofs.YtgeonpciodepgaaW.PrintWords Go.Proofs.YtgeonpciodepgaaW.PrintLast Go.Proofs.YtgeonpciodepgaaW.PrintMore Go.Proofs.YtgeonpciodepgaaW.PrintWords.Kd Go.Proofs.YtgeonpciodepgaaW.PrintMore.Kd
attribute [local go_sem] wC wE wJ wG wy ww wB wF
def wR.f (l0:List Int):Option (List Int):=(some (([]:List Int):List Int)).bind fun aa=>(if aa.length+l0.length<17592186044416 then(some (aa++l0)) else(none))
theorem wR.calls (A0:Option Addr) (c0:Nat) (l0:List Int) (r:List Int) (w:World) (al:Kd.C (Kd.int .i64) w A0 l0.length l0) (am:l0.length<=c0) (h:wR.f l0=some r):
  Calls Try.prog 103 #[.slice A0 l0.length c0] w fun e w'=>∃ao:Value,e=.returned (ao)/\Kd.R (Kd.int .i64) 3 w' w.heap.size (fun _=>True) ao r/\Below w.heap.size w w':=by
 have ap:=dm al;have aw:=dm am;clear al am;have HB:=dm (Below.refl w.heap.size w);unfold wR.f at h;have H:=h;clear h;obtain⟨aa,ab⟩:∃y_:List Int,y_=(([]:List Int)):=⟨_,rfl⟩;replace H:(if aa.length+l0.length<17592186044416 then(some (aa++l0)) else(none))=some r:=pE ab H
 have af:=dm ab;clear ab
 obtain⟨c2,H⟩:=qd H;have aq:=dm c2;clear c2;obtain⟨aj,ac⟩:∃y_:List Int,y_=(aa++l0):=⟨_,rfl⟩;replace H:(some aj)=some r:=pE ac H
 have ah:=dm ac;clear ac;obtain rfl:=Option.some.inj H;have ax:∀ (w:World) (a:Option Addr) (n c n' c':Nat),(binOp .eql 45 (.slice a n c) (.slice none n' c')).run Try.prog w=.ok (.bool a.isNone) w:=fun w a n c n' c'=>Go.Lib.run_eql_slice_nil w _ _ a n c n' c' Try.underlying45
 rcases A0 with _|ay
 ·have e0:l0=[]:=by
   have h_:=ap.out
   rcases l0 with _|⟨q,r⟩
   ·rfl
   ·obtain⟨ad,h,_⟩:=h_.2.2 (by simp);exact absurd h (by simp)
  subst e0;have ey:aj=[]:=by rw[ah.out,af.out];rfl
  subst ey
  go_enter Try.func103,Try.ntmps103
  go_wp2
  go_ret
  exact⟨_,rfl,wX _ _ _ _ _,nC HB.out⟩
 go_enter Try.func103,Try.ntmps103
 go_wp2_with (first|((with_reducible refine nP 5 rfl ?_);refine rU (Kd.int .i64) _ 3 ?hg (N:=5) ?hd (xs:=([]:List Int)) (inner:=[]) (ok:=fun _=>True) (okp:=fun _=>True) ?hr ?hp (fun _ hk=>hk) trivial (Below.refl _ _) (Nat.le_refl _) (by simp) ?_;(case hd=>rfl);(case hg=>rfl);(case hr=>first|(go_simp;done)|(go_simp;rfl));(case hp=>exact(oq.none _ _));intro au w3 ag hb hg_ pq;clear hg_ pq;(first|rw[←af.out]at ag|(simp only[Int.reduceToNat]at ag;rw[←af.out]at ag));have ai:=dm (oF ag (nX (nC HB.out)));replace HB:=nJ HB hb;clear hb ag)|((with_reducible refine sj (b:=.append) (xs:= #[.tmp 5,.tmp 6]) rfl ?_);at_builtin;refine E9 (Kd.int .i64) (w0:=w) w.heap.size rfl (.tmp 5) (.tmp 6) 45 3 (.int .i64 0) 8 rfl Try.underlying45 info3 rfl (by decide) (by omega) au aa l0 _ _ _ (fun _=>True) (fun _=>False) rfl rfl ?aO ?aR (fun _ _ h=>h) (fun _ h=>h.elim) ?aF ?aB ?aS ?aL ?_;(case aR=>exact nO (nT ap.out HB.out));(case aB=>exact(nC HB.out));(case aF=>exact(fun _ _=>trivial));(case aO=>exact(nH ai.out));(case aS=>exact(nX (nC HB.out)));(case aL=>have:=aq.out;omega);intro av w5 ho hb hg hat;rw[←ah.out]at ho;have n0:=dm (hb);have n1:=dm (ho);clear HB ai;revert n0 n1;intro HB ak;clear ho hb hg hat))
 go_ret
 exact⟨_,qD,nH ak.out,nC HB.out⟩
end Go.Proofs.Ytgeonpciodepgaa.P
namespace Go.Proofs.Ytgeonpciodepgaa.P
open Go.RowKit Go.Proofs.YtgeonpciodepgaaW.PrintWords Go.Proofs.YtgeonpciodepgaaW.PrintWords.Kd
theorem AO {w w1:World}(h:Below w.heap.size w w1) (row:Option Nat):w.grownBy w1 row:=⟨h.os,h.tape,h.output,h.size,fun k hk _=>h.block k hk⟩
structure LX (w0 w:World) (A1:Option Addr) (c1:Nat) (l1:List Int) (vo v:Value) (out:List (List Int)) (W:World):Prop where
 b:Below w0.heap.size w0 W
 way:Kd.R (Kd.int .i64) 3 W w0.heap.size (fun _=>True) (.slice A1 l1.length c1) l1
 row:Kd.S (Kd.slice 3 (Kd.int .i64)) 45 W w0.heap.size (fun _=>True) v out
 g:w.grownBy W vo.ownBlock
 at_:v.ownBlock=vo.ownBlock\/∃b,v.ownBlock=some b/\w.heap.size<=b
section
variable {w0 w W W':World}{A1:Option Addr}{c1:Nat}{l1:List Int}{vo v v1:Value}{out out1:List (List Int)}
theorem LX.start (hb:Below w0.heap.size w0 w) (h1:Kd.R (Kd.int .i64) 3 w w0.heap.size (fun _=>True) (.slice A1 l1.length c1) l1) (h2:Kd.S (Kd.slice 3 (Kd.int .i64)) 45 w w0.heap.size (fun _=>True) vo out):LX w0 w A1 c1 l1 vo vo out w:=
 ⟨hb,h1,h2,AO (Below.refl _ _) _,.inl rfl⟩
theorem LX.below (h:LX w0 w A1 c1 l1 vo v out W) (hb:Below W.heap.size W W'):LX w0 w A1 c1 l1 vo v out W':=
 ⟨oL h.b hb,uf h.way hb,um h.row hb,World.grownBy.trans h.g (AO hb _),h.at_⟩
theorem LX.fin (h:LX w0 w A1 c1 l1 vo v out W):Kd.S (Kd.slice 3 (Kd.int .i64)) 45 W w0.heap.size (fun _=>True) v out/\Below w0.heap.size w0 W/\w.grownBy W vo.ownBlock/\(v.ownBlock=vo.ownBlock\/∃b,v.ownBlock=some b/\w.heap.size<=b):=⟨h.row,h.b,h.g,h.at_⟩
theorem LX.step (h:LX w0 w A1 c1 l1 vo v out W) (hS:Kd.S (Kd.slice 3 (Kd.int .i64)) 45 W' w0.heap.size (fun _=>True) v1 out1) (hb:Below w0.heap.size w0 W') (hg:W.grownBy W' v.ownBlock) (hat:v1.ownBlock=v.ownBlock\/∃b,v1.ownBlock=some b/\W.heap.size<=b):LX w0 w A1 c1 l1 vo v1 out1 W':=by
 refine⟨hb,sU h.way (zZ h.row) (by decide) hg,hS,⟨hg.os.trans h.g.os,hg.tape.trans h.g.tape,hg.output.trans h.g.output,Nat.le_trans h.g.size hg.size,fun k hk hne=>?_⟩,?_⟩
 ·refine(hg.block k (Nat.lt_of_lt_of_le hk h.g.size) (fun e=>?_)).trans (h.g.block k hk hne)
  rcases h.at_ with q|⟨b,q,hb⟩
  ·exact hne (e.trans q)
  ·rw[q]at e
   injection e with e
   omega
 ·rcases hat with q|⟨b,q,hb2⟩
  ·rw[q];exact h.at_
  ·exact .inr ⟨b,q,Nat.le_trans h.g.size hb2⟩
theorem LX.app {w1:World}(hB:Below w.heap.size w w1) (ho:Kd.S (Kd.slice 3 (Kd.int .i64)) 45 W w0.heap.size (fun _=>True) v out) (hb:Below w0.heap.size w0 W) (hg:w1.grownBy W vo.ownBlock) (hat:v.ownBlock=vo.ownBlock\/∃b,v.ownBlock=some b/\w1.heap.size<=b):Kd.S (Kd.slice 3 (Kd.int .i64)) 45 W w0.heap.size (fun _=>True) v out/\Below w0.heap.size w0 W/\w.grownBy W vo.ownBlock/\(v.ownBlock=vo.ownBlock\/∃b,v.ownBlock=some b/\w.heap.size<=b):=
 ⟨ho,hb,World.grownBy.trans (AO hB _) hg,hat.imp id (fun⟨b,e1,e2⟩=>⟨b,e1,Nat.le_trans hB.size e2⟩)⟩
end
end Go.Proofs.Ytgeonpciodepgaa.P
