/- The proof's parts ahead of the row: of no condition of their own. -/
import Derived.Test.YtgeonpciodepgaaZFnEarOpen3
import Derived.Sort.Grow
import Derived.Lib.SliceRun
set_option linter.unusedVariables false
set_option linter.unusedSimpArgs false
namespace Go.Proofs.Ytgeonpciodepgaa.P
set_option maxHeartbeats 8000000
set_option maxRecDepth 100000
open Go.RowKit Go.Proofs.YtgeonpciodepgaaW.PrintWords Go.Proofs.YtgeonpciodepgaaW.PrintLast Go.Proofs.YtgeonpciodepgaaW.PrintMore Go.Proofs.YtgeonpciodepgaaW.PrintWords.Kd Go.Proofs.YtgeonpciodepgaaW.PrintMore.Kd
attribute [local go_sem] wH wM wK wP wJ wO wI wN
variable {p:Prop}
theorem EF(h:p:=by(with_reducible repeat(first|apply ol|apply om|apply nP));exact(nK (nR (p:=⟨ae,1,none⟩) (nR (p:=⟨ae,0,none⟩) (oO af.out ah.out (by decide)) (fun _ hk=>hk.2) (.int .i64 ak)) (fun _ hk=>hk.2) (.slice a3 ag.length aZ)) (fun _ h_=>h_.1))):p:=h
theorem EG(h:p:=by(with_reducible repeat(first|apply ol|apply om|apply nP));exact(nK (nR (p:=⟨ae,1,none⟩) (nR (p:=⟨ae,0,none⟩) (oO af.out ah.out (by decide)) (fun _ hk=>hk.2) (.int .i64 ak)) (fun _ hk=>hk.2) (.slice aQ ag.length aN)) (fun _ h_=>h_.1))):p:=h
theorem EO(h:p:=by(with_reducible repeat(first|apply ol|apply om|apply nP));exact(nK (nR (p:=⟨ae,1,none⟩) (nR (p:=⟨ae,0,none⟩) (oO af.out ah.out (by decide)) (fun _ hk=>hk.2) (.int .i64 ak)) (fun _ hk=>hk.2) (.slice bh ag.length bd)) (fun _ h_=>h_.1))):p:=h
theorem EP(h:p:=by(with_reducible repeat(first|apply ol|apply om|apply nP));exact(nK (nR (p:=⟨ae,1,none⟩) (nR (p:=⟨ae,0,none⟩) (oO af.out ah.out (by decide)) (fun _ hk=>hk.2) (.int .i64 ak)) (fun _ hk=>hk.2) (.slice bf ag.length a_)) (fun _ h_=>h_.1))):p:=h
theorem EQ(h:p:=by(with_reducible repeat(first|apply ol|apply om|apply nP));exact(nK (nR (p:=⟨ae,1,none⟩) (nR (p:=⟨ae,0,none⟩) (oO af.out ah.out (by decide)) (fun _ hk=>hk.2) (.int .i64 ak)) (fun _ hk=>hk.2) (.slice aK ag.length aH)) (fun _ h_=>h_.1))):p:=h
theorem ER(h:p:=by(with_reducible repeat(first|apply ol|apply om|apply nP));exact(nK (nR (p:=⟨ae,1,none⟩) (nR (p:=⟨ae,0,none⟩) (oO af.out ah.out (by decide)) (fun _ hk=>hk.2) (.int .i64 ak)) (fun _ hk=>hk.2) (.slice a8 ag.length a5)) (fun _ h_=>h_.1))):p:=h
theorem ES(h:p:=by(with_reducible repeat(first|apply ol|apply om|apply nP));exact(nK (nR (p:=⟨ae,1,none⟩) (nR (p:=⟨ae,0,none⟩) (oO af.out ah.out (by decide)) (fun _ hk=>hk.2) (.int .i64 ak)) (fun _ hk=>hk.2) (.slice ba ag.length a9)) (fun _ h_=>h_.1))):p:=h
theorem Co(h:p:=by first|(rw[add_block];exact Dr (nD.yP am.out (Kd.S_N aj.out) (by decide)))|(show(Addr.add _ _).block≠_;rw[add_block];exact Dr (nD.yP am.out (Kd.S_N aj.out) (by decide)))|exact Dr (nD.yP am.out (Kd.S_N aj.out) (by decide))):p:=h
theorem zo(h:p:=by rw[hg];exact Nat.ne_of_lt (oU (g:=ab) (o:=.cells #[.int .i64 0,.slice none 0 0] 31 (0,0)) (nE aa.out))):p:=h
theorem zq(h:p:=by rw[hg];exact Nat.ne_of_gt (oU (g:=ab) (o:=.cells #[.int .i64 0,.slice none 0 0] 31 (0,0)) (nE aa.out))):p:=h
theorem sM(h:p:=by(with_reducible repeat(first|apply uL|apply uM|apply uD));exact aj.out):p:=h
theorem Cq(h:p:=by(with_reducible repeat(first|apply ww|apply wy|apply vz));exact aj.out):p:=h
theorem zt(h:p:=by rw[hg];exact Nat.ne_of_lt (nD.lt (show nD w0 _ g ao bj from nW))):p:=h
theorem zu(h:p:=by rw[hg];exact Nat.ne_of_gt (nD.lt (show nD w0 _ g ao bj from nW))):p:=h
theorem zw(h:p:=by rw[hg];exact Nat.ne_of_lt (nD.lt (show nD w0 _ g ao aC from nW))):p:=h
theorem zx(h:p:=by rw[hg];exact Nat.ne_of_gt (nD.lt (show nD w0 _ g ao aC from nW))):p:=h
theorem qx {B:Nat}{w w1 w2:World}(H:Below B w w1) (h:Below B w w2:=by repeat(first|(with_reducible first|exact HB.out|apply sZ|apply uI|apply pI)|(with_reducible refine rO ?_ (lm.out (by assumption)))|(with_reducible refine rO ?_ (nD.ge am.out))|exact HB.out)):Below B w w2:=h
def rQ.l0:Nat->List (List Int)->Int->List Int->Int->List Int->Int->Int->List (S59)->Option (Int× (List (S59))× (List (List Int))×Int)
 |0,_,_,_,_,_,_,_,_=>none
 |k+1,x5,x7,x8,x9,gw,eL,di,dj=>if x9>=0 then(if 0<=x7 then(if x7<(x5.length:Int) then(if 0<=x9 then(if x9<((nL x5 x7).length:Int) then(if x8.length<17592186044416 then(rQ.l0 k x5 x7 (x8++[rd (nL x5 x7) x9]) (wrap64 (x9 - 1)) gw eL di dj) else(none)) else(none)) else(none)) else(none)) else(none)) else(if 0<=x7 then(if x7<(x5.length:Int) then(some (di,dj,(x5.set (x7:Int).toNat x8),eL)) else(none)) else(none))
def rQ.f (k:Nat) (ao:List Int) (bj:Int):Option (Int× (List (S59))× (List (List Int))×Int):=(p_.f k ao bj).bind fun aw=>((pz.f k aw.1 aw.2.1).bind fun ap=>(if(ap.1.length:Int)=0 then(some (aw.1,aw.2.1,(([(([0,1,2,0]:List Int))]:List (List Int))),aw.2.2)) else((o9.f k ao aw.2.2 (ap.1.length:Int)).bind fun al=>((o9.f k ao al.2 8).bind fun aq=>(if aq.1=0 then((some (([]:List (List Int)):List (List Int))).bind fun aV=>(if 0<=al.1 then(if al.1<=(ap.1.length:Int) then((some (ap.1.take (al.1:Int).toNat:List (List Int))).bind fun aI=>(if aV.length+aI.length<5864062014805 then((some (aV++aI:List (List Int))).bind fun aD=>(if 0<=(wrap64 (al.1+1)) then(if(wrap64 (al.1+1))<=(ap.1.length:Int) then((some (ap.1.drop ((wrap64 (al.1+1)):Int).toNat:List (List Int))).bind fun ax=>(if aD.length+ax.length<5864062014805 then(some (aw.1,aw.2.1,(aD++ax),aq.2)) else(none))) else(none)) else(none))) else(none))) else(none)) else(none))) else(if aq.1=1 then(if 0<=al.1 then(if al.1<(ap.1.length:Int) then(if 1<=((nL ap.1 al.1).length:Int) then(some (aw.1,aw.2.1,(ap.1.set (al.1:Int).toNat ((nL ap.1 al.1).drop 1)),aq.2)) else(none)) else(none)) else(none)) else(if aq.1=2 then(if ap.1.length<5864062014805 then(some (aw.1,aw.2.1,(ap.1++[(([0,1]:List Int))]),aq.2)) else(none)) else(if aq.1=3 then(if 0<=al.1 then(if al.1<(ap.1.length:Int) then((o9.f k ao aq.2 ((nL ap.1 al.1).length:Int)).bind fun aA=>((o9.f k ao aA.2 9).bind fun aT=>(if 0<=aA.1 then(if aA.1<((nL ap.1 al.1).length:Int) then(some (aw.1,aw.2.1,(ap.1.set (al.1:Int).toNat ((nL ap.1 al.1).set (aA.1:Int).toNat aT.1)),aT.2)) else(none)) else(none)))) else(none)) else(none)) else(if aq.1=4 then(if 0<=al.1 then(if al.1<(ap.1.length:Int) then(rQ.l0 k ap.1 al.1 (([]:List Int)) (wrap64 (((nL ap.1 al.1).length:Int) - 1)) ao aq.2 aw.1 aw.2.1) else(none)) else(none)) else(some (aw.1,aw.2.1,ap.1,aq.2)))))))))))
def rQ.T8:Bool×List (List Nat×List Nat):=(true,[([],[]),([],[]),([],[]),([1,2],[1,2]),([0,3],[0,3]),([],[]),([],[]),([6],[6]),([5,7],[5,7]),([4,8,4],[4,8]),([9,9,0,1,2,3,4,5,6,7,8,9],[1,5,9])])
def rQ.B8:List Nat:=[0,0,0,6,15,0,0,64,224,511,1023]
theorem rQ.vV:qj .any (opsOf Try.f71 8)=rQ.T8:=by kernel_rfl
theorem rQ.vP:qV rQ.T8.2 rQ.B8=true:=by kernel_rfl
def rQ.T14:Bool×List (List Nat×List Nat):=(true,[([],[]),([],[]),([0,1],[0,1]),([2],[2]),([],[]),([],[]),([],[]),([5,6],[5,6]),([7],[7]),([8],[8]),([4,9],[4,9]),([],[]),([11,10],[11]),([3,10,0,1,2,3,4,5,6,7,8,9,10,11,12],[3,10]),([13,12,12,0,1,2,3,4,5,6,7,8,9,10,11,12],[12,13])])
def rQ.B14:List Nat:=[0,0,3,7,0,0,0,96,224,480,1008,0,4080,8191,16383]
theorem rQ.zO:qj .any (opsOf Try.f71 14)=rQ.T14:=by kernel_rfl
theorem rQ.zk:qV rQ.T14.2 rQ.B14=true:=by kernel_rfl
theorem rQ.calls (k:Nat) (g:Nat) (ao:List Int) (bj:Int) (r1:Int) (r2:List (S59)) (r3:List (List Int)) (r4:Int) (w0 w:World) (hI:nD w0 w g ao bj) (hB:Below w0.heap.size w0 w) (h:rQ.f k ao bj=some (r1,r2,r3,r4)):
  Calls Try.prog 71 #[.pointer (some ⟨g,0,none⟩)] w fun e w'=>∃fD gY:Value,e=.returned (.tuple #[.agg #[.int .i64 r1,fD],gY])/\Kd.R k59 59 w' w.heap.size (fun k_=>(w.heap.size<=k_)) fD r2/\Kd.N (Kd.slice 3 (Kd.int .i64)) 45 w' w.heap.size (fun k_=>(w.heap.size<=k_)/\some k_≠(fD:Value).ownBlock) gY r3/\nD w0 w' g ao r4/\Below w0.heap.size w0 w'/\oH w w' g none:=by
 have mi:=Try.underlying31;have am:=dm hI;have HK:=dm (oH.refl w g none);have HL:=dm hB.size;clear hI;have bv:=dm hB.size;have HB:=dm hB;clear hB;unfold rQ.f at h;have H:=h;clear h;obtain⟨⟨ak,ag,aC⟩,A2,H⟩:=ow H;(try dsimp only at H)
 obtain⟨⟨ac,bY⟩,A3,H⟩:=ow H;(try dsimp only at H)
 by_cases c4:(ac.length:Int)=0
 ·rw[if_pos c4]at H;have g_:=beq_iff_eq.mpr c4;have hD:=bne_eq_false_iff_eq.mpr c4;clear c4;obtain⟨cn,b4⟩:∃y_:List Int,y_=(([0,1,2,0]:List Int)):=⟨_,rfl⟩;replace H:(some (ak,ag,(([cn]:List (List Int))),aC))=some (r1,r2,r3,r4):=pG b4 H
  have eM:=dm b4;clear b4;obtain⟨hJ,b5⟩:∃y_:List (List Int),y_=(([cn]:List (List Int))):=⟨_,rfl⟩;replace H:(some (ak,ag,hJ,aC))=some (r1,r2,r3,r4):=pG b5 H
  have eN:=dm b5;clear b5;simp only [Option.some.injEq,Prod.mk.injEq]at H;obtain⟨rfl,rfl,rfl,rfl⟩:=H
  go_enter Try.func71,Try.ntmps71
  go_wp2_with (first|((with_reducible refine nU 2 rfl ?_);refine oI #[.int .i64 0,.slice none 0 0] 31 ?_;intro ab hg w5 nu hb;replace HB:=dm (o6 (qx HB.out) hb);have aa:=dm (nu);have bJ:=dm (oW:w.heap.size<=ab);have bK:=dm (Nat.le_trans bv.out (oW:w.heap.size<=ab):w0.heap.size<=ab);replace HK:=pq HK hb;have aX:=dm (zt:g≠ab);have au:=dm (zu:ab≠g);replace am:=dm (nD.below (nW) hb);clear hb nu hg)|((with_reducible refine og 73 rfl ?_);refine oV 11 rfl Try.func73 (p_.calls k g ao bj ak ag aC w0 _ nW (qx HB.out) A2.out) ?_;rintro e w6 ⟨co,rfl,aG,hi,hb,hk⟩;refine⟨_,rfl,?_⟩;replace aa:=oQ aa au hk;have af:=dm (oJ (xA (M:=fun k_=>(w.heap.size<=k_)) aG (pR (w:=w) (g:=g) (row:=none) (nZ HK.out)) (fun k_ h_=>h_)) (pR (w:=w) (g:=g) (row:=none) (nZ HK.out)));replace HK:=qb HK hk;replace HB:=dm (hb);replace am:=dm (hi);(try clear hb hk hi aG))|((with_reducible refine nU 4 rfl ?_);refine oI #[.int .i64 0,.slice none 0 0] 31 ?_;intro ae hg w7 nu hb;have n0:=oh af hb;have n1:=dm (nD.below (nW) hb);have n2:=nA aa hb;have n3:=pq HK hb;have n4:=dm (o6 (qx HB.out) hb);have n5:=dm (nu);have n6:=dm (oW:w.heap.size<=ae);have n7:=dm (Nat.le_trans bv.out (oW:w.heap.size<=ae):w0.heap.size<=ae);have n8:=dm (zo:ab≠ae);have n9:=dm (zq:ae≠ab);have bB:=dm (zw:g≠ae);have bC:=dm (zx:ae≠g);clear af am aa HK HB;revert n0 n1 n2 n3 n4 n5 n6 n7 n8 n9 bB bC;intro af am aa HK HB ah bL bM az aE aU av;clear hb nu hg;have mj:=aE.out;have ml:=az.out;have mm:=av.out;have mo:=aU.out;have⟨i7,i8,i9,i_⟩:=nJ (w:=w7) ah;obtain⟨bf,a_,hU⟩:=nY af.out;subst hU)|((with_reducible refine og 22 rfl ?_);refine vY 14 Try.func22 #[.agg #[.int .i64 ak,.slice bf ag.length a_]] ?_;(with_reducible refine(pz.calls ?o7 ?o8 A3.out).mono ?_);(case o7=>refine(nM (e:=59) (base:=w.heap.size) (ok:=fun k_=>((w.heap.size<=k_)/\True)) (n:=ag.length) (c:=a_) ?_).2.2;exact(EP));(case o8=>exact(nM af.out).2.1);rintro e km ⟨cp,rfl,aG,hb⟩;refine⟨_,rfl,?_⟩;have aj:=dm (xw (qG (ok':=fun k_=>(w.heap.size<=k_)/\some k_≠(.slice bf ag.length a_:Value).ownBlock/\k_≠ab/\k_≠ae/\k_≠g) (Kd.S_N (xN aG)) (fun k_ hk_=>⟨(Nat.le_trans (pR (w:=w) (g:=g) (row:=none) (nZ HK.out)) hk_.2.1),(Kd.fresh' (oZ (EP)) k_ hk_.2.1),(rG (g:=ab) (o:=.cells #[.int .i64 0,.slice none 0 0] 31 (0,0)) (rq) k_ hk_.2.1),(rG (g:=ae) (o:=.cells #[.int .i64 ak,.slice bf ag.length a_] 31 (0,0)) (uk) k_ hk_.2.1),(nD.fresh (nW) k_ hk_.2.1)⟩)) (pR (w:=w) (g:=g) (row:=none) (nZ HK.out)));replace af:=dm (sW (EP) hb);replace aa:=dm (rF (g:=ab) (o:=.cells #[.int .i64 0,.slice none 0 0] 31 (0,0)) (rq) hb);replace ah:=dm (rF (g:=ae) (o:=.cells #[.int .i64 ak,.slice bf ag.length a_] 31 (0,0)) (uk) hb);replace HK:=pq HK hb;replace HB:=dm (o6 (qx HB.out) hb);replace am:=dm (nD.below (show nD w0 ((w7.setCell ⟨ae,0,none⟩ (.int .i64 ak)).setCell ⟨ae,1,none⟩ (.slice bf ag.length a_)) g ao aC from nW) hb);(try clear hb aG);obtain⟨cS,cT,hV⟩:=xX aj.out;subst hV;have⟨ja,jb,jc,jd⟩:=nJ (w:=km) ah)|((with_reducible refine nU 21 rfl ?_);refine rZ (Kd.int .i64) rfl 3 ([0,1,2,0]:List Int) [.int .i64 0,.int .i64 1,.int .i64 2,.int .i64 0] (oF.one (show Kd.M (Kd.int .i64) _ _ _ 0 [.int .i64 0] from rfl) (oF.one (show Kd.M (Kd.int .i64) _ _ _ 1 [.int .i64 1] from rfl) (oF.one (show Kd.M (Kd.int .i64) _ _ _ 2 [.int .i64 2] from rfl) (oF.one (show Kd.M (Kd.int .i64) _ _ _ 0 [.int .i64 0] from rfl) (oF.none _ _))))) ?_;intro mq kn cq hb hg_ pE;clear hg_ pE;(first|rw[←eM.out]at cq|(simp only [Int.reduceToNat]at cq;rw[←eM.out]at cq));replace af:=oh af hb;replace aj:=dm (yw (sM) (uN cq) hb);have cO:=dm (oJ (xA (M:=fun k_=>(w.heap.size<=k_)) cq (pR (w:=w) (g:=g) (row:=none) (nZ HK.out)) (fun k_ h_=>h_)) (pR (w:=w) (g:=g) (row:=none) (nZ HK.out)));replace aa:=nA aa hb;replace ah:=nA ah hb;replace HK:=pq HK hb;replace HB:=dm (o6 (qx HB.out) hb);replace am:=dm (nD.below (nW) hb);clear hb cq;obtain⟨fE,fF,hX⟩:=nY cO.out;subst hX)|((with_reducible refine nU 22 rfl ?_);refine KN (Kd.slice 3 (Kd.int .i64)) _ 45 ?hg (N':=22) ?hd (xs:=([cn]:List (List Int))) (inner:=[.slice fE cn.length fF]) (ok:=(fun k_=>(w.heap.size<=k_)/\some k_≠(.slice bf ag.length a_:Value).ownBlock/\some k_≠(.slice cS ac.length cT:Value).ownBlock/\k_≠ab/\k_≠ae/\k_≠g)) (okp:=(fun k_=>(w.heap.size<=k_)/\some k_≠(.slice bf ag.length a_:Value).ownBlock/\some k_≠(.slice cS ac.length cT:Value).ownBlock/\k_≠ab/\k_≠ae/\k_≠g)) ?hr ?hp (fun _ hk=>hk) ((show∀k_,kn.heap.size<=k_->(fun k_=>(w.heap.size<=k_)/\some k_≠(.slice bf ag.length a_:Value).ownBlock/\some k_≠(.slice cS ac.length cT:Value).ownBlock/\k_≠ab/\k_≠ae/\k_≠g) k_ from fun k_ hk=>⟨(Nat.le_trans (pR (w:=w) (g:=g) (row:=none) (nZ HK.out)) hk),Kd.fresh' (oZ (nH af.out)) k_ hk,Kd.fresh' (BN (sM)) k_ hk,rG (g:=ab) (o:=.cells #[.int .i64 0,.slice none 0 0] 31 (0,0)) (nE aa.out) k_ hk,rG (g:=ae) (o:=.cells #[.int .i64 ak,.slice bf ag.length a_] 31 (0,0)) (nE ah.out) k_ hk,nD.fresh (nW) k_ hk⟩) _ (Nat.le_refl _)) (Below.refl _ _) (Nat.le_refl _) (by simp) ?_;(case hd=>rfl);(case hg=>rfl);(case hr=>first|(go_simp;done)|(go_simp;rfl));(case hp=>exact(oF.one (show Kd.FK (Kd.slice 3 (Kd.int .i64)) _ _ cn [.slice fE cn.length fF] from(BJ (nM (nK (ok':=(fun k_=>(w.heap.size<=k_)/\some k_≠(.slice bf ag.length a_:Value).ownBlock/\some k_≠(.slice cS ac.length cT:Value).ownBlock/\k_≠ab/\k_≠ae/\k_≠g)) (nD.apart am.out (oO (oO (wu (wu (cO.out) (sJ af.out) (nN)) (xy aj.out) (nN)) aa.out (nN)) ah.out (nN)) (nN)) (fun k_ hk=>⟨hk.1.1.1.1.1.1,⟨hk.1.1.1.1.2,⟨hk.1.1.1.2,⟨hk.1.1.2,⟨hk.1.2,hk.2⟩⟩⟩⟩⟩))).2.1 (Kd.R_F (nK (ok':=(fun k_=>(w.heap.size<=k_)/\some k_≠(.slice bf ag.length a_:Value).ownBlock/\some k_≠(.slice cS ac.length cT:Value).ownBlock/\k_≠ab/\k_≠ae/\k_≠g)) (nD.apart am.out (oO (oO (wu (wu (cO.out) (sJ af.out) (nN)) (xy aj.out) (nN)) aa.out (nN)) ah.out (nN)) (nN)) (fun k_ hk=>⟨hk.1.1.1.1.1.1,⟨hk.1.1.1.1.2,⟨hk.1.1.1.2,⟨hk.1.1.2,⟨hk.1.2,hk.2⟩⟩⟩⟩⟩))))) (oF.none _ _)));intro mr ko cr hb hg_ pE;clear hg_ pE;(first|rw[←eN.out]at cr|(simp only [Int.reduceToNat]at cr;rw[←eN.out]at cr));have n0:=oh af hb;have n1:=dm (yw (sM) (BM cr) hb);have n2:=dm (xw cr (pR (w:=w) (g:=g) (row:=none) (nZ HK.out)));have n3:=dm (nD.below (nW) hb);have n4:=nA aa hb;have n5:=nA ah hb;have n6:=pq HK hb;have n7:=dm (o6 (qx HB.out) hb);clear af aj am aa ah HK HB cO;revert n0 n1 n2 n3 n4 n5 n6 n7;intro af aj gx am aa ah HK HB;clear hb cr;have ll:=au.out;have lp:=aX.out;have⟨je,jf,jg,jh⟩:=nJ (w:=ko) aa))
  refine bodyPost_ret (wV rfl _ _ ab 31 #[.int .i64 ak,.slice bf ag.length a_] (0,0) _ rfl (rq) Try.underlying31 rfl (oz)) rfl ?_;exact⟨_,_,qC,by(with_reducible repeat(first|apply ol|apply om|apply nP));exact nK (nR (p:=⟨ab,1,none⟩) (nR (p:=⟨ab,0,none⟩) (oO af.out aa.out (nN)) (fun _ hk=>hk.2) (.int .i64 ak)) (fun _ hk=>hk.2) (.slice bf ag.length a_)) (fun _ hk=>hk.1.1),by(with_reducible repeat(first|apply uL|apply uM|apply uD));exact qG (vv (p:=⟨ab,1,none⟩) (vv (p:=⟨ab,0,none⟩) (qG gx.out (fun k_ hk=>(⟨hk,hk.2.2.2.1⟩:_/\k_≠ab))) (fun _ hk=>hk.2) (.int .i64 ak)) (fun _ hk=>hk.2) (.slice bf ag.length a_)) (fun _ hk=>⟨hk.1.1,hk.1.2.1⟩),nW,qx HB.out,nZ HK.out⟩
 rw[if_neg c4]at H;have g_:=beq_eq_false_iff_ne.mpr c4;have hD:=bne_iff_ne.mpr c4;have ms:¬ (ac=[]):=fun h_=>c4 (by rw[h_];rfl);obtain⟨⟨ai,a4⟩,cU,H⟩:=ow H;(try dsimp only at H);obtain⟨⟨aB,aM⟩,cW,H⟩:=ow H;(try dsimp only at H)
 by_cases cJ:aB=0
 ·rw[if_pos cJ]at H;have eO:=beq_iff_eq.mpr cJ;have eP:=bne_eq_false_iff_eq.mpr cJ;clear cJ;obtain⟨aV,b6⟩:∃y_:List (List Int),y_=(([]:List (List Int))):=⟨_,rfl⟩;replace H:(if 0<=ai then(if ai<=(ac.length:Int) then((some (ac.take (ai:Int).toNat:List (List Int))).bind fun aI=>(if aV.length+aI.length<5864062014805 then((some (aV++aI:List (List Int))).bind fun aD=>(if 0<=(wrap64 (ai+1)) then(if(wrap64 (ai+1))<=(ac.length:Int) then((some (ac.drop ((wrap64 (ai+1)):Int).toNat:List (List Int))).bind fun ax=>(if aD.length+ax.length<5864062014805 then(some (ak,ag,(aD++ax),aM)) else(none))) else(none)) else(none))) else(none))) else(none)) else(none))=some (r1,r2,r3,r4):=pG b6 H
  have eQ:=dm b6;clear b6
  obtain⟨eb,H⟩:=qh H;have lr:=eq_true eb;have ls:=decide_eq_true eb;clear eb
  obtain⟨ec,H⟩:=qh H;have lu:=eq_true ec;have lv:=decide_eq_true ec;clear ec;obtain⟨aI,b7⟩:∃y_:List (List Int),y_=(ac.take (ai:Int).toNat):=⟨_,rfl⟩;replace H:(if aV.length+aI.length<5864062014805 then((some (aV++aI:List (List Int))).bind fun aD=>(if 0<=(wrap64 (ai+1)) then(if(wrap64 (ai+1))<=(ac.length:Int) then((some (ac.drop ((wrap64 (ai+1)):Int).toNat:List (List Int))).bind fun ax=>(if aD.length+ax.length<5864062014805 then(some (ak,ag,(aD++ax),aM)) else(none))) else(none)) else(none))) else(none))=some (r1,r2,r3,r4):=pG b7 H
  have eR:=dm b7;clear b7
  obtain⟨eS,H⟩:=qh H;have gy:=dm eS;clear eS;obtain⟨aD,b8⟩:∃y_:List (List Int),y_=(aV++aI):=⟨_,rfl⟩;replace H:(if 0<=(wrap64 (ai+1)) then(if(wrap64 (ai+1))<=(ac.length:Int) then((some (ac.drop ((wrap64 (ai+1)):Int).toNat:List (List Int))).bind fun ax=>(if aD.length+ax.length<5864062014805 then(some (ak,ag,(aD++ax),aM)) else(none))) else(none)) else(none))=some (r1,r2,r3,r4):=pG b8 H
  have gz:=dm b8;clear b8;obtain⟨a6,bx⟩:∃j_:Int,(wrap64 (ai+1))=j_:=⟨_,rfl⟩;replace H:(if 0<=(a6) then(if(a6)<=(ac.length:Int) then((some (ac.drop ((a6):Int).toNat:List (List Int))).bind fun ax=>(if aD.length+ax.length<5864062014805 then(some (ak,ag,(aD++ax),aM)) else(none))) else(none)) else(none))=some (r1,r2,r3,r4):=by first|(rw[bx]at H;exact H)|(simp only [bx]at H⊢;exact H)
  (try rw[bx]at A2);(try rw[bx]at A3);(try rw[bx]at cU);(try rw[bx]at cW);have kp:(IntKind.i64.wrap (ai+1))=a6:=(qP _).trans bx
  obtain⟨ed,H⟩:=qh H;have lw:=eq_true ed;have lx:=decide_eq_true ed;clear ed
  obtain⟨ee,H⟩:=qh H;have ly:=eq_true ee;have lz:=decide_eq_true ee;clear ee;obtain⟨ax,b9⟩:∃y_:List (List Int),y_=(ac.drop ((a6):Int).toNat):=⟨_,rfl⟩;replace H:(if aD.length+ax.length<5864062014805 then(some (ak,ag,(aD++ax),aM)) else(none))=some (r1,r2,r3,r4):=pG b9 H
  have eT:=dm b9;clear b9
  obtain⟨eU,H⟩:=qh H;have gA:=dm eU;clear eU;obtain⟨hY,b_⟩:∃y_:List (List Int),y_=(aD++ax):=⟨_,rfl⟩;replace H:(some (ak,ag,hY,aM))=some (r1,r2,r3,r4):=pG b_ H
  have gB:=dm b_;clear b_;simp only [Option.some.injEq,Prod.mk.injEq]at H;obtain⟨rfl,rfl,rfl,rfl⟩:=H
  go_enter Try.func71,Try.ntmps71;try go_wp2_with (first|((with_reducible refine nU 2 rfl ?_);refine oI #[.int .i64 0,.slice none 0 0] 31 ?_;intro ab hg m4 nu hb;replace HB:=dm (o6 (qx HB.out) hb);have aa:=dm (nu);have bJ:=dm (oW:w.heap.size<=ab);have bK:=dm (Nat.le_trans bv.out (oW:w.heap.size<=ab):w0.heap.size<=ab);replace HK:=pq HK hb;have aX:=dm (zt:g≠ab);have au:=dm (zu:ab≠g);replace am:=dm (nD.below (nW) hb);clear hb nu hg)|((with_reducible refine og 73 rfl ?_);refine oV 11 rfl Try.func73 (p_.calls k g ao bj ak ag aC w0 _ nW (qx HB.out) A2.out) ?_;rintro e m5 ⟨co,rfl,aG,hi,hb,hk⟩;refine⟨_,rfl,?_⟩;replace aa:=oQ aa au hk;have af:=dm (oJ (xA (M:=fun k_=>(w.heap.size<=k_)) aG (pR (w:=w) (g:=g) (row:=none) (nZ HK.out)) (fun k_ h_=>h_)) (pR (w:=w) (g:=g) (row:=none) (nZ HK.out)));replace HK:=qb HK hk;replace HB:=dm (hb);replace am:=dm (hi);(try clear hb hk hi aG))|((with_reducible refine nU 4 rfl ?_);refine oI #[.int .i64 0,.slice none 0 0] 31 ?_;intro ae hg gZ nu hb;have n0:=oh af hb;have n1:=dm (nD.below (nW) hb);have n2:=nA aa hb;have n3:=pq HK hb;have n4:=dm (o6 (qx HB.out) hb);have n5:=dm (nu);have n6:=dm (oW:w.heap.size<=ae);have n7:=dm (Nat.le_trans bv.out (oW:w.heap.size<=ae):w0.heap.size<=ae);have n8:=dm (zo:ab≠ae);have n9:=dm (zq:ae≠ab);have bB:=dm (zw:g≠ae);have bC:=dm (zx:ae≠g);clear af am aa HK HB;revert n0 n1 n2 n3 n4 n5 n6 n7 n8 n9 bB bC;intro af am aa HK HB ah bL bM az aE aU av;clear hb nu hg;have lA:=aE.out;have lB:=az.out;have lC:=av.out;have lD:=aU.out;have⟨ji,jj,jk,jl⟩:=nJ (w:=gZ) ah;obtain⟨aK,aH,hZ⟩:=nY af.out;subst hZ)|((with_reducible refine og 22 rfl ?_);refine vY 14 Try.func22 #[.agg #[.int .i64 ak,.slice aK ag.length aH]] ?_;(with_reducible refine(pz.calls ?o7 ?o8 A3.out).mono ?_);(case o7=>refine(nM (e:=59) (base:=w.heap.size) (ok:=fun k_=>((w.heap.size<=k_)/\True)) (n:=ag.length) (c:=aH) ?_).2.2;exact(EQ));(case o8=>exact(nM af.out).2.1);rintro e m6 ⟨cp,rfl,aG,hb⟩;refine⟨_,rfl,?_⟩;have aj:=dm (xw (qG (ok':=fun k_=>(w.heap.size<=k_)/\some k_≠(.slice aK ag.length aH:Value).ownBlock/\k_≠ab/\k_≠ae/\k_≠g) (Kd.S_N (xN aG)) (fun k_ hk_=>⟨(Nat.le_trans (pR (w:=w) (g:=g) (row:=none) (nZ HK.out)) hk_.2.1),(Kd.fresh' (oZ (EQ)) k_ hk_.2.1),(rG (g:=ab) (o:=.cells #[.int .i64 0,.slice none 0 0] 31 (0,0)) (rq) k_ hk_.2.1),(rG (g:=ae) (o:=.cells #[.int .i64 ak,.slice aK ag.length aH] 31 (0,0)) (uk) k_ hk_.2.1),(nD.fresh (nW) k_ hk_.2.1)⟩)) (pR (w:=w) (g:=g) (row:=none) (nZ HK.out)));replace af:=dm (sW (EQ) hb);replace aa:=dm (rF (g:=ab) (o:=.cells #[.int .i64 0,.slice none 0 0] 31 (0,0)) (rq) hb);replace ah:=dm (rF (g:=ae) (o:=.cells #[.int .i64 ak,.slice aK ag.length aH] 31 (0,0)) (uk) hb);replace HK:=pq HK hb;replace HB:=dm (o6 (qx HB.out) hb);replace am:=dm (nD.below (show nD w0 ((gZ.setCell ⟨ae,0,none⟩ (.int .i64 ak)).setCell ⟨ae,1,none⟩ (.slice aK ag.length aH)) g ao aC from nW) hb);(try clear hb aG);obtain⟨bz,bo,ia⟩:=xX aj.out;subst ia)|((with_reducible refine og 104 rfl ?_);refine oV 26 rfl Try.func104 (o9.calls k g ao aC (ac.length:Int) ai a4 w0 _ nW (qx HB.out) cU.out) ?_;rintro e m7 ⟨rfl,hi,hb,hk⟩;refine⟨_,rfl,?_⟩;replace aa:=oQ aa au hk;replace af:=dm (nK (qz (nD.apart (show nD w0 _ g ao aC from nW) (nH af.out) (nN)) hk (fun _ h=>h.2)) (fun _ h=>h.1));replace ah:=oQ ah av hk;replace aj:=dm (qG (xL (qG (ok:=fun k_=>(((w.heap.size<=k_))/\(some k_≠(.slice aK ag.length aH:Value).ownBlock/\(k_≠ab/\(k_≠ae/\k_≠g))))) (sM) (fun k_ hk_=>(⟨hk_,hk_.2.2.2.2⟩:_/\k_≠g))) hk (fun _ h=>h.2)) (fun _ h=>h.1));replace HK:=qb HK hk;replace HB:=dm (hb);replace am:=dm (hi);(try clear hb hk hi))|((with_reducible refine og 104 rfl ?_);refine oV 28 rfl Try.func104 (o9.calls k g ao a4 8 aB aM w0 _ nW (qx HB.out) cW.out) ?_;rintro e kr ⟨rfl,hi,hb,hk⟩;refine⟨_,rfl,?_⟩;replace aa:=oQ aa au hk;replace af:=dm (nK (qz (nD.apart (show nD w0 _ g ao a4 from nW) (nH af.out) (nN)) hk (fun _ h=>h.2)) (fun _ h=>h.1));replace ah:=oQ ah av hk;replace aj:=dm (qG (xL (qG (ok:=fun k_=>(((w.heap.size<=k_))/\(some k_≠(.slice aK ag.length aH:Value).ownBlock/\(k_≠ab/\(k_≠ae/\k_≠g))))) (sM) (fun k_ hk_=>(⟨hk_,hk_.2.2.2.2⟩:_/\k_≠g))) hk (fun _ h=>h.2)) (fun _ h=>h.1));replace HK:=qb HK hk;replace HB:=dm (hb);replace am:=dm (hi);(try clear hb hk hi)))
  replace af:=dm (nP af.out);replace aj:=dm (uD aj.out);replace aa:=dm (oq aa.out);replace ah:=dm (oq ah.out);replace am:=dm (nD.drew am.out);replace HK:=dm (vJ HK.out);replace HB:=dm (pI HB.out);have fG:(ai:Int)<=((ac.length:Int):Int):=nC;obtain⟨mt,eV,_,gC,_⟩:=info_parts zC;have dk:ac.length<=bo:=(rf aj.out).2.1;have fH:Kd.F (Kd.slice 3 (Kd.int .i64)) _ _ bz ac.length ac:=(zg (base:=w.heap.size) (Kd.N_V aj.out)).2.2;have fI:=Md (P:=Try.prog) 25 45 .i64 Try.underlying25 eV bz ac.length bo ai nC fG dk;have ev:=KE (m:=(ai:Int).toNat) fH (by omega);have ew:aI.length=(ai:Int).toNat:=(by rw[eR.out,List.length_take];omega);rw[←eR.out]at ev;rw[←ew]at fI;have bk:=dm (show Kd.V (Kd.slice 3 (Kd.int .i64)) 45 _ w.heap.size _ (.slice bz aI.length bo) aI from yF (by omega) ev);have lE:=dm (show aI.length<=bo from by omega);clear ev fH dk eV gC;have mu:=dm ew;clear ew;replace fG:=eq_true fG;have fJ:((a6):Int)<=((ac.length:Int):Int):=nC;obtain⟨mv,eW,_,eX,_⟩:=info_parts zC;have bN:ac.length<=bo:=(rf aj.out).2.1;have fK:Kd.F (Kd.slice 3 (Kd.int .i64)) _ _ bz ac.length ac:=(zg (base:=w.heap.size) (Kd.N_V aj.out)).2.2;have ib:(0:Int)<=((a6):Int):=nC;have fL:=CW (P:=Try.prog) 25 45 .i64 Try.underlying25 eW 1 eX bz ac.length bo (a6) ib fJ;have cX:=F7 (m:=((a6):Int).toNat) (c:=bo) fK (by omega) bN;obtain⟨g0,dC⟩:∃A1,A1=(if bo=((a6):Int).toNat then bz else(bz:Option Addr).map (·.add (((a6):Int).toNat*1))):=⟨_,rfl⟩;obtain⟨g2,dD⟩:∃c1,c1=bo - ((a6):Int).toNat:=⟨_,rfl⟩;have cY:ax.length=ac.length - ((a6):Int).toNat:=(by rw[eT.out,List.length_drop]<;>omega);rw[show(ac).drop ((a6):Int).toNat=ax from eT.out.symm]at cX;replace cX:Kd.F (Kd.slice 3 (Kd.int .i64)) _ _ g0 ax.length ax:=(by rw[dC];exact cX);rw[←cY,←dC,←dD]at fL;have bl:=dm (show Kd.V (Kd.slice 3 (Kd.int .i64)) 45 _ w.heap.size _ (.slice g0 ax.length g2) ax from yF (by rw[cY,dD];exact Nat.sub_le_sub_right bN _) cX);have lF:=dm (show ax.length<=g2 from by rw[cY,dD];exact Nat.sub_le_sub_right bN _);clear cX fK bN eW eX dD;have mw:=dm cY;have my:=dm dC;clear cY dC;replace fJ:=eq_true fJ;refine qc 11 (S:=fun w'=>True) [] trivial rQ.vV rQ.vP (fun hHeld HT_ HW_=>?_);generalize kr.drew=ks at af aj aa ah am HK HB bk bl hHeld⊢;refine lq 1 32 2 ?_;refine lq 2 33 6 ?_;refine lq 3 34 14 ?_;refine lq 5 36 46 ?_;refine lq 6 37 110 ?_;refine lq 7 38 238 ?_;refine lq 8 39 494 ?_;refine oN 0 31 495 (fun K hK=>?_);refine KO (Kd.slice 3 (Kd.int .i64)) _ 45 ?hg (N':=31) ?hd (xs:=([]:List (List Int))) (inner:=[]) (ok:=(fun k_=>(w.heap.size<=k_)/\some k_≠(.slice aK ag.length aH:Value).ownBlock/\some k_≠(.slice bz ac.length bo:Value).ownBlock/\k_≠ab/\k_≠ae/\k_≠g)) (okp:=(fun k_=>(w.heap.size<=k_)/\some k_≠(.slice aK ag.length aH:Value).ownBlock/\some k_≠(.slice bz ac.length bo:Value).ownBlock/\k_≠ab/\k_≠ae/\k_≠g)) ?hr ?hp (fun _ hk=>hk) ((show∀k_,ks.heap.size<=k_->(fun k_=>(w.heap.size<=k_)/\some k_≠(.slice aK ag.length aH:Value).ownBlock/\some k_≠(.slice bz ac.length bo:Value).ownBlock/\k_≠ab/\k_≠ae/\k_≠g) k_ from fun k_ hk=>⟨(Nat.le_trans (pR (w:=w) (g:=g) (row:=none) (nZ HK.out)) hk),Kd.fresh' (oZ (nH af.out)) k_ hk,Kd.fresh' (BN (sM)) k_ hk,rG (g:=ab) (o:=.cells #[.int .i64 0,.slice none 0 0] 31 (0,0)) (nE aa.out) k_ hk,rG (g:=ae) (o:=.cells #[.int .i64 ak,.slice aK ag.length aH] 31 (0,0)) (nE ah.out) k_ hk,nD.fresh (nW) k_ hk⟩) _ (Nat.le_refl _)) (Below.refl _ _) (Nat.le_refl _) (by simp) ?_;(case hd=>rfl);(case hg=>rfl);(case hr=>first|(go_simp;done)|(go_simp;rfl));(case hp=>exact(oF.none _ _))
  intro ex m8 bH hb hg_ pE;clear hg_ pE;(first|rw[←eQ.out]at bH|(simp only [Int.reduceToNat]at bH;rw[←eQ.out]at bH));replace af:=oh af hb;replace aj:=dm (yw (sM) (BM bH) hb);replace bk:=dm (Em (xE bk.out) (BM bH) hb);replace bl:=dm (Em (xE bl.out) (BM bH) hb);have bD:=dm (xw bH (pR (w:=w) (g:=g) (row:=none) (nZ HK.out)));replace aa:=nA aa hb;replace ah:=nA ah hb;replace HK:=pq HK hb;replace HB:=dm (o6 (qx HB.out) hb);replace am:=dm (nD.below (nW) hb);clear hb bH;refine hK.out _ _ trivial (fun hHeld=>?_);clear hK K;refine nX 31 ?_;refine oN 4 35 511 (fun K hK=>?_);refine Gc (Kd.slice 3 (Kd.int .i64)) w.heap.size (by rfl) (.tmp 31) (.tmp 34) 25 45 (.slice none 0 0) 24 rfl Try.underlying25 zC rfl (nN) (by omega) ex aV aI _ _ _ (fun k_=>(w.heap.size<=k_)/\some k_≠(.slice aK ag.length aH:Value).ownBlock/\k_≠ab/\k_≠ae/\k_≠g) (fun k_=>((fun k_=>(w.heap.size<=k_)/\some k_≠(.slice aK ag.length aH:Value).ownBlock/\k_≠ab/\k_≠ae/\k_≠g)) k_/\some k_≠(ex:Value).ownBlock) rfl rfl ?aO ?aR (fun _ hk=>hk) ?aF (Below.refl _ _) ?aS ?aL ?_;(case aR=>exact(by skip;exact Kd.V_F (wR (ok':=(fun k_=>((fun k_=>(w.heap.size<=k_)/\some k_≠(.slice aK ag.length aH:Value).ownBlock/\k_≠ab/\k_≠ae/\k_≠g)) k_/\some k_≠(ex:Value).ownBlock)) (bk.out) (fun k_ hk=>⟨⟨hk.1.1,⟨hk.1.2.1,⟨hk.1.2.2.1,⟨hk.1.2.2.2.1,hk.1.2.2.2.2⟩⟩⟩⟩,hk.2⟩))));(case aF=>exact(fun k_ hk=>⟨(Nat.le_trans (pR (w:=w) (g:=g) (row:=none) (nZ HK.out)) hk),Kd.fresh' (oZ (nH af.out)) k_ hk,rG (g:=ab) (o:=.cells #[.int .i64 0,.slice none 0 0] 31 (0,0)) (nE aa.out) k_ hk,rG (g:=ae) (o:=.cells #[.int .i64 ak,.slice aK ag.length aH] 31 (0,0)) (nE ah.out) k_ hk,nD.fresh (nW) k_ hk⟩));(case aO=>exact(by(with_reducible repeat(first|apply uL|apply uM|apply uD));exact qG bD.out (fun _ hk=>⟨hk.1,⟨hk.2.1,⟨hk.2.2.2.1,⟨hk.2.2.2.2.1,hk.2.2.2.2.2⟩⟩⟩⟩)));(case aS=>exact(pR (w:=w) (g:=g) (row:=none) (nZ HK.out)));(case aL=>have:=gy.out;omega);intro ey m9 ho hb hg hat;rw[←gz.out]at ho;have n0:=dm (nD.grown (nW) hg (nD.yP am.out bD.out (nN)));have n1:=pF aa hg (xx bD.out aa.out (nN));have n2:=dm (sI (nH af.out) (xy (by(with_reducible repeat(first|apply uL|apply uM|apply uD));exact bD.out)) (nN) hg);have n3:=pF ah hg (xx bD.out ah.out (nN));have n4:=dm (DZ (ok:=(fun k_=>(w.heap.size<=k_)/\some k_≠(.slice aK ag.length aH:Value).ownBlock/\k_≠ab/\k_≠ae/\k_≠g)) (sM) hg hat);have n5:=dm (zf (ok:=(fun k_=>(w.heap.size<=k_)/\some k_≠(.slice aK ag.length aH:Value).ownBlock/\k_≠ab/\k_≠ae/\k_≠g)) (xE bk.out) hg hat);have n6:=dm (zf (ok:=(fun k_=>(w.heap.size<=k_)/\some k_≠(.slice aK ag.length aH:Value).ownBlock/\k_≠ab/\k_≠ae/\k_≠g)) (xE bl.out) hg hat);have n7:=dm (yH (qx HB.out) HL.out hb);have n8:=dm (oH.trans (nZ HK.out) (oH.xh hg g) (Az bD.out));have n9:=dm (ho);clear am aa af ah aj bk bl HB HK bD;revert n0 n1 n2 n3 n4 n5 n6 n7 n8 n9;intro am aa af ah aj bk bl HB HK bE;clear ho hb hg hat;refine hK.out _ _ trivial (fun hHeld=>?_);clear hK K;refine nX 35 ?_;refine oN 9 40 1023 (fun K hK=>?_)
  refine Gc (Kd.slice 3 (Kd.int .i64)) w.heap.size (by rfl) (.tmp 35) (.tmp 39) 25 45 (.slice none 0 0) 24 rfl Try.underlying25 zC rfl (nN) (by omega) ey aD ax _ _ _ (fun k_=>(w.heap.size<=k_)/\some k_≠(.slice aK ag.length aH:Value).ownBlock/\k_≠ab/\k_≠ae/\k_≠g) (fun k_=>((fun k_=>(w.heap.size<=k_)/\some k_≠(.slice aK ag.length aH:Value).ownBlock/\k_≠ab/\k_≠ae/\k_≠g)) k_/\some k_≠(ey:Value).ownBlock) rfl rfl ?aO ?aR (fun _ hk=>hk) ?aF (Below.refl _ _) ?aS ?aL ?_;(case aR=>exact(by skip;exact Kd.V_F (wR (ok':=(fun k_=>((fun k_=>(w.heap.size<=k_)/\some k_≠(.slice aK ag.length aH:Value).ownBlock/\k_≠ab/\k_≠ae/\k_≠g)) k_/\some k_≠(ey:Value).ownBlock)) (bl.out) (fun k_ hk=>⟨⟨hk.1.1,⟨hk.1.2.1,⟨hk.1.2.2.1,⟨hk.1.2.2.2.1,hk.1.2.2.2.2⟩⟩⟩⟩,hk.2⟩))));(case aF=>exact(fun k_ hk=>⟨(Nat.le_trans (pR (w:=w) (g:=g) (row:=none) (nZ HK.out)) hk),Kd.fresh' (oZ (nH af.out)) k_ hk,rG (g:=ab) (o:=.cells #[.int .i64 0,.slice none 0 0] 31 (0,0)) (nE aa.out) k_ hk,rG (g:=ae) (o:=.cells #[.int .i64 ak,.slice aK ag.length aH] 31 (0,0)) (nE ah.out) k_ hk,nD.fresh (nW) k_ hk⟩));(case aO=>exact(by(with_reducible repeat(first|apply uL|apply uM|apply uD));exact bE.out));(case aS=>exact(pR (w:=w) (g:=g) (row:=none) (nZ HK.out)));(case aL=>have:=gA.out;omega);intro mz g3 ho hb hg hat;rw[←gB.out]at ho;have n0:=dm (nD.grown (nW) hg (nD.yP am.out bE.out (nN)));have n1:=pF aa hg (xx bE.out aa.out (nN));have n2:=dm (sI (nH af.out) (xy (by(with_reducible repeat(first|apply uL|apply uM|apply uD));exact bE.out)) (nN) hg);have n3:=pF ah hg (xx bE.out ah.out (nN));have n4:=dm (DZ (ok:=(fun k_=>(w.heap.size<=k_)/\some k_≠(.slice aK ag.length aH:Value).ownBlock/\k_≠ab/\k_≠ae/\k_≠g)) (sM) hg hat);have n5:=dm (zf (ok:=(fun k_=>(w.heap.size<=k_)/\some k_≠(.slice aK ag.length aH:Value).ownBlock/\k_≠ab/\k_≠ae/\k_≠g)) (xE bk.out) hg hat);have n6:=dm (zf (ok:=(fun k_=>(w.heap.size<=k_)/\some k_≠(.slice aK ag.length aH:Value).ownBlock/\k_≠ab/\k_≠ae/\k_≠g)) (xE bl.out) hg hat);have n7:=dm (yH (qx HB.out) HL.out hb);have n8:=dm (oH.trans (nZ HK.out) (oH.xh hg g) (Az bE.out));have n9:=dm (ho);clear am aa af ah aj bk bl HB HK bE;revert n0 n1 n2 n3 n4 n5 n6 n7 n8 n9;intro am aa af ah aj bk bl HB HK gD;clear ho hb hg hat;refine hK.out _ _ trivial (fun hHeld=>?_);clear hK K;refine nX 40 ?_;refine lq 10 5 2047 ?_;refine pY (p8 HT_.out (oz)) ?_;have⟨jm,jn,jo,jp⟩:=nJ (w:=g3) ah;have lG:=au.out;have lH:=aX.out;have⟨jq,jr,js,jt⟩:=nJ (w:=g3) aa;try go_wp2
  refine bodyPost_ret (wV rfl _ _ ab 31 #[.int .i64 ak,.slice aK ag.length aH] (0,0) _ rfl (rq) Try.underlying31 rfl (oz)) rfl ?_;exact⟨_,_,by first|rfl|(simp[rz,rA]<;>rfl)|(simp only [←bx];first|rfl|(simp[rz,rA]<;>rfl))|(simp[*,rz,rA]<;>rfl),by(with_reducible repeat(first|apply ol|apply om|apply nP));exact nK (nR (p:=⟨ab,1,none⟩) (nR (p:=⟨ab,0,none⟩) (oO af.out aa.out (nN)) (fun _ hk=>hk.2) (.int .i64 ak)) (fun _ hk=>hk.2) (.slice aK ag.length aH)) (fun _ hk=>hk.1.1),by(with_reducible repeat(first|apply uL|apply uM|apply uD));exact qG (vv (p:=⟨ab,1,none⟩) (vv (p:=⟨ab,0,none⟩) (qG gD.out (fun k_ hk=>(⟨hk,hk.2.2.1⟩:_/\k_≠ab))) (fun _ hk=>hk.2) (.int .i64 ak)) (fun _ hk=>hk.2) (.slice aK ag.length aH)) (fun _ hk=>⟨hk.1.1,hk.1.2.1⟩),nW,qx HB.out,nZ HK.out⟩
 rw[if_neg cJ]at H;have eO:=beq_eq_false_iff_ne.mpr cJ;have eP:=bne_iff_ne.mpr cJ
 by_cases cL:aB=1
 ·rw[if_pos cL]at H;have eY:=beq_iff_eq.mpr cL;have eZ:=bne_eq_false_iff_eq.mpr cL;clear cL
  obtain⟨lI,H⟩:=oC H
  obtain⟨lJ,H⟩:=oC H
  obtain⟨ef,H⟩:=qh H;have lK:=eq_true ef;have lL:=decide_eq_true ef;clear ef;obtain⟨bp,ca⟩:∃y_:List Int,y_=((nL ac ai).drop 1):=⟨_,rfl⟩;replace H:(some (ak,ag,(ac.set (ai:Int).toNat bp),aM))=some (r1,r2,r3,r4):=pG ca H
  have e4:=dm ca;clear ca;obtain⟨fM,cd⟩:∃y_:List (List Int),y_=(ac.set (ai:Int).toNat bp):=⟨_,rfl⟩;replace H:(some (ak,ag,fM,aM))=some (r1,r2,r3,r4):=pG cd H
  have gE:=dm cd;clear cd;simp only [Option.some.injEq,Prod.mk.injEq]at H;obtain⟨rfl,rfl,rfl,rfl⟩:=H
  go_enter Try.func71,Try.ntmps71
  go_wp2_with (first|((with_reducible refine nU 2 rfl ?_);refine oI #[.int .i64 0,.slice none 0 0] 31 ?_;intro ab hg m_ nu hb;replace HB:=dm (o6 (qx HB.out) hb);have aa:=dm (nu);have bJ:=dm (oW:w.heap.size<=ab);have bK:=dm (Nat.le_trans bv.out (oW:w.heap.size<=ab):w0.heap.size<=ab);replace HK:=pq HK hb;have aX:=dm (zt:g≠ab);have au:=dm (zu:ab≠g);replace am:=dm (nD.below (nW) hb);clear hb nu hg)|((with_reducible refine og 73 rfl ?_);refine oV 11 rfl Try.func73 (p_.calls k g ao bj ak ag aC w0 _ nW (qx HB.out) A2.out) ?_;rintro e na ⟨co,rfl,aG,hi,hb,hk⟩;refine⟨_,rfl,?_⟩;replace aa:=oQ aa au hk;have af:=dm (oJ (xA (M:=fun k_=>(w.heap.size<=k_)) aG (pR (w:=w) (g:=g) (row:=none) (nZ HK.out)) (fun k_ h_=>h_)) (pR (w:=w) (g:=g) (row:=none) (nZ HK.out)));replace HK:=qb HK hk;replace HB:=dm (hb);replace am:=dm (hi);(try clear hb hk hi aG))|((with_reducible refine nU 4 rfl ?_);refine oI #[.int .i64 0,.slice none 0 0] 31 ?_;intro ae hg g4 nu hb;have n0:=oh af hb;have n1:=dm (nD.below (nW) hb);have n2:=nA aa hb;have n3:=pq HK hb;have n4:=dm (o6 (qx HB.out) hb);have n5:=dm (nu);have n6:=dm (oW:w.heap.size<=ae);have n7:=dm (Nat.le_trans bv.out (oW:w.heap.size<=ae):w0.heap.size<=ae);have n8:=dm (zo:ab≠ae);have n9:=dm (zq:ae≠ab);have bB:=dm (zw:g≠ae);have bC:=dm (zx:ae≠g);clear af am aa HK HB;revert n0 n1 n2 n3 n4 n5 n6 n7 n8 n9 bB bC;intro af am aa HK HB ah bL bM az aE aU av;clear hb nu hg;have lM:=aE.out;have lN:=az.out;have lO:=av.out;have lP:=aU.out;have⟨ju,jv,jw,jx⟩:=nJ (w:=g4) ah;obtain⟨a8,a5,ic⟩:=nY af.out;subst ic)|((with_reducible refine og 22 rfl ?_);refine vY 14 Try.func22 #[.agg #[.int .i64 ak,.slice a8 ag.length a5]] ?_;(with_reducible refine(pz.calls ?o7 ?o8 A3.out).mono ?_);(case o7=>refine(nM (e:=59) (base:=w.heap.size) (ok:=fun k_=>((w.heap.size<=k_)/\True)) (n:=ag.length) (c:=a5) ?_).2.2;exact(ER));(case o8=>exact(nM af.out).2.1);rintro e nb ⟨cp,rfl,aG,hb⟩;refine⟨_,rfl,?_⟩;have aj:=dm (xw (qG (ok':=fun k_=>(w.heap.size<=k_)/\some k_≠(.slice a8 ag.length a5:Value).ownBlock/\k_≠ab/\k_≠ae/\k_≠g) (Kd.S_N (xN aG)) (fun k_ hk_=>⟨(Nat.le_trans (pR (w:=w) (g:=g) (row:=none) (nZ HK.out)) hk_.2.1),(Kd.fresh' (oZ (ER)) k_ hk_.2.1),(rG (g:=ab) (o:=.cells #[.int .i64 0,.slice none 0 0] 31 (0,0)) (rq) k_ hk_.2.1),(rG (g:=ae) (o:=.cells #[.int .i64 ak,.slice a8 ag.length a5] 31 (0,0)) (uk) k_ hk_.2.1),(nD.fresh (nW) k_ hk_.2.1)⟩)) (pR (w:=w) (g:=g) (row:=none) (nZ HK.out)));replace af:=dm (sW (ER) hb);replace aa:=dm (rF (g:=ab) (o:=.cells #[.int .i64 0,.slice none 0 0] 31 (0,0)) (rq) hb);replace ah:=dm (rF (g:=ae) (o:=.cells #[.int .i64 ak,.slice a8 ag.length a5] 31 (0,0)) (uk) hb);replace HK:=pq HK hb;replace HB:=dm (o6 (qx HB.out) hb);replace am:=dm (nD.below (show nD w0 ((g4.setCell ⟨ae,0,none⟩ (.int .i64 ak)).setCell ⟨ae,1,none⟩ (.slice a8 ag.length a5)) g ao aC from nW) hb);(try clear hb aG);obtain⟨mA,bZ,ie⟩:=xX aj.out;subst ie)|((with_reducible refine og 104 rfl ?_);refine oV 26 rfl Try.func104 (o9.calls k g ao aC (ac.length:Int) ai a4 w0 _ nW (qx HB.out) cU.out) ?_;rintro e nc ⟨rfl,hi,hb,hk⟩;refine⟨_,rfl,?_⟩;replace aa:=oQ aa au hk;replace af:=dm (nK (qz (nD.apart (show nD w0 _ g ao aC from nW) (nH af.out) (nN)) hk (fun _ h=>h.2)) (fun _ h=>h.1));replace ah:=oQ ah av hk;replace aj:=dm (qG (xL (qG (ok:=fun k_=>(((w.heap.size<=k_))/\(some k_≠(.slice a8 ag.length a5:Value).ownBlock/\(k_≠ab/\(k_≠ae/\k_≠g))))) (sM) (fun k_ hk_=>(⟨hk_,hk_.2.2.2.2⟩:_/\k_≠g))) hk (fun _ h=>h.2)) (fun _ h=>h.1));replace HK:=qb HK hk;replace HB:=dm (hb);replace am:=dm (hi);(try clear hb hk hi))|((with_reducible refine og 104 rfl ?_);refine oV 28 rfl Try.func104 (o9.calls k g ao a4 8 aB aM w0 _ nW (qx HB.out) cW.out) ?_;rintro e fN ⟨rfl,hi,hb,hk⟩;refine⟨_,rfl,?_⟩;replace aa:=oQ aa au hk;replace af:=dm (nK (qz (nD.apart (show nD w0 _ g ao a4 from nW) (nH af.out) (nN)) hk (fun _ h=>h.2)) (fun _ h=>h.1));replace ah:=oQ ah av hk;replace aj:=dm (qG (xL (qG (ok:=fun k_=>(((w.heap.size<=k_))/\(some k_≠(.slice a8 ag.length a5:Value).ownBlock/\(k_≠ab/\(k_≠ae/\k_≠g))))) (sM) (fun k_ hk_=>(⟨hk_,hk_.2.2.2.2⟩:_/\k_≠g))) hk (fun _ h=>h.2)) (fun _ h=>h.1));replace HK:=qb HK hk;replace HB:=dm (hb);replace am:=dm (hi);(try clear hb hk hi);have dE:0<=(ai:Int):=nC;have dF:ai<(ac.length:Int):=nC;obtain⟨lQ,ce,bI,ig,dl,dn,dq⟩:=sK (rf aj.out).2.2 ai dE dF;cases ig;obtain⟨lR,fO,fP,eg⟩:=AB aj.out [] ai dE (by first|exact dF|exact of_decide_eq_true (wz)|(have e_:=(rf aj.out).1;omega));obtain⟨jy,jz,rfl,ct,cu⟩:=xW fP;have bO:=eg 0 _ rfl;rw[Nat.add_zero,show((Kd.slice 3 (Kd.int .i64))).sz=1 from rfl,Nat.mul_one]at bO;replace bO:=Option.some.inj (bO.symm.trans dl);injection bO with wD yj wE;rw[wD]at cu;rw[wE]at ct;have bP:=dm (show Kd.V (Kd.int .i64) 3 _ w.heap.size _ _ (nL ac ai) from yF ct cu);clear wD yj wE cu ct;clear eg fO;have jA:=dm dq;have fw:=dm dn;clear dq dn;replace dE:=eq_true dE;replace dF:=eq_true dF;have fQ:(1:Int)<=(((nL ac ai).length:Int):Int):=nC;obtain⟨mB,e5,_,e6,_⟩:=info_parts info3;have bQ:(nL ac ai).length<=bI:=fw.out;have fR:Kd.F (Kd.int .i64) _ _ ce (nL ac ai).length (nL ac ai):=(zg (base:=w.heap.size) bP.out).2.2;have fS:=CW (P:=Try.prog) 45 3 .i64 Try.underlying45 e5 1 e6 ce (nL ac ai).length bI 1 (by omega) fQ;have cZ:=F7 (m:=(1:Int).toNat) (c:=bI) fR (by omega) bQ;obtain⟨e7,dG⟩:∃A1,A1=(if bI=(1:Int).toNat then ce else(ce:Option Addr).map (·.add ((1:Int).toNat*1))):=⟨_,rfl⟩;obtain⟨e8,dH⟩:∃c1,c1=bI - (1:Int).toNat:=⟨_,rfl⟩;have c_:bp.length=(nL ac ai).length - (1:Int).toNat:=(by rw[e4.out,List.length_drop]<;>omega);rw[show(nL ac ai).drop (1:Int).toNat=bp from e4.out.symm]at cZ;replace cZ:Kd.F (Kd.int .i64) _ _ e7 bp.length bp:=(by rw[dG];exact cZ);rw[←c_,←dG,←dH]at fS;have cf:=dm (show Kd.V (Kd.int .i64) 3 _ w.heap.size _ (.slice e7 bp.length e8) bp from yF (by rw[c_,dH];exact Nat.sub_le_sub_right bQ _) cZ);have lS:=dm (show bp.length<=e8 from by rw[c_,dH];exact Nat.sub_le_sub_right bQ _);clear cZ fR bQ e5 e6 dH;have mC:=dm c_;have mD:=dm dG;clear c_ dG;replace fQ:=eq_true fQ;have fT:0<=(ai:Int):=nC;have fU:(ai:Int)<((ac.length:Int):Int):=nC;obtain⟨br,mE,fV,fW,ii,mF,fX⟩:=Gf aj.out (by omega);(first|cases fV|(injection fV with ea_ en_ ec_;(first|subst ea_|(injection ea_ with ea_;subst ea_));subst ec_;clear en_));have ij:=dm fW;have mG:=dm fX;clear fW ii fX;(first|simp only [add_plain]at dl|skip);obtain⟨mH,gF,fY,e9,fa⟩:=AA aj.out [] (ai:Int) fT fU;obtain⟨ku,kv,rfl,kw,ky⟩:=xW fY;have fZ:=e9 0 _ rfl;have f2:=fa 0;(try simp only [show((Kd.slice 3 (Kd.int .i64))).sz=1 from rfl,Nat.mul_one,Nat.add_zero]at fZ);(try simp only [show((Kd.slice 3 (Kd.int .i64))).sz=1 from rfl,Nat.mul_one,Nat.add_zero]at f2);clear gF e9 fa;(try clear fY);replace fT:=eq_true fT;replace fU:=eq_true fU;have f3:=dm (show Kd.N (Kd.slice 3 (Kd.int .i64)) 45 fN w.heap.size (fun k_=>(w.heap.size<=k_)/\some k_≠(.slice a8 ag.length a5:Value).ownBlock/\k_≠ab/\k_≠ae/\k_≠g) (.slice (some ⟨br,0,none⟩) ac.length bZ) ac from(sM));obtain⟨mI,fb,f4,dI,fc⟩:=AA f3.out [] (ai:Int) nC (by have h_:(ai:Int)<((ac.length:Int):Int):=nC;first|exact h_|(have e_:=(rf aj.out).1;omega)|simpa using h_);obtain⟨kz,kA,rfl,kB,kC⟩:=xW f4;have db:=Gh f3.out (ai:Int) nC (by have h_:(ai:Int)<((ac.length:Int):Int):=nC;first|exact h_|(have e_:=(rf aj.out).1;omega)|simpa using h_) (seg:=[.slice e7 bp.length e8]) (j:=0) fb dI (show 1<=1 from by decide) (x':=bp) (BJ (Ld (wR (ok':=(fun k_=>((fun k_=>(w.heap.size<=k_)/\some k_≠(.slice a8 ag.length a5:Value).ownBlock/\k_≠ab/\k_≠ae/\k_≠g)) k_/\k_≠br)) (cf.out) (fun k_ hk=>⟨⟨hk.1.1,⟨hk.1.2.1,⟨hk.1.2.2.1,⟨hk.1.2.2.2.1,hk.1.2.2.2.2⟩⟩⟩⟩,fun e_=>(hk.2) (by rw[e_];rfl)⟩))).2.1 (Kd.V_F (wR (ok':=(fun k_=>((fun k_=>(w.heap.size<=k_)/\some k_≠(.slice a8 ag.length a5:Value).ownBlock/\k_≠ab/\k_≠ae/\k_≠g)) k_/\k_≠br)) (cf.out) (fun k_ hk=>⟨⟨hk.1.1,⟨hk.1.2.1,⟨hk.1.2.2.1,⟨hk.1.2.2.2.1,hk.1.2.2.2.2⟩⟩⟩⟩,fun e_=>(hk.2) (by rw[e_];rfl)⟩)))) (fun _ hk=>hk);have f5:=dI 0 _ rfl;(try simp only [show((Kd.slice 3 (Kd.int .i64))).sz=1 from rfl,Nat.mul_one,Nat.add_zero]at f5);have f6:=fc 0;(try simp only [show((Kd.slice 3 (Kd.int .i64))).sz=1 from rfl,Nat.mul_one,Nat.add_zero]at f6);clear fb dI fc;(try clear f4);(try simp only [show((Kd.slice 3 (Kd.int .i64))).sz=1 from rfl,Nat.mul_one,Nat.add_zero]at db);(try simp only [show((Kd.slice 3 (Kd.int .i64))).sz=1 from rfl,Nat.mul_one,Nat.add_zero]at db))|((with_reducible refine zz (t:=45) (p:=50) rfl ?_);refine zM (t:=45) (p:=50) (v:= ?vo_w71) (w1:=(fN.setCell ⟨br,(ai:Int).toNat,none⟩ (.slice e7 bp.length e8))) ?hg ?ho ?hn ?hr ?_;(case ho=>rfl);(case hg=>rfl);(case hn=>rfl);(case hr=>first|(go_simp;done)|(go_simp;rfl));intro eh hw;have hg:fN.grownBy eh (some br):=(by rw[hw];exact db.2);have hp_:Kd.N (Kd.slice 3 (Kd.int .i64)) 45 eh w.heap.size (fun k_=>(w.heap.size<=k_)/\some k_≠(.slice a8 ag.length a5:Value).ownBlock/\k_≠ab/\k_≠ae/\k_≠g) (.slice (some ⟨br,0,none⟩) ac.length bZ) fM:=(by rw[hw,gE.out];exact db.1);clear db;replace am:=dm (nD.grown (nW) hg (nD.yP am.out aj.out (nN)));replace aa:=pF aa hg (xx aj.out aa.out (nN));replace af:=dm (sI (v:=(.slice (some ⟨br,0,none⟩) ac.length bZ)) (nH af.out) (xy aj.out) (nN) hg);replace ah:=pF ah hg (xx aj.out ah.out (nN));replace bP:=dm (zf (v:=(.slice (some ⟨br,0,none⟩) ac.length bZ)) (v1:=(.slice (some ⟨br,0,none⟩) ac.length bZ)) (ok:=(fun k_=>(w.heap.size<=k_)/\some k_≠(.slice a8 ag.length a5:Value).ownBlock/\k_≠ab/\k_≠ae/\k_≠g)) (xE bP.out) hg (.inl rfl));replace cf:=dm (zf (v:=(.slice (some ⟨br,0,none⟩) ac.length bZ)) (v1:=(.slice (some ⟨br,0,none⟩) ac.length bZ)) (ok:=(fun k_=>(w.heap.size<=k_)/\some k_≠(.slice a8 ag.length a5:Value).ownBlock/\k_≠ab/\k_≠ae/\k_≠g)) (xE cf.out) hg (.inl rfl));replace HB:=dm ((by rw[hw];exact rO (HB.out) (Nat.le_trans HL.out ij.out):Below w0.heap.size w0 eh));replace HK:=dm (oH.trans (nZ HK.out) (oH.xh hg g) (Az aj.out));replace aj:=dm (hp_);clear hg hw hp_;have⟨jB,jC,jD,jE⟩:=nJ (w:=eh) ah;have lT:=au.out;have lU:=aX.out;have⟨jF,jG,jH,jI⟩:=nJ (w:=eh) aa))
  refine bodyPost_ret (wV rfl _ _ ab 31 #[.int .i64 ak,.slice a8 ag.length a5] (0,0) _ rfl (rq) Try.underlying31 rfl (oz)) rfl ?_;exact⟨_,_,qC,by(with_reducible repeat(first|apply ol|apply om|apply nP));exact nK (nR (p:=⟨ab,1,none⟩) (nR (p:=⟨ab,0,none⟩) (oO af.out aa.out (nN)) (fun _ hk=>hk.2) (.int .i64 ak)) (fun _ hk=>hk.2) (.slice a8 ag.length a5)) (fun _ hk=>hk.1.1),by(with_reducible repeat(first|apply uL|apply uM|apply uD));exact qG (vv (p:=⟨ab,1,none⟩) (vv (p:=⟨ab,0,none⟩) (qG aj.out (fun k_ hk=>(⟨hk,hk.2.2.1⟩:_/\k_≠ab))) (fun _ hk=>hk.2) (.int .i64 ak)) (fun _ hk=>hk.2) (.slice a8 ag.length a5)) (fun _ hk=>⟨hk.1.1,hk.1.2.1⟩),nW,qx HB.out,nZ HK.out⟩
 rw[if_neg cL]at H;have eY:=beq_eq_false_iff_ne.mpr cL;have eZ:=bne_iff_ne.mpr cL
 by_cases cM:aB=2
 ·rw[if_pos cM]at H;have fd:=beq_iff_eq.mpr cM;have fe:=bne_eq_false_iff_eq.mpr cM;clear cM;obtain⟨dJ,cg⟩:∃y_:List Int,y_=(([0,1]:List Int)):=⟨_,rfl⟩;replace H:(if ac.length<5864062014805 then(some (ak,ag,(ac++[dJ]),aM)) else(none))=some (r1,r2,r3,r4):=pG cg H
  have ff:=dm cg;clear cg
  obtain⟨fg,H⟩:=qh H;have gG:=dm fg;clear fg;obtain⟨ik,ch⟩:∃y_:List (List Int),y_=(ac++[dJ]):=⟨_,rfl⟩;replace H:(some (ak,ag,ik,aM))=some (r1,r2,r3,r4):=pG ch H
  have gH:=dm ch;clear ch;simp only [Option.some.injEq,Prod.mk.injEq]at H;obtain⟨rfl,rfl,rfl,rfl⟩:=H
  go_enter Try.func71,Try.ntmps71
  go_wp2_with (first|((with_reducible refine nU 2 rfl ?_);refine oI #[.int .i64 0,.slice none 0 0] 31 ?_;intro ab hg nd nu hb;replace HB:=dm (o6 (qx HB.out) hb);have aa:=dm (nu);have bJ:=dm (oW:w.heap.size<=ab);have bK:=dm (Nat.le_trans bv.out (oW:w.heap.size<=ab):w0.heap.size<=ab);replace HK:=pq HK hb;have aX:=dm (zt:g≠ab);have au:=dm (zu:ab≠g);replace am:=dm (nD.below (nW) hb);clear hb nu hg)|((with_reducible refine og 73 rfl ?_);refine oV 11 rfl Try.func73 (p_.calls k g ao bj ak ag aC w0 _ nW (qx HB.out) A2.out) ?_;rintro e ne ⟨co,rfl,aG,hi,hb,hk⟩;refine⟨_,rfl,?_⟩;replace aa:=oQ aa au hk;have af:=dm (oJ (xA (M:=fun k_=>(w.heap.size<=k_)) aG (pR (w:=w) (g:=g) (row:=none) (nZ HK.out)) (fun k_ h_=>h_)) (pR (w:=w) (g:=g) (row:=none) (nZ HK.out)));replace HK:=qb HK hk;replace HB:=dm (hb);replace am:=dm (hi);(try clear hb hk hi aG))|((with_reducible refine nU 4 rfl ?_);refine oI #[.int .i64 0,.slice none 0 0] 31 ?_;intro ae hg g5 nu hb;have n0:=oh af hb;have n1:=dm (nD.below (nW) hb);have n2:=nA aa hb;have n3:=pq HK hb;have n4:=dm (o6 (qx HB.out) hb);have n5:=dm (nu);have n6:=dm (oW:w.heap.size<=ae);have n7:=dm (Nat.le_trans bv.out (oW:w.heap.size<=ae):w0.heap.size<=ae);have n8:=dm (zo:ab≠ae);have n9:=dm (zq:ae≠ab);have bB:=dm (zw:g≠ae);have bC:=dm (zx:ae≠g);clear af am aa HK HB;revert n0 n1 n2 n3 n4 n5 n6 n7 n8 n9 bB bC;intro af am aa HK HB ah bL bM az aE aU av;clear hb nu hg;have lV:=aE.out;have lW:=az.out;have lX:=av.out;have lY:=aU.out;have⟨jJ,jK,jL,jM⟩:=nJ (w:=g5) ah;obtain⟨ba,a9,il⟩:=nY af.out;subst il)|((with_reducible refine og 22 rfl ?_);refine vY 14 Try.func22 #[.agg #[.int .i64 ak,.slice ba ag.length a9]] ?_;(with_reducible refine(pz.calls ?o7 ?o8 A3.out).mono ?_);(case o7=>refine(nM (e:=59) (base:=w.heap.size) (ok:=fun k_=>((w.heap.size<=k_)/\True)) (n:=ag.length) (c:=a9) ?_).2.2;exact(ES));(case o8=>exact(nM af.out).2.1);rintro e nf ⟨cp,rfl,aG,hb⟩;refine⟨_,rfl,?_⟩;have aj:=dm (xw (qG (ok':=fun k_=>(w.heap.size<=k_)/\some k_≠(.slice ba ag.length a9:Value).ownBlock/\k_≠ab/\k_≠ae/\k_≠g) (Kd.S_N (xN aG)) (fun k_ hk_=>⟨(Nat.le_trans (pR (w:=w) (g:=g) (row:=none) (nZ HK.out)) hk_.2.1),(Kd.fresh' (oZ (ES)) k_ hk_.2.1),(rG (g:=ab) (o:=.cells #[.int .i64 0,.slice none 0 0] 31 (0,0)) (rq) k_ hk_.2.1),(rG (g:=ae) (o:=.cells #[.int .i64 ak,.slice ba ag.length a9] 31 (0,0)) (uk) k_ hk_.2.1),(nD.fresh (nW) k_ hk_.2.1)⟩)) (pR (w:=w) (g:=g) (row:=none) (nZ HK.out)));replace af:=dm (sW (ES) hb);replace aa:=dm (rF (g:=ab) (o:=.cells #[.int .i64 0,.slice none 0 0] 31 (0,0)) (rq) hb);replace ah:=dm (rF (g:=ae) (o:=.cells #[.int .i64 ak,.slice ba ag.length a9] 31 (0,0)) (uk) hb);replace HK:=pq HK hb;replace HB:=dm (o6 (qx HB.out) hb);replace am:=dm (nD.below (show nD w0 ((g5.setCell ⟨ae,0,none⟩ (.int .i64 ak)).setCell ⟨ae,1,none⟩ (.slice ba ag.length a9)) g ao aC from nW) hb);(try clear hb aG);obtain⟨dK,dL,im⟩:=xX aj.out;subst im)|((with_reducible refine og 104 rfl ?_);refine oV 26 rfl Try.func104 (o9.calls k g ao aC (ac.length:Int) ai a4 w0 _ nW (qx HB.out) cU.out) ?_;rintro e ng ⟨rfl,hi,hb,hk⟩;refine⟨_,rfl,?_⟩;replace aa:=oQ aa au hk;replace af:=dm (nK (qz (nD.apart (show nD w0 _ g ao aC from nW) (nH af.out) (nN)) hk (fun _ h=>h.2)) (fun _ h=>h.1));replace ah:=oQ ah av hk;replace aj:=dm (qG (xL (qG (ok:=fun k_=>(((w.heap.size<=k_))/\(some k_≠(.slice ba ag.length a9:Value).ownBlock/\(k_≠ab/\(k_≠ae/\k_≠g))))) (sM) (fun k_ hk_=>(⟨hk_,hk_.2.2.2.2⟩:_/\k_≠g))) hk (fun _ h=>h.2)) (fun _ h=>h.1));replace HK:=qb HK hk;replace HB:=dm (hb);replace am:=dm (hi);(try clear hb hk hi))|((with_reducible refine og 104 rfl ?_);refine oV 28 rfl Try.func104 (o9.calls k g ao a4 8 aB aM w0 _ nW (qx HB.out) cW.out) ?_;rintro e nh ⟨rfl,hi,hb,hk⟩;refine⟨_,rfl,?_⟩;replace aa:=oQ aa au hk;replace af:=dm (nK (qz (nD.apart (show nD w0 _ g ao a4 from nW) (nH af.out) (nN)) hk (fun _ h=>h.2)) (fun _ h=>h.1));replace ah:=oQ ah av hk;replace aj:=dm (qG (xL (qG (ok:=fun k_=>(((w.heap.size<=k_))/\(some k_≠(.slice ba ag.length a9:Value).ownBlock/\(k_≠ab/\(k_≠ae/\k_≠g))))) (sM) (fun k_ hk_=>(⟨hk_,hk_.2.2.2.2⟩:_/\k_≠g))) hk (fun _ h=>h.2)) (fun _ h=>h.1));replace HK:=qb HK hk;replace HB:=dm (hb);replace am:=dm (hi);(try clear hb hk hi))|((with_reducible refine nU 54 rfl ?_);refine rZ (Kd.int .i64) rfl 3 ([0,1]:List Int) [.int .i64 0,.int .i64 1] (oF.one (show Kd.M (Kd.int .i64) _ _ _ 0 [.int .i64 0] from rfl) (oF.one (show Kd.M (Kd.int .i64) _ _ _ 1 [.int .i64 1] from rfl) (oF.none _ _))) ?_;intro mJ ni cv hb hg_ pE;clear hg_ pE;(first|rw[←ff.out]at cv|(simp only [Int.reduceToNat]at cv;rw[←ff.out]at cv));replace af:=oh af hb;replace aj:=dm (yw (sM) (uN cv) hb);have cP:=dm (oJ (xA (M:=fun k_=>(w.heap.size<=k_)) cv (pR (w:=w) (g:=g) (row:=none) (nZ HK.out)) (fun k_ h_=>h_)) (pR (w:=w) (g:=g) (row:=none) (nZ HK.out)));replace aa:=nA aa hb;replace ah:=nA ah hb;replace HK:=pq HK hb;replace HB:=dm (o6 (qx HB.out) hb);replace am:=dm (nD.below (nW) hb);clear hb cv;obtain⟨io,iq,ir⟩:=nY cP.out;subst ir)|((with_reducible refine rR (b:=.append) (xs:= #[.tmp 53,.tmp 55]) rfl ?_);at_builtin;refine KL (Kd.slice 3 (Kd.int .i64)) w.heap.size rfl (.tmp 53) (.tmp 55) 25 45 (.slice none 0 0) 24 rfl Try.underlying25 zC rfl (nN) (by omega) (.slice dK ac.length dL) ac dJ [.slice io dJ.length iq] (fun k_=>(w.heap.size<=k_)/\some k_≠(.slice ba ag.length a9:Value).ownBlock/\k_≠ab/\k_≠ae/\k_≠g) (fun k_=>((fun k_=>(w.heap.size<=k_)/\some k_≠(.slice ba ag.length a9:Value).ownBlock/\k_≠ab/\k_≠ae/\k_≠g)) k_/\some k_≠(.slice dK ac.length dL:Value).ownBlock) rfl rfl ?aP (fun _ hk=>hk) ?aF ?aO (Below.refl _ _) ?aS ?aL ?_;(case aP=>exact(BJ (nM (nK (ok':=(fun k_=>((fun k_=>(w.heap.size<=k_)/\some k_≠(.slice ba ag.length a9:Value).ownBlock/\k_≠ab/\k_≠ae/\k_≠g)) k_/\some k_≠(.slice dK ac.length dL:Value).ownBlock)) (nD.apart am.out (oO (oO (wu (wu (cP.out) (sJ af.out) (nN)) (xy aj.out) (nN)) aa.out (nN)) ah.out (nN)) (nN)) (fun k_ hk=>⟨⟨hk.1.1.1.1.1.1,⟨hk.1.1.1.1.2,⟨hk.1.1.2,⟨hk.1.2,hk.2⟩⟩⟩⟩,hk.1.1.1.2⟩))).2.1 (Kd.R_F (nK (ok':=(fun k_=>((fun k_=>(w.heap.size<=k_)/\some k_≠(.slice ba ag.length a9:Value).ownBlock/\k_≠ab/\k_≠ae/\k_≠g)) k_/\some k_≠(.slice dK ac.length dL:Value).ownBlock)) (nD.apart am.out (oO (oO (wu (wu (cP.out) (sJ af.out) (nN)) (xy aj.out) (nN)) aa.out (nN)) ah.out (nN)) (nN)) (fun k_ hk=>⟨⟨hk.1.1.1.1.1.1,⟨hk.1.1.1.1.2,⟨hk.1.1.2,⟨hk.1.2,hk.2⟩⟩⟩⟩,hk.1.1.1.2⟩)))));(case aF=>exact(fun k_ hk=>⟨(Nat.le_trans (pR (w:=w) (g:=g) (row:=none) (nZ HK.out)) hk),Kd.fresh' (oZ (nH af.out)) k_ hk,rG (g:=ab) (o:=.cells #[.int .i64 0,.slice none 0 0] 31 (0,0)) (nE aa.out) k_ hk,rG (g:=ae) (o:=.cells #[.int .i64 ak,.slice ba ag.length a9] 31 (0,0)) (nE ah.out) k_ hk,nD.fresh (nW) k_ hk⟩));(case aO=>exact(by(with_reducible repeat(first|apply uL|apply uM|apply uD));exact qG aj.out (fun _ hk=>⟨hk.1.1,⟨hk.1.2.1,⟨hk.1.2.2.1,⟨hk.1.2.2.2.1,hk.1.2.2.2.2⟩⟩⟩⟩)));(case aS=>exact(pR (w:=w) (g:=g) (row:=none) (nZ HK.out)));(case aL=>have:=gG.out;omega);intro mK g6 ho hb hg hat;rw[←gH.out]at ho;have n0:=dm (nD.grown (nW) hg (nD.yP am.out aj.out (nN)));have n1:=pF aa hg (xx aj.out aa.out (nN));have n2:=dm (sI (nH af.out) (xy (sM)) (nN) hg);have n3:=pF ah hg (xx aj.out ah.out (nN));have n4:=dm (yH (qx HB.out) HL.out hb);have n5:=dm (oH.trans (nZ HK.out) (oH.xh hg g) (Az aj.out));have n6:=dm (ho);clear am aa af ah HB HK aj cP;revert n0 n1 n2 n3 n4 n5 n6;intro am aa af ah HB HK gI;clear ho hb hg hat;have⟨jN,jO,jP,jQ⟩:=nJ (w:=g6) ah;have lZ:=au.out;have l1:=aX.out;have⟨jR,jS,jT,jU⟩:=nJ (w:=g6) aa))
  refine bodyPost_ret (wV rfl _ _ ab 31 #[.int .i64 ak,.slice ba ag.length a9] (0,0) _ rfl (rq) Try.underlying31 rfl (oz)) rfl ?_;exact⟨_,_,qC,by(with_reducible repeat(first|apply ol|apply om|apply nP));exact nK (nR (p:=⟨ab,1,none⟩) (nR (p:=⟨ab,0,none⟩) (oO af.out aa.out (nN)) (fun _ hk=>hk.2) (.int .i64 ak)) (fun _ hk=>hk.2) (.slice ba ag.length a9)) (fun _ hk=>hk.1.1),by(with_reducible repeat(first|apply uL|apply uM|apply uD));exact qG (vv (p:=⟨ab,1,none⟩) (vv (p:=⟨ab,0,none⟩) (qG gI.out (fun k_ hk=>(⟨hk,hk.2.2.1⟩:_/\k_≠ab))) (fun _ hk=>hk.2) (.int .i64 ak)) (fun _ hk=>hk.2) (.slice ba ag.length a9)) (fun _ hk=>⟨hk.1.1,hk.1.2.1⟩),nW,qx HB.out,nZ HK.out⟩
 rw[if_neg cM]at H;have fd:=beq_eq_false_iff_ne.mpr cM;have fe:=bne_iff_ne.mpr cM
 by_cases cN:aB=3
 ·rw[if_pos cN]at H;have fh:=beq_iff_eq.mpr cN;have fi:=bne_eq_false_iff_eq.mpr cN;clear cN
  obtain⟨l2,H⟩:=oC H
  obtain⟨l3,H⟩:=oC H;obtain⟨⟨aY,dM⟩,kD,H⟩:=ow H;(try dsimp only at H);obtain⟨⟨bq,f7⟩,kE,H⟩:=ow H;(try dsimp only at H)
  obtain⟨kF,H⟩:=oC H
  obtain⟨kG,H⟩:=oC H;simp only [Option.some.injEq,Prod.mk.injEq]at H;obtain⟨rfl,rfl,rfl,rfl⟩:=H
  go_enter Try.func71,Try.ntmps71;try go_wp2_with (first|((with_reducible refine nU 2 rfl ?_);refine oI #[.int .i64 0,.slice none 0 0] 31 ?_;intro ab hg mL nu hb;replace HB:=dm (o6 (qx HB.out) hb);have aa:=dm (nu);have bJ:=dm (oW:w.heap.size<=ab);have bK:=dm (Nat.le_trans bv.out (oW:w.heap.size<=ab):w0.heap.size<=ab);replace HK:=pq HK hb;have aX:=dm (zt:g≠ab);have au:=dm (zu:ab≠g);replace am:=dm (nD.below (nW) hb);clear hb nu hg)|((with_reducible refine og 73 rfl ?_);refine oV 11 rfl Try.func73 (p_.calls k g ao bj ak ag aC w0 _ nW (qx HB.out) A2.out) ?_;rintro e mM ⟨co,rfl,aG,hi,hb,hk⟩;refine⟨_,rfl,?_⟩;replace aa:=oQ aa au hk;have af:=dm (oJ (xA (M:=fun k_=>(w.heap.size<=k_)) aG (pR (w:=w) (g:=g) (row:=none) (nZ HK.out)) (fun k_ h_=>h_)) (pR (w:=w) (g:=g) (row:=none) (nZ HK.out)));replace HK:=qb HK hk;replace HB:=dm (hb);replace am:=dm (hi);(try clear hb hk hi aG))|((with_reducible refine nU 4 rfl ?_);refine oI #[.int .i64 0,.slice none 0 0] 31 ?_;intro ae hg f8 nu hb;have n0:=oh af hb;have n1:=dm (nD.below (nW) hb);have n2:=nA aa hb;have n3:=pq HK hb;have n4:=dm (o6 (qx HB.out) hb);have n5:=dm (nu);have n6:=dm (oW:w.heap.size<=ae);have n7:=dm (Nat.le_trans bv.out (oW:w.heap.size<=ae):w0.heap.size<=ae);have n8:=dm (zo:ab≠ae);have n9:=dm (zq:ae≠ab);have bB:=dm (zw:g≠ae);have bC:=dm (zx:ae≠g);clear af am aa HK HB;revert n0 n1 n2 n3 n4 n5 n6 n7 n8 n9 bB bC;intro af am aa HK HB ah bL bM az aE aU av;clear hb nu hg;have kH:=aE.out;have kI:=az.out;have kJ:=av.out;have kK:=aU.out;have⟨iu,iv,iw,ix⟩:=nJ (w:=f8) ah;obtain⟨a3,aZ,gJ⟩:=nY af.out;subst gJ)|((with_reducible refine og 22 rfl ?_);refine vY 14 Try.func22 #[.agg #[.int .i64 ak,.slice a3 ag.length aZ]] ?_;(with_reducible refine(pz.calls ?o7 ?o8 A3.out).mono ?_);(case o7=>refine(nM (e:=59) (base:=w.heap.size) (ok:=fun k_=>((w.heap.size<=k_)/\True)) (n:=ag.length) (c:=aZ) ?_).2.2;exact(EF));(case o8=>exact(nM af.out).2.1);rintro e mN ⟨cp,rfl,aG,hb⟩;refine⟨_,rfl,?_⟩;have aj:=dm (AQ (uX (ok':=fun k_=>(w.heap.size<=k_)/\some k_≠(.slice a3 ag.length aZ:Value).ownBlock/\k_≠ab/\k_≠ae/\k_≠g) (xN aG) (fun k_ hk_=>⟨(Nat.le_trans (pR (w:=w) (g:=g) (row:=none) (nZ HK.out)) hk_.2.1),(Kd.fresh' (oZ (EF)) k_ hk_.2.1),(rG (g:=ab) (o:=.cells #[.int .i64 0,.slice none 0 0] 31 (0,0)) (rq) k_ hk_.2.1),(rG (g:=ae) (o:=.cells #[.int .i64 ak,.slice a3 ag.length aZ] 31 (0,0)) (uk) k_ hk_.2.1),(nD.fresh (nW) k_ hk_.2.1)⟩)) (pR (w:=w) (g:=g) (row:=none) (nZ HK.out)));replace af:=dm (sW (EF) hb);replace aa:=dm (rF (g:=ab) (o:=.cells #[.int .i64 0,.slice none 0 0] 31 (0,0)) (rq) hb);replace ah:=dm (rF (g:=ae) (o:=.cells #[.int .i64 ak,.slice a3 ag.length aZ] 31 (0,0)) (uk) hb);replace HK:=pq HK hb;replace HB:=dm (o6 (qx HB.out) hb);replace am:=dm (nD.below (show nD w0 ((f8.setCell ⟨ae,0,none⟩ (.int .i64 ak)).setCell ⟨ae,1,none⟩ (.slice a3 ag.length aZ)) g ao aC from nW) hb);(try clear hb aG);obtain⟨l4,cQ,gK⟩:=El aj.out;subst gK)|((with_reducible refine og 104 rfl ?_);refine oV 26 rfl Try.func104 (o9.calls k g ao aC (ac.length:Int) ai a4 w0 _ nW (qx HB.out) cU.out) ?_;rintro e mO ⟨rfl,hi,hb,hk⟩;refine⟨_,rfl,?_⟩;replace aa:=oQ aa au hk;replace af:=dm (nK (qz (nD.apart (show nD w0 _ g ao aC from nW) (nH af.out) (nN)) hk (fun _ h=>h.2)) (fun _ h=>h.1));replace ah:=oQ ah av hk;replace aj:=dm (uX (BS (uX (ok:=fun k_=>(((w.heap.size<=k_))/\(some k_≠(.slice a3 ag.length aZ:Value).ownBlock/\(k_≠ab/\(k_≠ae/\k_≠g))))) (Cq) (fun k_ hk_=>(⟨hk_,hk_.2.2.2.2⟩:_/\k_≠g))) hk (fun _ h=>h.2)) (fun _ h=>h.1));replace HK:=qb HK hk;replace HB:=dm (hb);replace am:=dm (hi);(try clear hb hk hi))|((with_reducible refine og 104 rfl ?_);refine oV 28 rfl Try.func104 (o9.calls k g ao a4 8 aB aM w0 _ nW (qx HB.out) cW.out) ?_;rintro e iy ⟨rfl,hi,hb,hk⟩;refine⟨_,rfl,?_⟩;replace aa:=oQ aa au hk;replace af:=dm (nK (qz (nD.apart (show nD w0 _ g ao a4 from nW) (nH af.out) (nN)) hk (fun _ h=>h.2)) (fun _ h=>h.1));replace ah:=oQ ah av hk;replace aj:=dm (uX (BS (uX (ok:=fun k_=>(((w.heap.size<=k_))/\(some k_≠(.slice a3 ag.length aZ:Value).ownBlock/\(k_≠ab/\(k_≠ae/\k_≠g))))) (Cq) (fun k_ hk_=>(⟨hk_,hk_.2.2.2.2⟩:_/\k_≠g))) hk (fun _ h=>h.2)) (fun _ h=>h.1));replace HK:=qb HK hk;replace HB:=dm (hb);replace am:=dm (hi);(try clear hb hk hi)))
  replace af:=dm (nP af.out);replace aj:=dm (vz aj.out);replace aa:=dm (oq aa.out);replace ah:=dm (oq ah.out);replace am:=dm (nD.drew am.out);replace HK:=dm (vJ HK.out);replace HB:=dm (pI HB.out);have dc:0<=(ai:Int):=nC;have dd:ai<(ac.length:Int):=nC;obtain⟨bF,ei,ej,iz,bR,dr,dt⟩:=sK (rf (Kd.S_N aj.out)).2.2 ai dc dd;cases iz;obtain⟨l5,f9,f_,ek⟩:=AB (Kd.S_N aj.out) [] ai dc (by first|exact dd|exact of_decide_eq_true (wz)|(have e_:=(rf (Kd.S_N aj.out)).1;omega));obtain⟨jV,jW,rfl,cw,cx⟩:=xW f_;have bS:=ek 0 _ rfl;rw[Nat.add_zero,show((Kd.slice 3 (Kd.int .i64))).sz=1 from rfl,Nat.mul_one]at bS;replace bS:=Option.some.inj (bS.symm.trans bR);injection bS with wD yj wE;rw[wD]at cx;rw[wE]at cw;have bm:=dm (show Kd.V (Kd.int .i64) 3 _ w.heap.size _ _ (nL ac ai) from yF cw cx);clear wD yj wE cx cw;clear ek f9;have fx:=dm dt;have jX:=dm dr;clear dt dr;replace dc:=eq_true dc;replace dd:=eq_true dd;have dP:0<=(ai:Int):=nC;have dQ:ai<(ac.length:Int):=nC;obtain⟨gM,kL,kM,iA,bT,du,dv⟩:=sK (rf (Kd.S_N aj.out)).2.2 ai dP dQ;obtain rfl:bF=gM:=(by injection iA);obtain⟨l6,ga,gb,el⟩:=AB (Kd.S_N aj.out) [] ai dP (by first|exact dQ|exact of_decide_eq_true (wz)|(have e_:=(rf (Kd.S_N aj.out)).1;omega));obtain⟨jY,jZ,rfl,cy,cz⟩:=xW gb;have bU:=el 0 _ rfl;rw[Nat.add_zero,show((Kd.slice 3 (Kd.int .i64))).sz=1 from rfl,Nat.mul_one]at bU;replace bU:=Option.some.inj (bU.symm.trans bT);injection bU with wD yj wE;rw[wD]at cz;rw[wE]at cy;have bn:=dm (show Kd.V (Kd.int .i64) 3 _ w.heap.size _ _ (nL ac ai) from yF cy cz);clear wD yj wE cz cy;clear el ga;have fy:=dm dv;have j0:=dm du;clear dv du;replace dP:=eq_true dP;replace dQ:=eq_true dQ;have ea_:=Option.some.inj (bR.symm.trans bT);injection ea_ with ea_ en_ ec_;subst ea_;subst ec_;clear en_;refine qc 15 (S:=fun w'=>w'.cell? (bF.add (ai).toNat)=some (.slice ei (nL ac ai).length ej)/\w'.cell? (bF.add (ai).toNat)=some (.slice ei (nL ac ai).length ej)) [14] ⟨bR,bT⟩ rQ.zO rQ.zk (fun hHeld HT_ HW_=>?_);generalize iy.drew=mP at af aj aa ah am HK HB bm bn fx fy bR bT hHeld⊢;refine lq 0 59 1 ?_;refine lq 1 60 3 ?_;refine lq 2 61 7 ?_;refine lq 4 63 23 ?_;refine lq 5 64 55 ?_;refine lq 6 65 119 ?_;refine lq 7 66 247 ?_;refine lq 11 70 2295 ?_;refine nT 3 62 2303 ?_;refine nT 8 67 2559 ?_;refine lq 9 68 3071 ?_;refine oN 10 69 4095 (fun K hK=>?_);refine qd Try.func104 (o9.calls k g ao aM ((nL ac ai).length:Int) aY dM w0 _ nW (qx HB.out) kD.out) ?_;rintro e mQ ⟨rfl,hi,hb,hk⟩;have dR:=Af hk (hHeld.1) (Co);have ez:=Af hk (hHeld.2) (Co);refine⟨_,rfl,?_⟩;replace aa:=oQ aa au hk;replace af:=dm (nK (qz (nD.apart (show nD w0 _ g ao aM from nW) (nH af.out) (nN)) hk (fun _ h=>h.2)) (fun _ h=>h.1));replace ah:=oQ ah av hk;replace aj:=dm (uX (BS (uX (ok:=fun k_=>(((w.heap.size<=k_))/\(some k_≠(.slice a3 ag.length aZ:Value).ownBlock/\(k_≠ab/\(k_≠ae/\k_≠g))))) (Cq) (fun k_ hk_=>(⟨hk_,hk_.2.2.2.2⟩:_/\k_≠g))) hk (fun _ h=>h.2)) (fun _ h=>h.1));replace bm:=dm (wR (B_ (wR (ok:=fun k_=>((((w.heap.size<=k_))/\(some k_≠(.slice a3 ag.length aZ:Value).ownBlock/\(k_≠ab/\(k_≠ae/\k_≠g))))/\some k_≠(.slice (some bF) ac.length cQ:Value).ownBlock)) (xE bm.out) (fun k_ hk_=>(⟨hk_,hk_.1.2.2.2.2⟩:_/\k_≠g))) hk (fun _ h=>h.2)) (fun _ h=>h.1));replace bn:=dm (wR (B_ (wR (ok:=fun k_=>((((w.heap.size<=k_))/\(some k_≠(.slice a3 ag.length aZ:Value).ownBlock/\(k_≠ab/\(k_≠ae/\k_≠g))))/\some k_≠(.slice (some bF) ac.length cQ:Value).ownBlock)) (xE bn.out) (fun k_ hk_=>(⟨hk_,hk_.1.2.2.2.2⟩:_/\k_≠g))) hk (fun _ h=>h.2)) (fun _ h=>h.1));replace HK:=qb HK hk;replace HB:=dm (hb);replace am:=dm (hi);(try clear hb nj hk hi);refine hK.out _ _ ⟨dR,ez⟩ (fun hHeld=>?_);clear hK K;refine nX 69 ?_;refine oN 12 71 8191 (fun K hK=>?_);refine qd Try.func104 (o9.calls k g ao dM 9 bq f7 w0 _ nW (qx HB.out) kE.out) ?_;rintro e eA ⟨rfl,hi,hb,hk⟩;have dR:=Af hk (hHeld.1) (Co);have ez:=Af hk (hHeld.2) (Co);refine⟨_,rfl,?_⟩;replace aa:=oQ aa au hk;replace af:=dm (nK (qz (nD.apart (show nD w0 _ g ao dM from nW) (nH af.out) (nN)) hk (fun _ h=>h.2)) (fun _ h=>h.1));replace ah:=oQ ah av hk;replace aj:=dm (uX (BS (uX (ok:=fun k_=>(((w.heap.size<=k_))/\(some k_≠(.slice a3 ag.length aZ:Value).ownBlock/\(k_≠ab/\(k_≠ae/\k_≠g))))) (Cq) (fun k_ hk_=>(⟨hk_,hk_.2.2.2.2⟩:_/\k_≠g))) hk (fun _ h=>h.2)) (fun _ h=>h.1));replace bm:=dm (wR (B_ (wR (ok:=fun k_=>((((w.heap.size<=k_))/\(some k_≠(.slice a3 ag.length aZ:Value).ownBlock/\(k_≠ab/\(k_≠ae/\k_≠g))))/\some k_≠(.slice (some bF) ac.length cQ:Value).ownBlock)) (xE bm.out) (fun k_ hk_=>(⟨hk_,hk_.1.2.2.2.2⟩:_/\k_≠g))) hk (fun _ h=>h.2)) (fun _ h=>h.1));replace bn:=dm (wR (B_ (wR (ok:=fun k_=>((((w.heap.size<=k_))/\(some k_≠(.slice a3 ag.length aZ:Value).ownBlock/\(k_≠ab/\(k_≠ae/\k_≠g))))/\some k_≠(.slice (some bF) ac.length cQ:Value).ownBlock)) (xE bn.out) (fun k_ hk_=>(⟨hk_,hk_.1.2.2.2.2⟩:_/\k_≠g))) hk (fun _ h=>h.2)) (fun _ h=>h.1));replace HK:=qb HK hk;replace HB:=dm (hb);replace am:=dm (hi);(try clear hb hk hi);have eB:0<=(aY:Int):=nC;have eC:aY<((nL ac ai).length:Int):=nC;obtain⟨ge_,hA_,hok_,⟨cs_,hc_⟩,⟨y_,hy_⟩,hfr_,hS_⟩:=OC aj.out ai aY bq (of_eq_true dc) (of_eq_true dd) eB eC dR;subst hA_;replace eB:=eq_true eB;replace eC:=eq_true eC;refine hK.out _ _ ⟨dR,ez⟩ (fun hHeld=>?_);clear hK K;refine nX 71 ?_;refine lq 13 72 16383 ?_;refine uT 14 (none) (pQ 15 32767) (fun K hK=>?_);refine tF (w1:= ?_) (by rfl) rfl ?_ ?_;rotate_left
  ·go_simp
   rfl
  refine hK.out _ _ ?_;clear hK K;refine pY (p8 HT_.out (oz)) ?_;have n0:=dm (wU ah.out (p:=⟨ge_,(aY).toNat,none⟩) (Ne.symm (hok_.2.2.2.1)) (.int .i64 bq));have n1:=dm (wU aa.out (p:=⟨ge_,(aY).toNat,none⟩) (Ne.symm (hok_.2.2.1)) (.int .i64 bq));have n2:=dm (KY af.out hc_ (nN) (aY).toNat (.int .i64 bq));have n3:=dm (Kd.S_N hS_);have n4:=dm (nD.far am.out (p:=⟨ge_,(aY).toNat,none⟩) (Ne.symm (hok_.2.2.2.2)) (.int .i64 bq));have n5:=dm (yM HK.out (p:=⟨ge_,(aY).toNat,none⟩) hok_.1 (.int .i64 bq));have n6:=dm (rO HB.out (Nat.le_trans HL.out hok_.1) (j:=(aY).toNat) (v:=.int .i64 bq));clear ah aa af aj am HK HB;have hwq:eA.setCell ⟨ge_,(aY).toNat,none⟩ (.int .i64 bq)=eA.setCell ⟨ge_,(aY).toNat,none⟩ (.int .i64 bq):=rfl;revert n0 n1 n2 n3 n4 n5 n6;intro ah aa af aj am HK HB;clear hwq;generalize eA.setCell ⟨ge_,(aY).toNat,none⟩ (.int .i64 bq)=wq_ at ah aa af aj am HK HB⊢;have⟨iB,iC,iD,iE⟩:=nJ (w:=wq_) ah;have kN:=au.out;have kO:=aX.out;have⟨iF,iG,iH,iI⟩:=nJ (w:=wq_) aa;try go_wp2
  refine bodyPost_ret (wV rfl _ _ ab 31 #[.int .i64 ak,.slice a3 ag.length aZ] (0,0) _ rfl (rq) Try.underlying31 rfl (oz)) rfl ?_;exact⟨_,_,qC,by(with_reducible repeat(first|apply ol|apply om|apply nP));exact nK (nR (p:=⟨ab,1,none⟩) (nR (p:=⟨ab,0,none⟩) (oO af.out aa.out (nN)) (fun _ hk=>hk.2) (.int .i64 ak)) (fun _ hk=>hk.2) (.slice a3 ag.length aZ)) (fun _ hk=>hk.1.1),by(with_reducible repeat(first|apply uL|apply uM|apply uD));exact qG (vv (p:=⟨ab,1,none⟩) (vv (p:=⟨ab,0,none⟩) (qG aj.out (fun k_ hk=>(⟨hk,hk.2.2.1⟩:_/\k_≠ab))) (fun _ hk=>hk.2) (.int .i64 ak)) (fun _ hk=>hk.2) (.slice a3 ag.length aZ)) (fun _ hk=>⟨hk.1.1,hk.1.2.1⟩),nW,qx HB.out,nZ HK.out⟩
 rw[if_neg cN]at H;have fh:=beq_eq_false_iff_ne.mpr cN;have fi:=bne_iff_ne.mpr cN
 by_cases b3:aB=4;rotate_left
 ·rw[if_neg b3]at H;have em:=beq_eq_false_iff_ne.mpr b3;have en:=bne_iff_ne.mpr b3;simp only [Option.some.injEq,Prod.mk.injEq]at H;obtain⟨rfl,rfl,rfl,rfl⟩:=H
  go_enter Try.func71,Try.ntmps71
  go_wp2_with (first|((with_reducible refine nU 2 rfl ?_);refine oI #[.int .i64 0,.slice none 0 0] 31 ?_;intro ab hg m0 nu hb;replace HB:=dm (o6 (qx HB.out) hb);have aa:=dm (nu);have bJ:=dm (oW:w.heap.size<=ab);have bK:=dm (Nat.le_trans bv.out (oW:w.heap.size<=ab):w0.heap.size<=ab);replace HK:=pq HK hb;have aX:=dm (zt:g≠ab);have au:=dm (zu:ab≠g);replace am:=dm (nD.below (nW) hb);clear hb nu hg)|((with_reducible refine og 73 rfl ?_);refine oV 11 rfl Try.func73 (p_.calls k g ao bj ak ag aC w0 _ nW (qx HB.out) A2.out) ?_;rintro e m1 ⟨co,rfl,aG,hi,hb,hk⟩;refine⟨_,rfl,?_⟩;replace aa:=oQ aa au hk;have af:=dm (oJ (xA (M:=fun k_=>(w.heap.size<=k_)) aG (pR (w:=w) (g:=g) (row:=none) (nZ HK.out)) (fun k_ h_=>h_)) (pR (w:=w) (g:=g) (row:=none) (nZ HK.out)));replace HK:=qb HK hk;replace HB:=dm (hb);replace am:=dm (hi);(try clear hb hk hi aG))|((with_reducible refine nU 4 rfl ?_);refine oI #[.int .i64 0,.slice none 0 0] 31 ?_;intro ae hg gu nu hb;have n0:=oh af hb;have n1:=dm (nD.below (nW) hb);have n2:=nA aa hb;have n3:=pq HK hb;have n4:=dm (o6 (qx HB.out) hb);have n5:=dm (nu);have n6:=dm (oW:w.heap.size<=ae);have n7:=dm (Nat.le_trans bv.out (oW:w.heap.size<=ae):w0.heap.size<=ae);have n8:=dm (zo:ab≠ae);have n9:=dm (zq:ae≠ab);have bB:=dm (zw:g≠ae);have bC:=dm (zx:ae≠g);clear af am aa HK HB;revert n0 n1 n2 n3 n4 n5 n6 n7 n8 n9 bB bC;intro af am aa HK HB ah bL bM az aE aU av;clear hb nu hg;have lc:=aE.out;have ld:=az.out;have le:=av.out;have lf:=aU.out;have⟨iU,iV,iW,iX⟩:=nJ (w:=gu) ah;obtain⟨bh,bd,gW⟩:=nY af.out;subst gW)|((with_reducible refine og 22 rfl ?_);refine vY 14 Try.func22 #[.agg #[.int .i64 ak,.slice bh ag.length bd]] ?_;(with_reducible refine(pz.calls ?o7 ?o8 A3.out).mono ?_);(case o7=>refine(nM (e:=59) (base:=w.heap.size) (ok:=fun k_=>((w.heap.size<=k_)/\True)) (n:=ag.length) (c:=bd) ?_).2.2;exact(EO));(case o8=>exact(nM af.out).2.1);rintro e m2 ⟨cp,rfl,aG,hb⟩;refine⟨_,rfl,?_⟩;have aj:=dm (xw (qG (ok':=fun k_=>(w.heap.size<=k_)/\some k_≠(.slice bh ag.length bd:Value).ownBlock/\k_≠ab/\k_≠ae/\k_≠g) (Kd.S_N (xN aG)) (fun k_ hk_=>⟨(Nat.le_trans (pR (w:=w) (g:=g) (row:=none) (nZ HK.out)) hk_.2.1),(Kd.fresh' (oZ (EO)) k_ hk_.2.1),(rG (g:=ab) (o:=.cells #[.int .i64 0,.slice none 0 0] 31 (0,0)) (rq) k_ hk_.2.1),(rG (g:=ae) (o:=.cells #[.int .i64 ak,.slice bh ag.length bd] 31 (0,0)) (uk) k_ hk_.2.1),(nD.fresh (nW) k_ hk_.2.1)⟩)) (pR (w:=w) (g:=g) (row:=none) (nZ HK.out)));replace af:=dm (sW (EO) hb);replace aa:=dm (rF (g:=ab) (o:=.cells #[.int .i64 0,.slice none 0 0] 31 (0,0)) (rq) hb);replace ah:=dm (rF (g:=ae) (o:=.cells #[.int .i64 ak,.slice bh ag.length bd] 31 (0,0)) (uk) hb);replace HK:=pq HK hb;replace HB:=dm (o6 (qx HB.out) hb);replace am:=dm (nD.below (show nD w0 ((gu.setCell ⟨ae,0,none⟩ (.int .i64 ak)).setCell ⟨ae,1,none⟩ (.slice bh ag.length bd)) g ao aC from nW) hb);(try clear hb aG);obtain⟨mg,mh,gX⟩:=xX aj.out;subst gX)|((with_reducible refine og 104 rfl ?_);refine oV 26 rfl Try.func104 (o9.calls k g ao aC (ac.length:Int) ai a4 w0 _ nW (qx HB.out) cU.out) ?_;rintro e m3 ⟨rfl,hi,hb,hk⟩;refine⟨_,rfl,?_⟩;replace aa:=oQ aa au hk;replace af:=dm (nK (qz (nD.apart (show nD w0 _ g ao aC from nW) (nH af.out) (nN)) hk (fun _ h=>h.2)) (fun _ h=>h.1));replace ah:=oQ ah av hk;replace aj:=dm (qG (xL (qG (ok:=fun k_=>(((w.heap.size<=k_))/\(some k_≠(.slice bh ag.length bd:Value).ownBlock/\(k_≠ab/\(k_≠ae/\k_≠g))))) (sM) (fun k_ hk_=>(⟨hk_,hk_.2.2.2.2⟩:_/\k_≠g))) hk (fun _ h=>h.2)) (fun _ h=>h.1));replace HK:=qb HK hk;replace HB:=dm (hb);replace am:=dm (hi);(try clear hb hk hi))|((with_reducible refine og 104 rfl ?_);refine oV 28 rfl Try.func104 (o9.calls k g ao a4 8 aB aM w0 _ nW (qx HB.out) cW.out) ?_;rintro e gv ⟨rfl,hi,hb,hk⟩;refine⟨_,rfl,?_⟩;replace aa:=oQ aa au hk;replace af:=dm (nK (qz (nD.apart (show nD w0 _ g ao a4 from nW) (nH af.out) (nN)) hk (fun _ h=>h.2)) (fun _ h=>h.1));replace ah:=oQ ah av hk;replace aj:=dm (qG (xL (qG (ok:=fun k_=>(((w.heap.size<=k_))/\(some k_≠(.slice bh ag.length bd:Value).ownBlock/\(k_≠ab/\(k_≠ae/\k_≠g))))) (sM) (fun k_ hk_=>(⟨hk_,hk_.2.2.2.2⟩:_/\k_≠g))) hk (fun _ h=>h.2)) (fun _ h=>h.1));replace HK:=qb HK hk;replace HB:=dm (hb);replace am:=dm (hi);(try clear hb hk hi);have⟨iY,iZ,i1,i2⟩:=nJ (w:=gv) ah;have lg:=au.out;have lh:=aX.out;have⟨i3,i4,i5,i6⟩:=nJ (w:=gv) aa))
  refine bodyPost_ret (wV rfl _ _ ab 31 #[.int .i64 ak,.slice bh ag.length bd] (0,0) _ rfl (rq) Try.underlying31 rfl (oz)) rfl ?_;exact⟨_,_,qC,by(with_reducible repeat(first|apply ol|apply om|apply nP));exact nK (nR (p:=⟨ab,1,none⟩) (nR (p:=⟨ab,0,none⟩) (oO af.out aa.out (nN)) (fun _ hk=>hk.2) (.int .i64 ak)) (fun _ hk=>hk.2) (.slice bh ag.length bd)) (fun _ hk=>hk.1.1),by(with_reducible repeat(first|apply uL|apply uM|apply uD));exact qG (vv (p:=⟨ab,1,none⟩) (vv (p:=⟨ab,0,none⟩) (qG aj.out (fun k_ hk=>(⟨hk,hk.2.2.1⟩:_/\k_≠ab))) (fun _ hk=>hk.2) (.int .i64 ak)) (fun _ hk=>hk.2) (.slice bh ag.length bd)) (fun _ hk=>⟨hk.1.1,hk.1.2.1⟩),nW,qx HB.out,nZ HK.out⟩
 rw[if_pos b3]at H;have em:=beq_iff_eq.mpr b3;have en:=bne_eq_false_iff_eq.mpr b3;clear b3;obtain⟨gc,ci⟩:∃y_:List Int,y_=(([]:List Int)):=⟨_,rfl⟩;replace H:(if 0<=ai then(if ai<(ac.length:Int) then(rQ.l0 k ac ai gc (wrap64 (((nL ac ai).length:Int) - 1)) ao aM ak ag) else(none)) else(none))=some (r1,r2,r3,r4):=pG ci H
 have fm:=dm ci;clear ci
 obtain⟨gf,H⟩:=oC H
 obtain⟨gg,H⟩:=oC H;have H':=dm H;clear H
 go_enter Try.func71,Try.ntmps71
 go_wp2_with (first|((with_reducible refine nU 2 rfl ?_);refine oI #[.int .i64 0,.slice none 0 0] 31 ?_;intro ab hg mR nu hb;replace HB:=dm (o6 (qx HB.out) hb);have aa:=dm (nu);have bJ:=dm (oW:w.heap.size<=ab);have bK:=dm (Nat.le_trans bv.out (oW:w.heap.size<=ab):w0.heap.size<=ab);replace HK:=pq HK hb;have aX:=dm (zt:g≠ab);have au:=dm (zu:ab≠g);replace am:=dm (nD.below (nW) hb);clear hb nu hg)|((with_reducible refine og 73 rfl ?_);refine oV 11 rfl Try.func73 (p_.calls k g ao bj ak ag aC w0 _ nW (qx HB.out) A2.out) ?_;rintro e mS ⟨co,rfl,aG,hi,hb,hk⟩;refine⟨_,rfl,?_⟩;replace aa:=oQ aa au hk;have af:=dm (oJ (xA (M:=fun k_=>(w.heap.size<=k_)) aG (pR (w:=w) (g:=g) (row:=none) (nZ HK.out)) (fun k_ h_=>h_)) (pR (w:=w) (g:=g) (row:=none) (nZ HK.out)));replace HK:=qb HK hk;replace HB:=dm (hb);replace am:=dm (hi);(try clear hb hk hi aG))|((with_reducible refine nU 4 rfl ?_);refine oI #[.int .i64 0,.slice none 0 0] 31 ?_;intro ae hg gh nu hb;have n0:=oh af hb;have n1:=dm (nD.below (nW) hb);have n2:=nA aa hb;have n3:=pq HK hb;have n4:=dm (o6 (qx HB.out) hb);have n5:=dm (nu);have n6:=dm (oW:w.heap.size<=ae);have n7:=dm (Nat.le_trans bv.out (oW:w.heap.size<=ae):w0.heap.size<=ae);have n8:=dm (zo:ab≠ae);have n9:=dm (zq:ae≠ab);have bB:=dm (zw:g≠ae);have bC:=dm (zx:ae≠g);clear af am aa HK HB;revert n0 n1 n2 n3 n4 n5 n6 n7 n8 n9 bB bC;intro af am aa HK HB ah bL bM az aE aU av;clear hb nu hg;have kP:=aE.out;have kQ:=az.out;have kR:=av.out;have kS:=aU.out;have⟨eD,eE,eF,eG⟩:=nJ (w:=gh) ah;obtain⟨aQ,aN,gN⟩:=nY af.out;subst gN)|((with_reducible refine og 22 rfl ?_);refine vY 14 Try.func22 #[.agg #[.int .i64 ak,.slice aQ ag.length aN]] ?_;(with_reducible refine(pz.calls ?o7 ?o8 A3.out).mono ?_);(case o7=>refine(nM (e:=59) (base:=w.heap.size) (ok:=fun k_=>((w.heap.size<=k_)/\True)) (n:=ag.length) (c:=aN) ?_).2.2;exact(EG));(case o8=>exact(nM af.out).2.1);rintro e mT ⟨cp,rfl,aG,hb⟩;refine⟨_,rfl,?_⟩;have aj:=dm (xw (qG (ok':=fun k_=>(w.heap.size<=k_)/\some k_≠(.slice aQ ag.length aN:Value).ownBlock/\k_≠ab/\k_≠ae/\k_≠g) (Kd.S_N (xN aG)) (fun k_ hk_=>⟨(Nat.le_trans (pR (w:=w) (g:=g) (row:=none) (nZ HK.out)) hk_.2.1),(Kd.fresh' (oZ (EG)) k_ hk_.2.1),(rG (g:=ab) (o:=.cells #[.int .i64 0,.slice none 0 0] 31 (0,0)) (rq) k_ hk_.2.1),(rG (g:=ae) (o:=.cells #[.int .i64 ak,.slice aQ ag.length aN] 31 (0,0)) (uk) k_ hk_.2.1),(nD.fresh (nW) k_ hk_.2.1)⟩)) (pR (w:=w) (g:=g) (row:=none) (nZ HK.out)));replace af:=dm (sW (EG) hb);replace aa:=dm (rF (g:=ab) (o:=.cells #[.int .i64 0,.slice none 0 0] 31 (0,0)) (rq) hb);replace ah:=dm (rF (g:=ae) (o:=.cells #[.int .i64 ak,.slice aQ ag.length aN] 31 (0,0)) (uk) hb);replace HK:=pq HK hb;replace HB:=dm (o6 (qx HB.out) hb);replace am:=dm (nD.below (show nD w0 ((gh.setCell ⟨ae,0,none⟩ (.int .i64 ak)).setCell ⟨ae,1,none⟩ (.slice aQ ag.length aN)) g ao aC from nW) hb);(try clear hb aG);obtain⟨l7,cj,gO⟩:=xX aj.out;subst gO)|((with_reducible refine og 104 rfl ?_);refine oV 26 rfl Try.func104 (o9.calls k g ao aC (ac.length:Int) ai a4 w0 _ nW (qx HB.out) cU.out) ?_;rintro e mU ⟨rfl,hi,hb,hk⟩;refine⟨_,rfl,?_⟩;replace aa:=oQ aa au hk;replace af:=dm (nK (qz (nD.apart (show nD w0 _ g ao aC from nW) (nH af.out) (nN)) hk (fun _ h=>h.2)) (fun _ h=>h.1));replace ah:=oQ ah av hk;replace aj:=dm (qG (xL (qG (ok:=fun k_=>(((w.heap.size<=k_))/\(some k_≠(.slice aQ ag.length aN:Value).ownBlock/\(k_≠ab/\(k_≠ae/\k_≠g))))) (sM) (fun k_ hk_=>(⟨hk_,hk_.2.2.2.2⟩:_/\k_≠g))) hk (fun _ h=>h.2)) (fun _ h=>h.1));replace HK:=qb HK hk;replace HB:=dm (hb);replace am:=dm (hi);(try clear hb hk hi))|((with_reducible refine og 104 rfl ?_);refine oV 28 rfl Try.func104 (o9.calls k g ao a4 8 aB aM w0 _ nW (qx HB.out) cW.out) ?_;rintro e mV ⟨rfl,hi,hb,hk⟩;refine⟨_,rfl,?_⟩;replace aa:=oQ aa au hk;replace af:=dm (nK (qz (nD.apart (show nD w0 _ g ao a4 from nW) (nH af.out) (nN)) hk (fun _ h=>h.2)) (fun _ h=>h.1));replace ah:=oQ ah av hk;replace aj:=dm (qG (xL (qG (ok:=fun k_=>(((w.heap.size<=k_))/\(some k_≠(.slice aQ ag.length aN:Value).ownBlock/\(k_≠ab/\(k_≠ae/\k_≠g))))) (sM) (fun k_ hk_=>(⟨hk_,hk_.2.2.2.2⟩:_/\k_≠g))) hk (fun _ h=>h.2)) (fun _ h=>h.1));replace HK:=qb HK hk;replace HB:=dm (hb);replace am:=dm (hi);(try clear hb hk hi))|((with_reducible refine nU 75 rfl ?_);refine rZ (Kd.int .i64) rfl 3 ([]:List Int) [] (oF.none _ _) ?_;intro mW mX bV hb hg_ pE;clear hg_ pE;(first|rw[←fm.out]at bV|(simp only [Int.reduceToNat]at bV;rw[←fm.out]at bV));replace af:=oh af hb;replace aj:=dm (yw (sM) (uN bV) hb);have gP:=dm (oJ (xA (M:=fun k_=>(w.heap.size<=k_)) bV (pR (w:=w) (g:=g) (row:=none) (nZ HK.out)) (fun k_ h_=>h_)) (pR (w:=w) (g:=g) (row:=none) (nZ HK.out)));replace aa:=nA aa hb;replace ah:=nA ah hb;replace HK:=pq HK hb;replace HB:=dm (o6 (qx HB.out) hb);replace am:=dm (nD.below (nW) hb);clear hb bV;have de:0<=(ai:Int):=nC;have df:ai<(ac.length:Int):=nC;obtain⟨dU,kT,kU,iJ,cA,dw,dx⟩:=sK (rf aj.out).2.2 ai de df;cases iJ;obtain⟨l8,gi,gj,eo⟩:=AB aj.out [] ai de (by first|exact df|exact of_decide_eq_true (wz)|(have e_:=(rf aj.out).1;omega));obtain⟨j1,j2,rfl,cD,cE⟩:=xW gj;have bW:=eo 0 _ rfl;rw[Nat.add_zero,show((Kd.slice 3 (Kd.int .i64))).sz=1 from rfl,Nat.mul_one]at bW;replace bW:=Option.some.inj (bW.symm.trans cA);injection bW with wD yj wE;rw[wD]at cE;rw[wE]at cD;have j3:=dm (show Kd.V (Kd.int .i64) 3 _ w.heap.size _ _ (nL ac ai) from yF cD cE);clear wD yj wE cE cD;clear eo gi;have j4:=dm dx;have j5:=dm dw;clear dx dw;replace de:=eq_true de;replace df:=eq_true df))
 go_loopg [8,9] k (fun kq v8 v9 w'=>∃ (bA:List Int) (a7:Int),v9=.int .i64 a7/\lm (rQ.l0 kq ac ai bA a7 ao aM ak ag=some (r1,r2,r3,r4))/\lm (kq<=k)/\lm (Kd.N (Kd.slice 3 (Kd.int .i64)) 45 w' w.heap.size (fun k_=>(w.heap.size<=k_)/\some k_≠(v8:Value).ownBlock/\some k_≠((.slice aQ ag.length aN):Value).ownBlock/\k_≠ab/\k_≠ae/\k_≠g) (.slice (some dU) ac.length cj) ac)/\lm (Kd.R (Kd.int .i64) 3 w' w.heap.size (fun k_=>(w.heap.size<=k_)) v8 bA)/\lm (Kd.R k59 59 w' w.heap.size (fun k_=>(w.heap.size<=k_)) (.slice aQ ag.length aN) ag)/\lm (w'.heap[ab]? =some (.cells #[.int .i64 0,(.slice none 0 0)] 31 (0,0)))/\lm (w'.heap[ae]? =some (.cells #[.int .i64 ak,(.slice aQ ag.length aN)] 31 (0,0)))/\lm (nD w0 w' g ao aM)/\lm (oH w w' g none)/\lm (Below w0.heap.size w0 w'))
 case atStart=>exact⟨(gc),(wrap64 (((nL ac ai).length:Int) - 1)),(by first|rfl|(simp;done)|(simp[*];done)),H',⟨Nat.le_refl _⟩,⟨by(with_reducible repeat(first|apply uL|apply uM|apply uD));exact qG aj.out (fun _ hk=>⟨hk.1.1,⟨hk.2,⟨hk.1.2.1,⟨hk.1.2.2.1,⟨hk.1.2.2.2.1,hk.1.2.2.2.2⟩⟩⟩⟩⟩)⟩,⟨by(with_reducible repeat(first|apply ol|apply om|apply nP));exact nK gP.out (fun _ hk=>hk.1)⟩,⟨by(with_reducible repeat(first|apply ol|apply om|apply nP));exact nK af.out (fun _ hk=>hk.1)⟩,⟨nE aa.out⟩,⟨nE ah.out⟩,⟨nW⟩,⟨nZ HK.out⟩,⟨qx HB.out⟩⟩
 case round=>
  clear H';(try clear cJ eO eP cL eY eZ cM fd fe cN fh fi em en gf gg eD eE eF eG cA de df);obtain⟨bA,a7,rfl,HA,g7,a2,bu,aW,aa,ah,am,HK,HB⟩:=hrel;cases gk with
  |zero=>exact absurd HA.out (by simp[rQ.l0])
  |succ k1=>
   have H:=HA.out;clear HA;simp only [rQ.l0]at H
   replace H:=pU H;rcases H with⟨gl,H⟩|⟨gl,H⟩
   ·skip
    obtain⟨kV,H⟩:=oC H
    obtain⟨kW,H⟩:=oC H
    obtain⟨kX,H⟩:=oC H
    obtain⟨kY,H⟩:=oC H
    obtain⟨dZ,H⟩:=qh H;have gm:=dm dZ;clear dZ;obtain⟨gn,ck⟩:∃y_:List Int,y_=(bA++[rd (nL ac ai) a7]):=⟨_,rfl⟩;replace H:(rQ.l0 k1 ac ai gn (wrap64 (a7 - 1)) ao aM ak ag)=some (r1,r2,r3,r4):=pG ck H
    have gQ:=dm ck;clear ck;have H':=dm H;clear H;have d7:0<=(ai:Int):=nC;have d8:ai<(ac.length:Int):=nC;obtain⟨gR,kZ,k0,iK,dy,dz,dA⟩:=sK (rf a2.out).2.2 ai d7 d8;obtain rfl:dU=gR:=(by injection iK);obtain⟨l9,gp,gq,ep⟩:=AB a2.out [] ai d7 (by first|exact d8|exact of_decide_eq_true (wz)|(have e_:=(rf a2.out).1;omega));obtain⟨j6,j7,rfl,cG,cH⟩:=xW gq;have bX:=ep 0 _ rfl;rw[Nat.add_zero,show((Kd.slice 3 (Kd.int .i64))).sz=1 from rfl,Nat.mul_one]at bX;replace bX:=Option.some.inj (bX.symm.trans dy);injection bX with wD yj wE;rw[wD]at cH;rw[wE]at cG;have cI:=dm (show Kd.V (Kd.int .i64) 3 _ w.heap.size _ _ (nL ac ai) from yF cG cH);clear wD yj wE cH cG;clear ep gp;have dB:=dm dA;have j8:=dm dz;clear dA dz;replace d7:=eq_true d7;replace d8:=eq_true d8;have eH:0<=(a7:Int):=nC;have eI:a7<((nL ac ai).length:Int):=nC;obtain⟨l_,iL,j9⟩:=oL (by repeat(first|(with_reducible exact dB.out)|(with_reducible refine uh ?_ _)|(with_reducible refine uj ?_ _)|(with_reducible refine ui ?_)|exact dB.out)) a7 eH eI;cases iL;replace eH:=eq_true eH;replace eI:=eq_true eI
    go_wp2_with (first|((with_reducible refine rR (b:=.append) (xs:= #[.tmp 86,.tmp 94]) rfl ?_);at_builtin;refine sU (Kd.int .i64) w.heap.size rfl (.tmp 86) (.tmp 94) 45 3 (.int .i64 0) 8 rfl Try.underlying45 info3 rfl (nN) (by omega) u8 bA (rd (nL ac ai) a7) [.int .i64 (rd (nL ac ai) a7)] (fun k_=>(w.heap.size<=k_)) (fun _=>False) rfl rfl ?aP (fun _ hk=>hk.elim) ?aF ?aO (Below.refl _ _) ?aS ?aL ?_;(case aP=>exact rfl);(case aF=>exact(fun k_ hk=>(Nat.le_trans (pR (w:=w) (g:=g) (row:=none) (nZ HK.out)) hk)));(case aO=>exact(nH bu.out));(case aS=>exact(pR (w:=w) (g:=g) (row:=none) (nZ HK.out)));(case aL=>have:=gm.out;omega);intro mY mZ ho hb hg hat;rw[←gQ.out]at ho;have n0:=dm (DZ (ok:=(fun k_=>(w.heap.size<=k_)/\some k_≠(.slice aQ ag.length aN:Value).ownBlock/\k_≠ab/\k_≠ae/\k_≠g)) (by(with_reducible repeat(first|apply uL|apply uM|apply uD));exact qG a2.out (fun _ hk=>⟨⟨hk.1,⟨hk.2.2.1,⟨hk.2.2.2.1,⟨hk.2.2.2.2.1,hk.2.2.2.2.2⟩⟩⟩⟩,hk.2.1⟩)) hg hat);have n1:=dm (sI (nH aW.out) (sJ (nH bu.out)) (nN) hg);have n2:=pF aa hg (pM bu.out aa.out (nN));have n3:=pF ah hg (pM bu.out ah.out (nN));have n4:=dm (nD.grown (nW) hg (nD.own_ne am.out bu.out (nN)));have n5:=dm (zf (ok:=(fun k_=>(w.heap.size<=k_)/\some k_≠(.slice (some dU) ac.length cj:Value).ownBlock/\some k_≠(.slice aQ ag.length aN:Value).ownBlock/\k_≠ab/\k_≠ae/\k_≠g)) (by(with_reducible repeat(first|apply BV|apply BZ|apply BX));exact wR cI.out (fun _ hk=>⟨⟨hk.1.1,⟨hk.2,⟨hk.1.2.2.1,⟨hk.1.2.2.2.1,⟨hk.1.2.2.2.2.1,hk.1.2.2.2.2.2⟩⟩⟩⟩⟩,hk.1.2.1⟩)) hg hat);have n6:=dm (yH (qx HB.out) HL.out hb);have n7:=dm (oH.trans (nZ HK.out) (oH.xh hg g) (zQ bu.out));have n8:=dm (ho);clear a2 aW aa ah am cI HB HK bu;revert n0 n1 n2 n3 n4 n5 n6 n7 n8;intro a2 aW aa ah am cI HB HK gS;clear ho hb hg hat))
    go_roundg k1
    case measure=>have:=g7.out;omega
    case rel=>exact⟨(gn),(wrap64 (a7 - 1)),(by first|rfl|(simp;done)|(simp[*];done)),H',⟨by have:=g7.out;omega⟩,⟨by(with_reducible repeat(first|apply uL|apply uM|apply uD));exact qG a2.out (fun _ hk=>⟨hk.1.1,⟨hk.2,⟨hk.1.2.1,⟨hk.1.2.2.1,⟨hk.1.2.2.2.1,hk.1.2.2.2.2⟩⟩⟩⟩⟩)⟩,⟨nH gS.out⟩,⟨nH aW.out⟩,⟨nE aa.out⟩,⟨nE ah.out⟩,⟨nW⟩,⟨nZ HK.out⟩,⟨qx HB.out⟩⟩
   skip
   obtain⟨k2,H⟩:=oC H
   obtain⟨k3,H⟩:=oC H;obtain⟨gr,cl⟩:∃y_:List (List Int),y_=(ac.set (ai:Int).toNat bA):=⟨_,rfl⟩;replace H:(some (ak,ag,gr,aM))=some (r1,r2,r3,r4):=pG cl H
   have gT:=dm cl;clear cl;simp only [Option.some.injEq,Prod.mk.injEq]at H;obtain⟨rfl,rfl,rfl,rfl⟩:=H;have eJ:0<=(ai:Int):=nC;have eK:(ai:Int)<((ac.length:Int):Int):=nC;obtain⟨bG,ma,fo,fp,gU,mb,fq⟩:=Gf a2.out (by omega);(first|cases fo|(injection fo with ea_ en_ ec_;(first|subst ea_|(injection ea_ with ea_;subst ea_));subst ec_;clear en_));have gV:=dm fp;have mc:=dm fq;clear fp gU fq;(first|simp only [add_plain]at cA|skip);(first|simp only [add_plain]at dy|skip);obtain⟨me,gt,ft,eq,es⟩:=AA a2.out [] (ai:Int) eJ eK;obtain⟨ka,kc,rfl,kd,ke⟩:=xW ft;have fz:=eq 0 _ rfl;have fA:=es 0;(try simp only [show((Kd.slice 3 (Kd.int .i64))).sz=1 from rfl,Nat.mul_one,Nat.add_zero]at fz);(try simp only [show((Kd.slice 3 (Kd.int .i64))).sz=1 from rfl,Nat.mul_one,Nat.add_zero]at fA);clear gt eq es;(try clear ft);replace eJ:=eq_true eJ;replace eK:=eq_true eK;have fu:=dm (show Kd.N (Kd.slice 3 (Kd.int .i64)) 45 wr w.heap.size (fun k_=>(w.heap.size<=k_)/\some k_≠(.slice aQ ag.length aN:Value).ownBlock/\k_≠ab/\k_≠ae/\k_≠g) (.slice (some ⟨bG,0,none⟩) ac.length cj) ac from(by(with_reducible repeat(first|apply uL|apply uM|apply uD));exact qG a2.out (fun _ hk=>⟨hk.1,⟨hk.2.2.1,⟨hk.2.2.2.1,⟨hk.2.2.2.2.1,hk.2.2.2.2.2⟩⟩⟩⟩)));obtain⟨mf,et,fv,dg,eu⟩:=AA fu.out [] (ai:Int) nC (by have h_:(ai:Int)<((ac.length:Int):Int):=nC;first|exact h_|(have e_:=(rf a2.out).1;omega)|simpa using h_);obtain⟨kf,kg,rfl,ki,kj⟩:=xW fv;obtain⟨g8,g9,k4⟩:=nY bu.out;subst k4;have cm:=Gh fu.out (ai:Int) nC (by have h_:(ai:Int)<((ac.length:Int):Int):=nC;first|exact h_|(have e_:=(rf a2.out).1;omega)|simpa using h_) (seg:=[(.slice g8 bA.length g9)]) (j:=0) et dg (show 1<=1 from by decide) (x':=bA) (BJ (nM (nK (ok':=(fun k_=>((fun k_=>(w.heap.size<=k_)/\some k_≠(.slice aQ ag.length aN:Value).ownBlock/\k_≠ab/\k_≠ae/\k_≠g)) k_/\k_≠bG)) (nD.apart am.out (oO (oO (wu (wu (bu.out) (sJ aW.out) (nN)) (xy a2.out) (nN)) aa.out (nN)) ah.out (nN)) (nN)) (fun k_ hk=>⟨⟨hk.1.1.1.1.1,⟨hk.1.1.1.1.2,⟨hk.1.1.2,⟨hk.1.2,hk.2⟩⟩⟩⟩,fun e_=>(hk.1.1.1.2) (by rw[e_];rfl)⟩))).2.1 (Kd.R_F (nK (ok':=(fun k_=>((fun k_=>(w.heap.size<=k_)/\some k_≠(.slice aQ ag.length aN:Value).ownBlock/\k_≠ab/\k_≠ae/\k_≠g)) k_/\k_≠bG)) (nD.apart am.out (oO (oO (wu (wu (bu.out) (sJ aW.out) (nN)) (xy a2.out) (nN)) aa.out (nN)) ah.out (nN)) (nN)) (fun k_ hk=>⟨⟨hk.1.1.1.1.1,⟨hk.1.1.1.1.2,⟨hk.1.1.2,⟨hk.1.2,hk.2⟩⟩⟩⟩,fun e_=>(hk.1.1.1.2) (by rw[e_];rfl)⟩)))) (fun _ hk=>hk);have fB:=dg 0 _ rfl;(try simp only [show((Kd.slice 3 (Kd.int .i64))).sz=1 from rfl,Nat.mul_one,Nat.add_zero]at fB);have fC:=eu 0;(try simp only [show((Kd.slice 3 (Kd.int .i64))).sz=1 from rfl,Nat.mul_one,Nat.add_zero]at fC);clear et dg eu;(try clear fv);(try simp only [show((Kd.slice 3 (Kd.int .i64))).sz=1 from rfl,Nat.mul_one,Nat.add_zero]at cm);(try simp only [show((Kd.slice 3 (Kd.int .i64))).sz=1 from rfl,Nat.mul_one,Nat.add_zero]at cm)
   go_wp2_with (first|((with_reducible refine zz (t:=45) (p:=99) rfl ?_);refine zM (t:=45) (p:=99) (v:= ?vo_w146) (w1:=(wr.setCell ⟨bG,(ai:Int).toNat,none⟩ ((.slice g8 bA.length g9)))) ?hg ?ho ?hn ?hr ?_;(case ho=>rfl);(case hg=>rfl);(case hn=>rfl);(case hr=>first|(go_simp;done)|(go_simp;rfl));intro dh hw;have hg:wr.grownBy dh (some bG):=(by rw[hw];exact cm.2);have hp_:Kd.N (Kd.slice 3 (Kd.int .i64)) 45 dh w.heap.size (fun k_=>(w.heap.size<=k_)/\some k_≠(.slice aQ ag.length aN:Value).ownBlock/\k_≠ab/\k_≠ae/\k_≠g) (.slice (some ⟨bG,0,none⟩) ac.length cj) gr:=(by rw[hw,gT.out];exact cm.1);clear cm;have n0:=dm (hp_);have n1:=dm (sI (v:=(.slice (some ⟨bG,0,none⟩) ac.length cj)) (nH aW.out) (xy a2.out) (nN) hg);have n2:=pF aa hg (xx a2.out aa.out (nN));have n3:=pF ah hg (xx a2.out ah.out (nN));have n4:=dm (nD.grown (nW) hg (nD.yP am.out a2.out (nN)));have n5:=dm ((by rw[hw];exact rO (HB.out) (Nat.le_trans HL.out gV.out):Below w0.heap.size w0 dh));have n6:=dm (oH.trans (nZ HK.out) (oH.xh hg g) (Az a2.out));clear a2 aW aa ah am HB HK bu;revert n0 n1 n2 n3 n4 n5 n6;intro a2 aW aa ah am HB HK;clear hg hw hp_;have k5:=aE.out;have k6:=az.out;have k7:=av.out;have k8:=aU.out;have⟨iM,iN,iO,iP⟩:=nJ (w:=dh) ah;have k9:=au.out;have lb:=aX.out;have⟨iQ,iR,iS,iT⟩:=nJ (w:=dh) aa))
   refine bodyPost_ret (wV rfl _ _ ab 31 #[.int .i64 ak,.slice aQ ag.length aN] (0,0) _ rfl (rq) Try.underlying31 rfl (oz)) rfl ?_;exact⟨_,_,qC,by(with_reducible repeat(first|apply ol|apply om|apply nP));exact nK (nR (p:=⟨ab,1,none⟩) (nR (p:=⟨ab,0,none⟩) (oO aW.out aa.out (nN)) (fun _ hk=>hk.2) (.int .i64 ak)) (fun _ hk=>hk.2) (.slice aQ ag.length aN)) (fun _ hk=>hk.1),by(with_reducible repeat(first|apply uL|apply uM|apply uD));exact qG (vv (p:=⟨ab,1,none⟩) (vv (p:=⟨ab,0,none⟩) (qG a2.out (fun k_ hk=>(⟨hk,hk.2.2.1⟩:_/\k_≠ab))) (fun _ hk=>hk.2) (.int .i64 ak)) (fun _ hk=>hk.2) (.slice aQ ag.length aN)) (fun _ hk=>⟨hk.1.1,hk.1.2.1⟩),nW,qx HB.out,nZ HK.out⟩
theorem Ie(h:p:=by(with_reducible repeat(first|apply ol|apply om|apply nP));exact nK (nR (p:=⟨ag,1,none⟩) (nR (p:=⟨ag,0,none⟩) (oO af.out ah.out (by decide)) (fun _ hk=>hk.2) (.int .i64 ((nk ab aa).f0))) (fun _ hk=>hk.2) (.int .i64 ((nk ab aa).f1))) (fun _ hk=>trivial)):p:=h
theorem CJ(h:p:=by rw[hg];exact(ou (by repeat(first|(with_reducible first|exact HBW.out|apply sZ|apply uI|apply pI)|exact HBW.out)))):p:=h
theorem Ig(h:p:=by rw[hg];exact Nat.ne_of_lt (oU (g:=aq) (o:=.cells #[.int .i64 aj,.slice (some bz) ab.length aV] 31 (0,0)) (nE ac.out))):p:=h
theorem Ih(h:p:=by rw[hg];exact Nat.ne_of_gt (oU (g:=aq) (o:=.cells #[.int .i64 aj,.slice (some bz) ab.length aV] 31 (0,0)) (nE ac.out))):p:=h
theorem Aa {B:Nat}{w w1 w2:World}(H:Below B w w1) (h:Below B w w2:=by repeat(first|(with_reducible first|exact HB.out|apply sZ|apply uI|apply pI)|(with_reducible refine rO ?_ (lm.out (by assumption)))|(with_reducible refine rO ?_ (nD.ge ed.out))|exact HB.out)):Below B w w2:=h
def zJ.f (l0:List Int):Option (List Int×Int):=if(l0.length:Int)>2000 then(if 2000<=(l0.length:Int) then(some (l0.take 2000,0)) else(none)) else(some (l0,0))
theorem zJ.calls (A0:Option Addr) (c0:Nat) (l0:List Int) (r1:List Int) (r2:Int) (w0 w:World) (hB:Below w0.heap.size w0 w) (a4:Kd.C (Kd.int .u8) w0 A0 l0.length l0) (a5:l0.length<=c0) (h:zJ.f l0=some (r1,r2)):
  Calls Try.prog 72 #[.slice A0 l0.length c0] w fun e w'=>∃g_:Nat,e=.returned (.pointer (some ⟨g_,0,none⟩))/\nD w0 w' g_ r1 r2/\Below w0.heap.size w0 w'/\Below w.heap.size w w':=by
 have eQ:=Try.underlying111;have a3:=dm a4;have ch:=dm a5;clear a4 a5;have HBW:=dm (Below.refl w.heap.size w);have ee:=dm hB.size;have HB:=dm hB;clear hB;unfold zJ.f at h;have H:=h;clear h
 by_cases c2:(l0.length:Int)>2000
 ·rw[if_pos c2]at H;have bQ:=decide_eq_true c2;have el:decide (2000<l0.length)=true:=decide_eq_true (by omega);clear c2
  obtain⟨c3,H⟩:=qh H;have c_:=eq_true c3;have fb:=decide_eq_true c3;clear c3;simp only [Option.some.injEq,Prod.mk.injEq]at H;obtain⟨rfl,rfl⟩:=H;obtain⟨fy,db,_,dc,_⟩:=info_parts info5;obtain⟨eR,ef,eg⟩:=Du (P:=Try.prog) (Value.int .u8) 0 41 5 .i64 Try.underlying41 db dc A0 c0 l0 2000 (by omega) nC ch.out;have dN:=dm (yV (h1:=fun _=>rfl) (ef _ (yQ a3.out)));have eS:=dm eg;clear ef eg db dc
  go_enter Try.func72,Try.ntmps72
  go_wp2_with (first|((with_reducible refine nU 10 rfl ?_);refine oI #[.slice A0 (l0.take 2000).length c0,.int .i64 0] 111 ?_;intro bO hg w5 nu hb;replace HB:=nI HB hb;have dO:=dm (nu);have dP:=dm (CJ:w.heap.size<=bO);have dQ:=dm (Nat.le_trans ee.out (CJ:w.heap.size<=bO):w0.heap.size<=bO);replace HBW:=dm (o6 HBW.out hb);clear hb nu hg))
  go_ret
  exact⟨_,rfl,(show nD w0 _ bO (l0.take 2000) 0 from⟨_,_,nE dO.out,dQ.out,dN.out⟩),ny HB.out,by repeat(first|(with_reducible first|exact HBW.out|apply sZ|apply uI|apply pI|refine rO ?_ dP.out)|exact HBW.out)⟩
 rw[if_neg c2]at H;have bQ:=decide_eq_false c2;have el:decide (2000<l0.length)=false:=decide_eq_false (by omega);clear c2;simp only [Option.some.injEq,Prod.mk.injEq]at H;obtain⟨rfl,rfl⟩:=H
 go_enter Try.func72,Try.ntmps72
 go_wp2_with (first|((with_reducible refine nU 10 rfl ?_);refine oI #[.slice A0 l0.length c0,.int .i64 0] 111 ?_;intro bP hg w6 nu hb;replace HB:=nI HB hb;have dR:=dm (nu);have dS:=dm (CJ:w.heap.size<=bP);have dT:=dm (Nat.le_trans ee.out (CJ:w.heap.size<=bP):w0.heap.size<=bP);replace HBW:=dm (o6 HBW.out hb);clear hb nu hg))
 go_ret
 exact⟨_,rfl,(show nD w0 _ bP l0 0 from⟨_,_,nE dR.out,dT.out,a3.out⟩),ny HB.out,by repeat(first|(with_reducible first|exact HBW.out|apply sZ|apply uI|apply pI|refine rO ?_ dS.out)|exact HBW.out)⟩
def zI.f (k:Nat) (l0:List Int):Option (Int× (List (S59))× (List (List Int))):=(zJ.f l0).bind fun bA=>((rQ.f k bA.1 bA.2).bind fun az=>(some (az.1,az.2.1,az.2.2.1)))
theorem zI.calls {k:Nat}{A0:Option Addr}{c0:Nat}{l0:List Int}{r1:Int}{r2:List (S59)}{r3:List (List Int)}{w:World}(a4:Kd.C (Kd.int .u8) w A0 l0.length l0)(a5:l0.length<=c0)(h:zI.f k l0=some (r1,r2,r3)):
  Calls Try.prog 27 #[.slice A0 l0.length c0] w fun e w'=>∃dd eh:Value,e=.returned (.tuple #[.agg #[.int .i64 r1,dd],eh])/\Kd.R k59 59 w' w.heap.size (fun k_=>(w.heap.size<=k_)) dd r2/\Kd.N (Kd.slice 3 (Kd.int .i64)) 45 w' w.heap.size (fun k_=>(w.heap.size<=k_)/\some k_≠(dd:Value).ownBlock) eh r3/\Below w.heap.size w w':=by
 have em:=Try.underlying31;have a3:=dm a4;have ch:=dm a5;clear a4 a5;have HB:=dm (Below.refl w.heap.size w);unfold zI.f at h;have H:=h;clear h;obtain⟨⟨cn,co⟩,A2,H⟩:=ow H;(try dsimp only at H);obtain⟨⟨bF,bR,de,en⟩,A3,H⟩:=ow H;(try dsimp only at H);simp only [Option.some.injEq,Prod.mk.injEq]at H;obtain⟨rfl,rfl,rfl⟩:=H
 go_enter Try.func27,Try.ntmps27
 go_wp2_with (first|((with_reducible refine nU 2 rfl ?_);refine oI #[.int .i64 0,.slice none 0 0] 31 ?_;intro au hg w4 nu hb;have av:=dm (nu);have eT:=dm (nO:w.heap.size<=au);have eU:=dm (nO:w.heap.size<=au);replace HB:=nI HB hb;clear hb nu hg)|((with_reducible refine og 72 rfl ?_);refine oV 5 rfl Try.func72 (zJ.calls _ _ l0 cn co w _ (ny HB.out) a3.out ch.out A2.out) ?_;rintro e w5 ⟨cp,rfl,hi,hb,cE⟩;refine⟨_,rfl,?_⟩;replace HB:=dm (hb);have a9:=dm (hi);have a6:=dm (nD.Jp hi (rF (g:=au) (o:=.cells #[.int .i64 0,.slice none 0 0] 31 (0,0)) (nE av.out) cE) (by decide));have bN:=dm (Ne.symm (nD.Jp hi (rF (g:=au) (o:=.cells #[.int .i64 0,.slice none 0 0] 31 (0,0)) (nE av.out) cE) (by decide)));replace av:=dm (rF (g:=au) (o:=.cells #[.int .i64 0,.slice none 0 0] 31 (0,0)) (nE av.out) cE);(try clear hb cE hi))|((with_reducible refine og 71 rfl ?_);refine vY 6 Try.func71 #[.pointer (some ⟨cp,0,none⟩)] ?_;(with_reducible refine(rQ.calls k cp cn co bF bR de en w _ ?o7 ?o8 A3.out).mono ?_);(case o7=>repeat(first|(with_reducible first|exact a9.out|apply nD.alloc|apply nD.drewN|apply nD.drew|apply nD.yS|refine nD.far ?_ a6.out _)|exact a9.out));(case o8=>exact Aa HB.out);rintro e w6 ⟨eo,fc,rfl,ei,ho1,hi,hb,hk⟩;refine⟨_,rfl,?_⟩;have cF:=dm (oJ (xA (M:=fun k_=>(w.heap.size<=k_)) (nK (ok':=fun k_=>True) ei (fun _ hk_=>trivial)) (ou (Aa HB.out)) (fun k_ h_=>h_)) (ou (Aa HB.out)));have dU:=dm (xw (qG (ok':=fun k_=>(w.heap.size<=k_)/\some k_≠(eo:Value).ownBlock/\k_≠au/\k_≠cp) ho1 (fun k_ hk_=>⟨(Nat.le_trans (ou (Aa HB.out)) hk_.1),hk_.2,(rG (g:=au) (o:=.cells #[.int .i64 0,.slice none 0 0] 31 (0,0)) (nE av.out) k_ hk_.1),(nD.fresh (by repeat(first|(with_reducible first|exact a9.out|apply nD.alloc|apply nD.drewN|apply nD.drew|apply nD.yS|refine nD.far ?_ a6.out _)|exact a9.out)) k_ hk_.1)⟩)) (ou (Aa HB.out)));replace av:=oQ av bN hk;replace HB:=dm (hb);replace a9:=dm (hi);(try clear hb hk hi ei ho1);have fd:=bN.out;have fe:=a6.out;have⟨eD,eE,eF,eG⟩:=nJ (w:=w6) av;obtain⟨df,dg,eH⟩:=nY cF.out;subst eH))
 refine bodyPost_ret (wV rfl _ _ au 31 #[.int .i64 bF,.slice df bR.length dg] (0,0) _ rfl (pg av.out) Try.underlying31 rfl (oz)) rfl ?_;exact⟨_,_,qC,by(with_reducible repeat(first|apply ol|apply om|apply nP));exact nK (nR (p:=⟨au,1,none⟩) (nR (p:=⟨au,0,none⟩) (oO cF.out av.out (by decide)) (fun _ hk=>hk.2) (.int .i64 bF)) (fun _ hk=>hk.2) (.slice df bR.length dg)) (fun _ hk=>hk.1.1),by(with_reducible repeat(first|apply uL|apply uM|apply uD));exact qG (vv (p:=⟨au,1,none⟩) (vv (p:=⟨au,0,none⟩) (qG dU.out (fun k_ hk=>(⟨hk,hk.2.2.1⟩:_/\k_≠au))) (fun _ hk=>hk.2) (.int .i64 bF)) (fun _ hk=>hk.2) (.slice df bR.length dg)) (fun _ hk=>⟨hk.1.1,hk.1.2.1⟩),Aa HB.out⟩
def uE.l0:Nat->List (List Int)->List (List Int)->Int->Int->Option (Bool)
 |0,_,_,_,_=>none
 |k+1,x0,x5,x6,x7=>if x7<x6 then(if 0<=x7 then(if x7<(x5.length:Int) then(if x7>0 then(if((nL x5 x7).length:Int)=0 then(some false) else(if 0<((nL x5 x7).length:Int) then(if 0<=(wrap64 (((nL x5 x7).length:Int) - 1)) then(if(wrap64 (((nL x5 x7).length:Int) - 1))<((nL x5 x7).length:Int) then(if(rd (nL x5 x7) 0)=(rd (nL x5 x7) (wrap64 (((nL x5 x7).length:Int) - 1))) then(some false) else(uE.l0 k x0 x5 x6 (wrap64 (x7+1)))) else(none)) else(none)) else(none))) else(uE.l0 k x0 x5 x6 (wrap64 (x7+1)))) else(none)) else(none)) else(some (decide ((x0.length:Int)>0)))
def uE.f (k:Nat) (l0:List (List Int)):Option (Bool):=uE.l0 k l0 l0 (l0.length:Int) 0
theorem uE.calls {k:Nat}{A0:Option Addr}{c0:Nat}{l0:List (List Int)}{r:Bool}{w:World}(a4:Kd.C (Kd.slice 3 (Kd.int .i64)) w A0 l0.length l0)(a5:l0.length<=c0)(h:uE.f k l0=some r):
  Calls Try.prog 29 #[.slice A0 l0.length c0] w fun e w'=>e=.returned (.bool r)/\oK w w':=by
 have a3:=dm a4;have ch:=dm a5;clear a4 a5;unfold uE.f at h;have H:=h;clear h;have H':=dm H;clear H
 go_enter Try.func29,Try.ntmps29
 go_wp2
 repeat(go_quiet (fail);try go_wp2)
 go_loopg [7] k (fun kq v7 w'=>∃ (ae:Int),v7=.int .i64 ae/\lm (uE.l0 kq l0 l0 (l0.length:Int) ae=some r)/\lm (kq<=k)/\oK w w')
 case atStart=>exact⟨(0),(nQ),H',⟨Nat.le_refl _⟩,by repeat(first|exact oK.refl _|apply oK.step)⟩
 case round=>
  clear H';obtain⟨ae,rfl,HA,aQ,⟨m1,rfl⟩⟩:=hrel;cases gk with
  |zero=>exact absurd HA.out (by simp[uE.l0])
  |succ k1=>
   have H:=HA.out;clear HA;simp only [uE.l0]at H
   replace H:=pU H;rcases H with⟨bQ,H⟩|⟨bQ,H⟩
   ·skip
    obtain⟨c_,H⟩:=oC H
    obtain⟨ff,H⟩:=oC H
    replace H:=pU H;rcases H with⟨ep,H⟩|⟨ep,H⟩
    ·skip
     by_cases c6:((nL l0 ae).length:Int)=0
     ·rw[if_pos c6]at H;have b4:=beq_iff_eq.mpr c6;have eq:=bne_eq_false_iff_eq.mpr c6;clear c6;obtain rfl:=Option.some.inj H;have aw:0<=(ae:Int):=nC;have ax:ae<(l0.length:Int):=nC;obtain⟨b5,bS,bT,a_,bG,al,am⟩:=sK a3.out ae aw ax;cases a_;have aD:=dm am;have bH:=dm al;clear am al;replace aw:=eq_true aw;replace ax:=eq_true ax
      go_wp2
      repeat(go_quiet (fail);try go_wp2)
      go_ret
      exact⟨nQ,by repeat(first|exact oK.refl _|apply oK.step)⟩
     rw[if_neg c6]at H;have b4:=beq_eq_false_iff_ne.mpr c6;have eq:=bne_iff_ne.mpr c6;have fg:¬ ((nL l0 ae)=[]):=fun h_=>c6 (by rw[h_];rfl)
     obtain⟨c7,H⟩:=qh H;have fh:=decide_eq_true c7;have fi:decide (0<(nL l0 ae).length)=true:=decide_eq_true (by omega);clear c7;obtain⟨aA,b6⟩:∃j_:Int,(wrap64 (((nL l0 ae).length:Int) - 1))=j_:=⟨_,rfl⟩;replace H:(if 0<=(aA) then(if(aA)<((nL l0 ae).length:Int) then(if(rd (nL l0 ae) 0)=(rd (nL l0 ae) (aA)) then(some false) else(uE.l0 k1 l0 l0 (l0.length:Int) (wrap64 (ae+1)))) else(none)) else(none))=some r:=by first|(rw[b6]at H;exact H)|(simp only [b6]at H⊢;exact H)
     have eV:(IntKind.i64.wrap (((nL l0 ae).length:Int) - 1))=aA:=(qP _).trans b6
     obtain⟨fj,H⟩:=oC H
     obtain⟨eW,H⟩:=oC H
     by_cases aU:(rd (nL l0 ae) 0)=(rd (nL l0 ae) (aA))
     ·rw[if_pos aU]at H;have b7:=beq_iff_eq.mpr aU;have dV:=bne_eq_false_iff_eq.mpr aU;clear aU;obtain rfl:=Option.some.inj H;have aw:0<=(ae:Int):=nC;have ax:ae<(l0.length:Int):=nC;obtain⟨b5,bS,bT,a_,bG,al,am⟩:=sK a3.out ae aw ax;cases a_;have aD:=dm am;have bH:=dm al;clear am al;replace aw:=eq_true aw;replace ax:=eq_true ax;have ba:0<=(0:Int):=(by omega);have bd:0<((nL l0 ae).length:Int):=nC;obtain⟨b8,cq,aW⟩:=oL aD.out 0 ba bd;cases cq;have dW:(0<(nL l0 ae).length)=True:=eq_true (by omega);(try rw[show((0:Int)).toNat=0 from rfl]at aW);(try rw[Addr.add_zero']at aW);replace ba:=eq_true ba;replace bd:=eq_true bd;have bf:0<=((aA):Int):=nC;have bh:(aA)<((nL l0 ae).length:Int):=nC;obtain⟨b9,cr,cT⟩:=oL aD.out (aA) bf bh;obtain rfl:b8=b9:=(by injection cr);replace bf:=eq_true bf;replace bh:=eq_true bh
      go_wp2
      repeat(go_quiet (fail);try go_wp2)
      go_ret
      exact⟨by first|rfl|(simp;done)|(simp only [←b6]<;> (first|rfl|simp))|(simp[*];done),by repeat(first|exact oK.refl _|apply oK.step)⟩
     rw[if_neg aU]at H;have b7:=beq_eq_false_iff_ne.mpr aU;have dV:=bne_iff_ne.mpr aU;have H':=dm H;clear H;have aw:0<=(ae:Int):=nC;have ax:ae<(l0.length:Int):=nC;obtain⟨b5,bS,bT,a_,bG,al,am⟩:=sK a3.out ae aw ax;cases a_;have aD:=dm am;have bH:=dm al;clear am al;replace aw:=eq_true aw;replace ax:=eq_true ax;have ba:0<=(0:Int):=(by omega);have bd:0<((nL l0 ae).length:Int):=nC;obtain⟨b8,cq,aW⟩:=oL aD.out 0 ba bd;cases cq;have dW:(0<(nL l0 ae).length)=True:=eq_true (by omega);(try rw[show((0:Int)).toNat=0 from rfl]at aW);(try rw[Addr.add_zero']at aW);replace ba:=eq_true ba;replace bd:=eq_true bd;have bf:0<=((aA):Int):=nC;have bh:(aA)<((nL l0 ae).length:Int):=nC;obtain⟨b9,cr,cT⟩:=oL aD.out (aA) bf bh;obtain rfl:b8=b9:=(by injection cr);replace bf:=eq_true bf;replace bh:=eq_true bh
     go_wp2
     repeat(go_quiet (fail);try go_wp2)
     go_roundg k1
     case measure=>have:=aQ.out;omega
     case rel=>exact⟨(wrap64 (ae+1)),(nQ),H',⟨by have:=aQ.out;omega⟩,by repeat(first|exact oK.refl _|apply oK.step)⟩
    have H':=dm H;clear H;have aw:0<=(ae:Int):=nC;have ax:ae<(l0.length:Int):=nC;obtain⟨b5,bS,bT,a_,bG,al,am⟩:=sK a3.out ae aw ax;cases a_;have aD:=dm am;have bH:=dm al;clear am al;replace aw:=eq_true aw;replace ax:=eq_true ax
    go_wp2
    repeat(go_quiet (fail);try go_wp2)
    go_roundg k1
    case measure=>have:=aQ.out;omega
    case rel=>exact⟨(wrap64 (ae+1)),(nQ),H',⟨by have:=aQ.out;omega⟩,by repeat(first|exact oK.refl _|apply oK.step)⟩
   obtain rfl:=Option.some.inj H
   go_wp2
   repeat(go_quiet (fail);try go_wp2)
   go_ret
   exact⟨nQ,by repeat(first|exact oK.refl _|apply oK.step)⟩
def uC.l0:Nat->List (List Int)->Int->Option (Bool)
 |0,_,_=>none
 |k+1,x0,x3=>if x3<(x0.length:Int) then(if 0<=x3 then((uJ.f (nL x0 x3)).bind fun b_=>(if b_=true then(uC.l0 k x0 (wrap64 (x3+1))) else(some false))) else(none)) else(some (decide ((x0.length:Int)>0)))
def uC.f (k:Nat) (l0:List (List Int)):Option (Bool):=uC.l0 k l0 1
theorem uC.calls {k:Nat}{A0:Option Addr}{c0:Nat}{l0:List (List Int)}{r:Bool}{w:World}(a4:Kd.C (Kd.slice 3 (Kd.int .i64)) w A0 l0.length l0)(a5:l0.length<=c0)(h:uC.f k l0=some r):
  Calls Try.prog 40 #[.slice A0 l0.length c0] w fun e w'=>e=.returned (.bool r)/\oK w w':=by
 have a3:=dm a4;have ch:=dm a5;clear a4 a5;unfold uC.f at h;have H:=h;clear h;have H':=dm H;clear H
 go_enter Try.func40,Try.ntmps40
 go_wp2
 go_loopg [3] k (fun kq v3 w'=>∃ (ak:Int),v3=.int .i64 ak/\lm (uC.l0 kq l0 ak=some r)/\lm (kq<=k)/\oK w w')
 case atStart=>exact⟨(1),(nQ),H',⟨Nat.le_refl _⟩,by repeat(first|exact oK.refl _|apply oK.step)⟩
 case round=>
  clear H';obtain⟨ak,rfl,HA,aQ,⟨m1,rfl⟩⟩:=hrel;cases gk with
  |zero=>exact absurd HA.out (by simp[uC.l0])
  |succ k1=>
   have H:=HA.out;clear HA;simp only [uC.l0]at H
   replace H:=pU H;rcases H with⟨bQ,H⟩|⟨bQ,H⟩
   ·skip
    obtain⟨c_,H⟩:=oC H;obtain⟨b_,A4,H⟩:=ow H;(try dsimp only at H)
    rcases pW H with⟨h_,H_⟩|⟨h_,H_⟩<;> (subst h_;clear H;have H:=H_;clear H_)
    ·have H':=dm H;clear H;have bj:0<=(ak:Int):=nC;have bk:ak<(l0.length:Int):=nC;obtain⟨dX,bU,bV,ct,cU,aX,aY⟩:=sK a3.out ak bj bk;cases ct;have bI:=dm aY;have bJ:=dm aX;clear aY aX;replace bj:=eq_true bj;replace bk:=eq_true bk
     go_wp2_with (first|((with_reducible refine og 83 rfl ?_);refine oV 14 rfl Try.func83 (uJ.calls (nS bI.out) bJ.out A4.out) ?_;rintro e w' ⟨rfl,⟨nd,rfl⟩⟩;refine⟨_,rfl,?_⟩))
     go_roundg k1
     case measure=>have:=aQ.out;omega
     case rel=>exact⟨(wrap64 (ak+1)),(nQ),H',⟨by have:=aQ.out;omega⟩,by repeat(first|exact oK.refl _|apply oK.step)⟩
    obtain rfl:=Option.some.inj H;have bj:0<=(ak:Int):=nC;have bk:ak<(l0.length:Int):=nC;obtain⟨dX,bU,bV,ct,cU,aX,aY⟩:=sK a3.out ak bj bk;cases ct;have bI:=dm aY;have bJ:=dm aX;clear aY aX;replace bj:=eq_true bj;replace bk:=eq_true bk
    go_wp2_with (first|((with_reducible refine og 83 rfl ?_);refine oV 14 rfl Try.func83 (uJ.calls (nS bI.out) bJ.out A4.out) ?_;rintro e w' ⟨rfl,⟨nd,rfl⟩⟩;refine⟨_,rfl,?_⟩))
    go_ret
    exact⟨nQ,by repeat(first|exact oK.refl _|apply oK.step)⟩
   obtain rfl:=Option.some.inj H
   go_wp2
   go_ret
   exact⟨nQ,by repeat(first|exact oK.refl _|apply oK.step)⟩
mutual
def pX.l0:Nat->List Int->Int->Int->Int->List (S59)->Option (List Int)
 |0,_,_,_,_,_=>none
 |k+1,x3,ej,dh,ay,ap=>if dh<ej then(if x3.length<17592186044416 then(pX.l0 k (x3++[dh]) ej (wrap64 (dh+1)) ay ap) else(none)) else(pX.l1 k x3 true ay ap)
def pX.l1:Nat->List Int->Bool->Int->List (S59)->Option (List Int)
 |0,_,_,_,_=>none
 |k+1,x3,x5,ay,ap=>if x5=true then(pX.l2 k x3 false ap (ap.length:Int) 0 ay ap) else(some x3)
def pX.l2:Nat->List Int->Bool->List (S59)->Int->Int->Int->List (S59)->Option (List Int)
 |0,_,_,_,_,_,_,_=>none
 |k+1,x3,x5,aR,di,aN,ay,ap=>if aN<di then(if 0<=aN then(if aN<(aR.length:Int) then(if 0<=((nk aR aN).f0) then(if((nk aR aN).f0)<(x3.length:Int) then(if 0<=((nk aR aN).f1) then(if((nk aR aN).f1)<(x3.length:Int) then(if(rd x3 ((nk aR aN).f0))=(rd x3 ((nk aR aN).f1)) then(pX.l2 k x3 x5 aR di (wrap64 (aN+1)) ay ap) else(pX.l2 k ((x3.set (((nk aR aN).f0):Int).toNat (mn (rd x3 ((nk aR aN).f0)) (rd x3 ((nk aR aN).f1)))).set (((nk aR aN).f1):Int).toNat (mn (rd x3 ((nk aR aN).f0)) (rd x3 ((nk aR aN).f1)))) true aR di (wrap64 (aN+1)) ay ap)) else(none)) else(none)) else(none)) else(none)) else(none)) else(none)) else(pX.l1 k x3 x5 ay ap)
end
def pX.f (k:Nat) (aj:Int) (ab:List (S59)):Option (List Int):=pX.l0 k (([]:List Int)) aj 0 aj ab
def pX.T13:Bool×List (List Nat×List Nat):=(true,[([],[]),([],[]),([1],[1]),([0,2],[0,2]),([3],[3]),([],[]),([],[]),([6],[6]),([5,7],[5,7]),([8],[8]),([4,9],[4,9]),([10,0,1,2,3,4,5,6,7,8,9,10],[10])])
def pX.B13:List Nat:=[0,0,2,7,15,0,0,64,224,480,1023,2047]
theorem pX.DD:qj .any (opsOf Try.f98 13)=pX.T13:=by kernel_rfl
theorem pX.Ce:qV pX.T13.2 pX.B13=true:=by kernel_rfl
def pX.T14:Bool×List (List Nat×List Nat):=(true,[([],[]),([],[]),([1],[1]),([0,2],[0,2]),([3],[3]),([],[]),([],[]),([6],[6]),([5,7],[5,7]),([8],[8]),([4,9],[4,9])])
def pX.B14:List Nat:=[0,0,2,7,15,0,0,64,224,480,1023]
theorem pX.zO:qj .any (opsOf Try.f98 14)=pX.T14:=by kernel_rfl
theorem pX.zk:qV pX.T14.2 pX.B14=true:=by kernel_rfl
def pX.T15:Bool×List (List Nat×List Nat):=(true,[([],[]),([],[]),([1],[1]),([],[]),([],[]),([4],[4]),([],[]),([],[]),([0,2,0,1,2,6],[0,2]),([8,6,0,1,2,6],[6,8]),([3,5,0,1,2,3,4,5,6,7,8,9],[3,5]),([10,7,9,0,1,2,3,4,5,6,7,8,9],[7,10])])
def pX.B15:List Nat:=[0,0,2,0,0,16,0,0,71,327,1023,2047]
theorem pX.DF:qj .any (opsOf Try.f98 15)=pX.T15:=by kernel_rfl
theorem pX.Cf:qV pX.T15.2 pX.B15=true:=by kernel_rfl
theorem pX.calls {k:Nat}{aj:Int}{bK:Option Addr}{aV:Nat}{ab:List (S59)}{r:List Int}{w:World}(cG:Kd.C k59 w bK ab.length ab)(cH:ab.length<=aV)(h:pX.f k aj ab=some r):
  Calls Try.prog 98 #[.agg #[.int .i64 aj,.slice bK ab.length aV]] w fun e w'=>∃ek:Value,e=.returned (ek)/\Kd.R (Kd.int .i64) 3 w' w.heap.size (fun _=>True) ek r/\Below w.heap.size w w':=by
 have em:=Try.underlying31;have fk:=Try.underlying59;have cI:=dm cG;have eX:=dm cH;clear cG cH;have HB:=dm (Below.refl w.heap.size w);unfold pX.f at h;have H:=h;clear h;obtain⟨dj,bB⟩:∃y_:List Int,y_=(([]:List Int)):=⟨_,rfl⟩;replace H:(pX.l0 k dj aj 0 aj ab)=some r:=pG bB H
 have cJ:=dm bB;clear bB;have H':=dm H;clear H
 go_enter Try.func98,Try.ntmps98
 go_wp2_with (first|((with_reducible refine nU 1 rfl ?_);refine oI #[.int .i64 aj,.slice bK ab.length aV] 31 ?_;intro aq hg w2 nu hb;have ac:=dm (nu);have eY:=dm (nO:w.heap.size<=aq);have dY:=dm (nO:w.heap.size<=aq);replace HB:=nI HB hb;clear hb nu hg)|((with_reducible refine nU 9 rfl ?_);refine rZ (Kd.int .i64) rfl 3 ([]:List Int) [] (oF.none _ _) ?_;intro fm w3 ck hb hg_ pE;clear hg_ pE;(first|rw[←cJ.out]at ck|(simp only [Int.reduceToNat]at ck;rw[←cJ.out]at ck));have dZ:=dm (oJ ck (ou (ny HB.out)));replace ac:=nA ac hb;replace HB:=nI HB hb;clear hb ck;have⟨dk,dl,dn,dq⟩:=nJ (w:=w3) ac))
 go_loopg [3,12] k (fun kq v3 eI w'=>∃ (ak:List Int) (aC:Int),eI=.int .i64 aC/\lm (pX.l0 kq ak aj aC aj ab=some r)/\lm (kq<=k)/\lm (Kd.R (Kd.int .i64) 3 w' w.heap.size (fun _=>True) v3 ak)/\lm (w'.heap[aq]? =some (.cells #[.int .i64 aj,(.slice bK ab.length aV)] 31 (0,0)))/\lm (Below w.heap.size w w'))
 case atStart=>exact⟨(dj),(0),(nQ),H',⟨Nat.le_refl _⟩,⟨nH dZ.out⟩,⟨nE ac.out⟩,⟨ny HB.out⟩⟩
 case round=>
  clear H';(try clear dk dl dn dq);obtain⟨ak,aC,rfl,HA,aQ,af,ac,HB⟩:=hrel;cases gk with
  |zero=>exact absurd HA.out (by simp[pX.l0])
  |succ k1=>
   have H:=HA.out;clear HA;simp only [pX.l0]at H
   replace H:=pU H;rcases H with⟨b4,H⟩|⟨b4,H⟩
   ·skip
    obtain⟨c7,H⟩:=qh H;have es:=dm c7;clear c7;obtain⟨dr,bC⟩:∃y_:List Int,y_=(ak++[aC]):=⟨_,rfl⟩;replace H:(pX.l0 k1 dr aj (wrap64 (aC+1)) aj ab)=some r:=pG bC H
    have d7:=dm bC;clear bC;have H':=dm H;clear H
    go_wp2_with (first|((with_reducible refine rR (b:=.append) (xs:= #[.tmp 15,.tmp 17]) rfl ?_);at_builtin;refine sU (Kd.int .i64) (w0:=w) w.heap.size rfl (.tmp 15) (.tmp 17) 45 3 (.int .i64 0) 8 rfl Try.underlying45 info3 rfl (by decide) (by omega) u3 ak aC [.int .i64 aC] (fun _=>True) (fun _=>False) rfl rfl ?aP (fun _ hk=>hk.elim) ?aF ?aO ?aB ?aS ?aL ?_;(case aP=>exact rfl);(case aB=>exact(ny HB.out));(case aF=>exact(fun _ _=>trivial));(case aO=>exact(nH af.out));(case aS=>exact(ou (ny HB.out)));(case aL=>have:=es.out;omega);intro fo w8 ho hb hg hat;rw[←d7.out]at ho;have n0:=pF ac hg (pM af.out ac.out (by decide));have n1:=dm (hb);have n2:=dm (ho);clear ac HB af;revert n0 n1 n2;intro ac HB d8;clear ho hb hg hat))
    go_roundg k1
    case measure=>have:=aQ.out;omega
    case rel=>exact⟨(dr),(wrap64 (aC+1)),(nQ),H',⟨by have:=aQ.out;omega⟩,⟨nH d8.out⟩,⟨nE ac.out⟩,⟨ny HB.out⟩⟩
   have H':=dm H;clear H
   go_wp2
   go_loopg [5] k1 (fun kq v5 w'=>∃ (bL:List Int) (ca:Bool),v5=.bool ca/\lm (pX.l1 kq bL ca aj ab=some r)/\lm (kq<=k1)/\lm (Kd.R (Kd.int .i64) 3 w' w.heap.size (fun _=>True) u3 bL)/\lm (w'.heap[aq]? =some (.cells #[.int .i64 aj,(.slice bK ab.length aV)] 31 (0,0)))/\lm (Below w.heap.size w w'))
   case atStart=>exact⟨(ak),(true),(nQ),H',⟨Nat.le_refl _⟩,⟨nH af.out⟩,⟨nE ac.out⟩,⟨ny HB.out⟩⟩
   case round=>
    clear H';(try clear b4);obtain⟨bL,ca,rfl,HA,bX,af,ac,HB⟩:=hrel;cases gk with
    |zero=>exact absurd HA.out (by simp[pX.l1])
    |succ k2=>
     have H:=HA.out;clear HA;simp only [pX.l1]at H
     rcases pW H with⟨h_,H_⟩|⟨h_,H_⟩<;> (subst h_;clear H;have H:=H_;clear H_)
     ·have H':=dm H;clear H;have⟨cW,cX,cY,cZ⟩:=nJ (w:=wr) ac
      go_wp2
      go_loopg [5,24] k2 (fun kq v5 eJ w'=>∃ (ai:List Int) (bM:Bool) (aa:Int),v5=.bool bM/\eJ=.int .i64 aa/\lm (pX.l2 kq ai bM ab (ab.length:Int) aa aj ab=some r)/\lm (kq<=k2)/\lm (Kd.R (Kd.int .i64) 3 w' w.heap.size (fun _=>True) u3 ai)/\lm (w'.heap[aq]? =some (.cells #[.int .i64 aj,(.slice bK ab.length aV)] 31 (0,0)))/\lm (Below w.heap.size w w'))
      case atStart=>exact⟨(bL),(false),(0),(nQ),(nQ),H',⟨Nat.le_refl _⟩,⟨nH af.out⟩,⟨nE ac.out⟩,⟨ny HB.out⟩⟩
      case round=>
       clear H';(try clear c9 cW cX cY cZ);obtain⟨ai,bM,aa,rfl,rfl,HA,bY,af,ac,HB⟩:=hrel;cases gk with
       |zero=>exact absurd HA.out (by simp[pX.l2])
       |succ k3=>
        have H:=HA.out;clear HA;simp only [pX.l2]at H
        replace H:=pU H;rcases H with⟨b7,H⟩|⟨b7,H⟩
        ·skip
         obtain⟨eZ,H⟩:=oC H
         obtain⟨e2,H⟩:=oC H
         obtain⟨e3,H⟩:=oC H
         obtain⟨e4,H⟩:=oC H
         obtain⟨e5,H⟩:=oC H
         obtain⟨e6,H⟩:=oC H;obtain⟨a7,cd⟩:∃j_:Int,(mn (rd ai ((nk ab aa).f0)) (rd ai ((nk ab aa).f1)))=j_:=⟨_,rfl⟩;replace H:(if(rd ai ((nk ab aa).f0))=(rd ai ((nk ab aa).f1)) then(pX.l2 k3 ai bM ab (ab.length:Int) (wrap64 (aa+1)) aj ab) else(pX.l2 k3 ((ai.set (((nk ab aa).f0):Int).toNat (a7)).set (((nk ab aa).f1):Int).toNat (a7)) true ab (ab.length:Int) (wrap64 (aa+1)) aj ab))=some r:=by first|(rw[cd]at H;exact H)|(simp only [cd]at H⊢;exact H)
         have eK:(if(rd ai ((nk ab aa).f1))<(rd ai ((nk ab aa).f0)) then(rd ai ((nk ab aa).f1)) else(rd ai ((nk ab aa).f0)))=a7:=cd
         by_cases bW:(rd ai ((nk ab aa).f0))=(rd ai ((nk ab aa).f1))
         ·rw[if_pos bW]at H;have d9:=beq_iff_eq.mpr bW;have d_:=bne_eq_false_iff_eq.mpr bW;clear bW;have H':=dm H;clear H;have bl:0<=(aa:Int):=nC;have bm:aa<(ab.length:Int):=nC;obtain⟨bz,cu,aZ,a2⟩:=qA cI.out aa bl bm;cases cu;replace aZ:=nG HB aZ;replace a2:=nG HB a2;replace bl:=eq_true bl;replace bm:=eq_true bm;try go_wp2_with (first|((with_reducible refine nU 7 rfl ?_);refine oI #[.int .i64 0,.int .i64 0] 59 ?_;intro ag hg bZ nu hb;replace af:=oh af hb;have ah:=dm (nu);have ea:=dm (nO:w.heap.size<=ag);have cS:=dm (nO:w.heap.size<=ag);replace HB:=nI HB hb;have aK:=dm (Ig:aq≠ag);have a8:=dm (Ih:ag≠aq);replace ac:=nA ac hb;clear hb nu hg;have e7:=a8.out;have e8:=aK.out;have⟨ev,ew,ex,ey⟩:=nJ (w:=bZ) ah))
          have n0:lm (Kd.R (Kd.int .i64) 3 ((bZ.setCell ⟨ag,0,none⟩ (.int .i64 ((nk ab aa).f0))).setCell ⟨ag,1,none⟩ (.int .i64 ((nk ab aa).f1))) w.heap.size (fun _=>True) u3 ai):=⟨Ie⟩;have n1:lm (((bZ.setCell ⟨ag,0,none⟩ (.int .i64 ((nk ab aa).f0))).setCell ⟨ag,1,none⟩ (.int .i64 ((nk ab aa).f1))).heap[aq]? =some (.cells #[.int .i64 aj,.slice (some bz) ab.length aV] 31 (0,0))):=⟨sj⟩;have n2:lm (((bZ.setCell ⟨ag,0,none⟩ (.int .i64 ((nk ab aa).f0))).setCell ⟨ag,1,none⟩ (.int .i64 ((nk ab aa).f1))).heap[ag]? =some (.cells #[.int .i64 ((nk ab aa).f0),.int .i64 ((nk ab aa).f1)] 59 (0,0))):=⟨uk⟩;have n3:lm (Below w.heap.size w ((bZ.setCell ⟨ag,0,none⟩ (.int .i64 ((nk ab aa).f0))).setCell ⟨ag,1,none⟩ (.int .i64 ((nk ab aa).f1)))):=⟨ny HB.out⟩;(try clear af ac ah HB);generalize((bZ.setCell ⟨ag,0,none⟩ (.int .i64 ((nk ab aa).f0))).setCell ⟨ag,1,none⟩ (.int .i64 ((nk ab aa).f1)))=eL at n0 n1 n2 n3⊢;revert n0 n1 n2 n3;intro af ac ah HB;replace af:=dm (nP af.out);replace ac:=dm (oq ac.out);replace ah:=dm (oq ah.out);replace HB:=dm (pI HB.out);obtain⟨fp,fq,dt⟩:=nY af.out;(first|subst dt|(injection dt with cl du cm;have dv:=cl.symm;have dw:=cm.symm;clear cl du cm;subst dv;subst dw));have bn:0<=(((nk ab aa).f0):Int):=nC;have bo:((nk ab aa).f0)<(ai.length:Int):=nC;obtain⟨ao,cv,aE⟩:=oL (nM af.out).2.2 ((nk ab aa).f0) bn bo;cases cv;replace bn:=eq_true bn;replace bo:=eq_true bo;have bp:0<=(((nk ab aa).f1):Int):=nC;have bq:((nk ab aa).f1)<(ai.length:Int):=nC;obtain⟨ce,cw,aG⟩:=oL (nM af.out).2.2 ((nk ab aa).f1) bp bq;obtain rfl:ao=ce:=(by injection cw);replace bp:=eq_true bp;replace bq:=eq_true bq;refine qc 12 (S:=fun w'=>w'.cell? ⟨ag,0,none⟩=some (.int .i64 ((nk ab aa).f0))/\w'.cell? ⟨ag,1,none⟩=some (.int .i64 ((nk ab aa).f1))/\w'.cell? (ao.add (((nk ab aa).f0)).toNat)=some (.int .i64 (rd ai ((nk ab aa).f0)))/\w'.cell? (ao.add (((nk ab aa).f1)).toNat)=some (.int .i64 (rd ai ((nk ab aa).f1)))) [] ⟨nz ah 0,nz ah 1,aE,aG⟩ pX.DD pX.Ce (fun hHeld HT_ HW_=>?_);generalize eL.drew=eM at af ac ah HB aE aG hHeld⊢;refine lq 0 28 1 ?_;refine lq 1 29 3 ?_;refine lq 5 33 35 ?_;refine lq 6 34 99 ?_;refine nT 2 30 103 ?_;refine lq 3 31 111 ?_;refine nT 4 32 127 ?_;refine nT 7 35 255 ?_;refine lq 8 36 511 ?_;refine nT 9 37 1023 ?_;refine lq 10 38 2047 ?_;refine lq 11 8 4095 ?_;refine pY (p8 HT_.out (oz)) ?_;try go_wp2
          replace af:=dm (nP af.out);replace ac:=dm (oq ac.out);replace ah:=dm (oq ah.out);replace HB:=dm (pI HB.out);have br:0<=(((nk ab aa).f0):Int):=nC;have bu:((nk ab aa).f0)<(ai.length:Int):=nC;obtain⟨cf,cx,aH⟩:=oL (nM af.out).2.2 ((nk ab aa).f0) br bu;obtain rfl:ao=cf:=(by injection cx);replace br:=eq_true br;replace bu:=eq_true bu;have bv:0<=(((nk ab aa).f1):Int):=nC;have bx:((nk ab aa).f1)<(ai.length:Int):=nC;obtain⟨cg,cy,aI⟩:=oL (nM af.out).2.2 ((nk ab aa).f1) bv bx;obtain rfl:ao=cg:=(by injection cy);replace bv:=eq_true bv;replace bx:=eq_true bx;refine qc 11 (S:=fun w'=>w'.cell? ⟨ag,0,none⟩=some (.int .i64 ((nk ab aa).f0))/\w'.cell? ⟨ag,1,none⟩=some (.int .i64 ((nk ab aa).f1))/\w'.cell? (ao.add (((nk ab aa).f0)).toNat)=some (.int .i64 (rd ai ((nk ab aa).f0)))/\w'.cell? (ao.add (((nk ab aa).f1)).toNat)=some (.int .i64 (rd ai ((nk ab aa).f1)))) [] ⟨nz ah 0,nz ah 1,aH,aI⟩ pX.zO pX.zk (fun hHeld HT_ HW_=>?_);generalize eM.drew=fz at af ac ah HB aH aI hHeld⊢;refine lq 0 39 1 ?_;refine lq 1 40 3 ?_;refine lq 5 44 35 ?_;refine lq 6 45 99 ?_;refine nT 2 41 103 ?_;refine lq 3 42 111 ?_;refine nT 4 43 127 ?_;refine nT 7 46 255 ?_;refine lq 8 47 511 ?_;refine nT 9 48 1023 ?_;refine lq 10 49 2047 ?_;refine pY (p8 HT_.out (oz)) ?_;try go_wp2
          go_roundg k3
          case measure=>have:=aQ.out;have:=bX.out;have:=bY.out;omega
          case rel=>exact⟨(ai),(bM),(wrap64 (aa+1)),(nQ),(nQ),H',⟨by have:=aQ.out;have:=bX.out;have:=bY.out;omega⟩,⟨nH af.out⟩,⟨nE ac.out⟩,⟨ny HB.out⟩⟩
         rw[if_neg bW]at H;have d9:=beq_eq_false_iff_ne.mpr bW;have d_:=bne_iff_ne.mpr bW;obtain⟨dx,bD⟩:∃y_:List Int,y_=(ai.set (((nk ab aa).f0):Int).toNat (a7)):=⟨_,rfl⟩;replace H:(pX.l2 k3 (dx.set (((nk ab aa).f1):Int).toNat (a7)) true ab (ab.length:Int) (wrap64 (aa+1)) aj ab)=some r:=pG bD H
         have eb:=dm bD;clear bD;obtain⟨dy,bE⟩:∃y_:List Int,y_=(dx.set (((nk ab aa).f1):Int).toNat (a7)):=⟨_,rfl⟩;replace H:(pX.l2 k3 dy true ab (ab.length:Int) (wrap64 (aa+1)) aj ab)=some r:=pG bE H
         have ec:=dm bE;clear bE;have H':=dm H;clear H;have bl:0<=(aa:Int):=nC;have bm:aa<(ab.length:Int):=nC;obtain⟨bz,cu,aZ,a2⟩:=qA cI.out aa bl bm;cases cu;replace aZ:=nG HB aZ;replace a2:=nG HB a2;replace bl:=eq_true bl;replace bm:=eq_true bm;try go_wp2_with (first|((with_reducible refine nU 7 rfl ?_);refine oI #[.int .i64 0,.int .i64 0] 59 ?_;intro ag hg b3 nu hb;replace af:=oh af hb;have ah:=dm (nu);have ea:=dm (nO:w.heap.size<=ag);have cS:=dm (nO:w.heap.size<=ag);replace HB:=nI HB hb;have aK:=dm (Ig:aq≠ag);have a8:=dm (Ih:ag≠aq);replace ac:=nA ac hb;clear hb nu hg;have e9:=a8.out;have fa:=aK.out;have⟨ez,eA,eB,eC⟩:=nJ (w:=b3) ah))
         have n0:lm (Kd.R (Kd.int .i64) 3 ((b3.setCell ⟨ag,0,none⟩ (.int .i64 ((nk ab aa).f0))).setCell ⟨ag,1,none⟩ (.int .i64 ((nk ab aa).f1))) w.heap.size (fun _=>True) u3 ai):=⟨Ie⟩;have n1:lm (((b3.setCell ⟨ag,0,none⟩ (.int .i64 ((nk ab aa).f0))).setCell ⟨ag,1,none⟩ (.int .i64 ((nk ab aa).f1))).heap[aq]? =some (.cells #[.int .i64 aj,.slice (some bz) ab.length aV] 31 (0,0))):=⟨sj⟩;have n2:lm (((b3.setCell ⟨ag,0,none⟩ (.int .i64 ((nk ab aa).f0))).setCell ⟨ag,1,none⟩ (.int .i64 ((nk ab aa).f1))).heap[ag]? =some (.cells #[.int .i64 ((nk ab aa).f0),.int .i64 ((nk ab aa).f1)] 59 (0,0))):=⟨uk⟩;have n3:lm (Below w.heap.size w ((b3.setCell ⟨ag,0,none⟩ (.int .i64 ((nk ab aa).f0))).setCell ⟨ag,1,none⟩ (.int .i64 ((nk ab aa).f1)))):=⟨ny HB.out⟩;(try clear af ac ah HB);generalize((b3.setCell ⟨ag,0,none⟩ (.int .i64 ((nk ab aa).f0))).setCell ⟨ag,1,none⟩ (.int .i64 ((nk ab aa).f1)))=eN at n0 n1 n2 n3⊢;revert n0 n1 n2 n3;intro af ac ah HB;replace af:=dm (nP af.out);replace ac:=dm (oq ac.out);replace ah:=dm (oq ah.out);replace HB:=dm (pI HB.out);obtain⟨ft,fu,dz⟩:=nY af.out;(first|subst dz|(injection dz with cl du cm;have dv:=cl.symm;have dw:=cm.symm;clear cl du cm;subst dv;subst dw));have bn:0<=(((nk ab aa).f0):Int):=nC;have bo:((nk ab aa).f0)<(ai.length:Int):=nC;obtain⟨ao,cv,aE⟩:=oL (nM af.out).2.2 ((nk ab aa).f0) bn bo;cases cv;replace bn:=eq_true bn;replace bo:=eq_true bo;have bp:0<=(((nk ab aa).f1):Int):=nC;have bq:((nk ab aa).f1)<(ai.length:Int):=nC;obtain⟨ce,cw,aG⟩:=oL (nM af.out).2.2 ((nk ab aa).f1) bp bq;obtain rfl:ao=ce:=(by injection cw);replace bp:=eq_true bp;replace bq:=eq_true bq;refine qc 12 (S:=fun w'=>w'.cell? ⟨ag,0,none⟩=some (.int .i64 ((nk ab aa).f0))/\w'.cell? ⟨ag,1,none⟩=some (.int .i64 ((nk ab aa).f1))/\w'.cell? (ao.add (((nk ab aa).f0)).toNat)=some (.int .i64 (rd ai ((nk ab aa).f0)))/\w'.cell? (ao.add (((nk ab aa).f1)).toNat)=some (.int .i64 (rd ai ((nk ab aa).f1)))) [] ⟨nz ah 0,nz ah 1,aE,aG⟩ pX.DD pX.Ce (fun hHeld HT_ HW_=>?_);generalize eN.drew=eO at af ac ah HB aE aG hHeld⊢;refine lq 0 28 1 ?_;refine lq 1 29 3 ?_;refine lq 5 33 35 ?_;refine lq 6 34 99 ?_;refine nT 2 30 103 ?_;refine lq 3 31 111 ?_;refine nT 4 32 127 ?_;refine nT 7 35 255 ?_;refine lq 8 36 511 ?_;refine nT 9 37 1023 ?_;refine lq 10 38 2047 ?_;refine lq 11 8 4095 ?_;refine pY (p8 HT_.out (oz)) ?_;try go_wp2
         replace af:=dm (nP af.out);replace ac:=dm (oq ac.out);replace ah:=dm (oq ah.out);replace HB:=dm (pI HB.out);have br:0<=(((nk ab aa).f0):Int):=nC;have bu:((nk ab aa).f0)<(ai.length:Int):=nC;obtain⟨cf,cx,aH⟩:=oL (nM af.out).2.2 ((nk ab aa).f0) br bu;obtain rfl:ao=cf:=(by injection cx);replace br:=eq_true br;replace bu:=eq_true bu;have bv:0<=(((nk ab aa).f1):Int):=nC;have bx:((nk ab aa).f1)<(ai.length:Int):=nC;obtain⟨cg,cy,aI⟩:=oL (nM af.out).2.2 ((nk ab aa).f1) bv bx;obtain rfl:ao=cg:=(by injection cy);replace bv:=eq_true bv;replace bx:=eq_true bx;refine qc 11 (S:=fun w'=>w'.cell? ⟨ag,0,none⟩=some (.int .i64 ((nk ab aa).f0))/\w'.cell? ⟨ag,1,none⟩=some (.int .i64 ((nk ab aa).f1))/\w'.cell? (ao.add (((nk ab aa).f0)).toNat)=some (.int .i64 (rd ai ((nk ab aa).f0)))/\w'.cell? (ao.add (((nk ab aa).f1)).toNat)=some (.int .i64 (rd ai ((nk ab aa).f1)))) [] ⟨nz ah 0,nz ah 1,aH,aI⟩ pX.zO pX.zk (fun hHeld HT_ HW_=>?_);generalize eO.drew=eP at af ac ah HB aH aI hHeld⊢;refine lq 0 39 1 ?_;refine lq 1 40 3 ?_;refine lq 5 44 35 ?_;refine lq 6 45 99 ?_;refine nT 2 41 103 ?_;refine lq 3 42 111 ?_;refine nT 4 43 127 ?_;refine nT 7 46 255 ?_;refine lq 8 47 511 ?_;refine nT 9 48 1023 ?_;refine lq 10 49 2047 ?_;refine pY (p8 HT_.out (oz)) ?_;try go_wp2
         replace af:=dm (nP af.out);replace ac:=dm (oq ac.out);replace ah:=dm (oq ah.out);replace HB:=dm (pI HB.out);have dA:0<=(((nk ab aa).f0):Int):=nC;have dB:(((nk ab aa).f0):Int)<((ai.length:Int):Int):=nC;obtain⟨fv,fw,dC,dD,et,fx,dE⟩:=yZ af.out (by omega);(first|cases dC|(injection dC with ea_ en_ ec_;(first|subst ea_|(injection ea_ with ea_;subst ea_));subst ec_;clear en_));have dF:=dm dD;have eu:=dm dE;clear dD et dE;(first|simp only [add_plain]at aE|skip);(first|simp only [add_plain]at aG|skip);(first|simp only [add_plain]at aH|skip);(first|simp only [add_plain]at aI|skip);obtain⟨dG,dH⟩:=xY 0 af.out (((nk ab aa).f0):Int) dA dB;replace dA:=eq_true dA;replace dB:=eq_true dB;have cz:=Ee af.out (((nk ab aa).f0):Int) a7;rw[←eb.out]at cz;have cA:=dm cz;clear cz;have dI:0<=(((nk ab aa).f1):Int):=nC;have dJ:(((nk ab aa).f1):Int)<((ai.length:Int):Int):=nC;obtain⟨dK,dL⟩:=xY 0 cA.out (((nk ab aa).f1):Int) dI dJ;replace dI:=eq_true dI;replace dJ:=eq_true dJ;have cD:=Ee cA.out (((nk ab aa).f1):Int) a7;rw[←ec.out]at cD;have dM:=dm cD;clear cD;refine qc 12 (S:=fun w'=>w'.cell? ⟨ag,0,none⟩=some (.int .i64 ((nk ab aa).f0))/\w'.cell? ⟨ag,1,none⟩=some (.int .i64 ((nk ab aa).f1))) [11] ⟨nz ah 0,nz ah 1⟩ pX.DF pX.Cf (fun hHeld HT_ HW_=>?_);generalize eP.drew=fA at af ac ah HB eu cA dM dH dL dG dK aE aG aH aI hHeld⊢;refine lq 0 50 1 ?_;refine lq 1 51 3 ?_;refine lq 3 53 11 ?_;refine lq 4 54 27 ?_;refine lq 6 56 91 ?_;refine lq 7 57 219 ?_;refine nT 2 52 223 ?_;refine lq 8 58 479 ?_;refine nT 5 55 511 ?_;refine zG 9 (none) (pQ 12 1023) (fun K hK=>?_);refine tF (w1:= ?_) (by rfl) rfl ?_ ?_;rotate_left
         ·go_simp
          rfl
         refine hK.out _ _ ⟨((cell_far (fun e_=>pM af.out ah.out (by decide) (congrArg some e_)) _).trans (hHeld.1)),((cell_far (fun e_=>pM af.out ah.out (by decide) (congrArg some e_)) _).trans (hHeld.2))⟩ (fun hHeld=>?_);clear hK K;refine lq 10 59 2047 ?_;refine uT 11 (none) (pQ 12 4095) (fun K hK=>?_);refine tF (w1:= ?_) (by rfl) rfl ?_ ?_;rotate_left
         ·go_simp
          rfl
         refine hK.out _ _ ?_;clear hK K;refine pY (p8 HT_.out (oz)) ?_;try go_wp2
         go_roundg k3
         case measure=>have:=aQ.out;have:=bX.out;have:=bY.out;omega
         case rel=>exact⟨(dy),(true),(wrap64 (aa+1)),(nQ),(nQ),H',⟨by have:=aQ.out;have:=bX.out;have:=bY.out;omega⟩,⟨nH dM.out⟩,⟨by(with_reducible repeat(first|refine uQ ?_ _|refine oq ?_|refine qY ?_ _));refine wU ?_ (by have h_:=pM af.out ac.out (by decide);intro e_;exact h_ (by rw[e_];rfl)) _;(with_reducible repeat(first|refine uQ ?_ _|refine oq ?_|refine qY ?_ _));refine wU ?_ (by have h_:=pM af.out ac.out (by decide);intro e_;exact h_ (by rw[e_];rfl)) _;(with_reducible repeat(first|refine uQ ?_ _|refine oq ?_|refine qY ?_ _));exact ac.out⟩,⟨by repeat(first|(with_reducible first|exact HB.out|apply sZ|apply uI|apply pI|refine rO ?_ dF.out|refine rO ?_ dF.out|refine rO ?_ dY.out|refine rO ?_ cS.out)|exact HB.out)⟩⟩
        have H':=dm H;clear H
        go_wp2
        go_roundg k3
        case measure=>have:=aQ.out;have:=bX.out;have:=bY.out;omega
        case rel=>exact⟨(ai),(bM),(nQ),H',⟨by have:=aQ.out;have:=bX.out;have:=bY.out;omega⟩,⟨nH af.out⟩,⟨nE ac.out⟩,⟨ny HB.out⟩⟩
     obtain rfl:=Option.some.inj H
     go_wp2
     go_ret
     exact⟨_,qC,nH af.out,ny HB.out⟩
theorem HY(h:p:=by exact pg aM.out):p:=h
theorem HZ(h:p:=by(with_reducible repeat(first|apply ol|apply om|apply nP));exact nK (nR (p:=⟨ac,1,none⟩) (nR (p:=⟨ac,0,none⟩) (nK ae.out (fun k_ hk=>(⟨hk,hk.2⟩:_/\k_≠ac))) (fun _ hk=>hk.2) (.int .i64 ((nk aa ab).f0))) (fun _ hk=>hk.2) (.int .i64 ((nk aa ab).f1))) (fun _ hk=>trivial)):p:=h
theorem EI(h:p:=by rw[hg];exact Nat.ne_of_lt (oU (g:=ap) (o:=.cells #[.int .i64 ag,.slice (some a3) aa.length ax] 31 (0,0)) (nE af.out))):p:=h
theorem EJ(h:p:=by rw[hg];exact Nat.ne_of_gt (oU (g:=ap) (o:=.cells #[.int .i64 ag,.slice (some a3) aa.length ax] 31 (0,0)) (nE af.out))):p:=h
theorem H5(h:p:=by rw[hg];exact Nat.ne_of_lt (oU (g:=ap) (o:=.cells #[.int .i64 ag,.slice aH aa.length ax] 31 (0,0)) (nE af.out))):p:=h
theorem H6(h:p:=by rw[hg];exact Nat.ne_of_gt (oU (g:=ap) (o:=.cells #[.int .i64 ag,.slice aH aa.length ax] 31 (0,0)) (nE af.out))):p:=h
theorem CL(h:p:=by rw[hg];exact Nat.ne_of_lt (oU (g:=al) (o:=.cells #[.int .i64 0,.slice none 0 0] 31 (0,0)) (nE ah.out))):p:=h
theorem CK(h:p:=by rw[hg];exact Nat.ne_of_gt (oU (g:=al) (o:=.cells #[.int .i64 0,.slice none 0 0] 31 (0,0)) (nE ah.out))):p:=h
theorem ET(h:p:=by rw[hg];exact Nat.ne_of_lt (oU (g:=am) (o:=.cells #[.int .i64 ag,aq] 31 (0,0)) (nE ai.out))):p:=h
theorem EU(h:p:=by rw[hg];exact Nat.ne_of_gt (oU (g:=am) (o:=.cells #[.int .i64 ag,aq] 31 (0,0)) (nE ai.out))):p:=h
def uy.l0:Nat->Int->List Int->Int->Int->Option (Int)
 |0,_,_,_,_=>none
 |k+1,x3,x7,x8,x9=>if x9<x8 then(if 0<=x9 then(if x9<(x7.length:Int) then(if x9=(rd x7 x9) then(uy.l0 k (wrap64 (x3+1)) x7 x8 (wrap64 (x9+1))) else(uy.l0 k x3 x7 x8 (wrap64 (x9+1)))) else(none)) else(none)) else(some x3)
def uy.f (k:Nat) (ag:Int) (aa:List (S59)):Option (Int):=(pX.f k ag aa).bind fun ak=>(uy.l0 k 0 ak (ak.length:Int) 0)
theorem uy.calls {k:Nat}{ag:Int}{aH:Option Addr}{ax:Nat}{aa:List (S59)}{r:Int}{w:World}(a4:Kd.C k59 w aH aa.length aa)(a5:aa.length<=ax)(h:uy.f k ag aa=some r):
  Calls Try.prog 63 #[.agg #[.int .i64 ag,.slice aH aa.length ax]] w fun e w'=>e=.returned (.int .i64 r)/\Below w.heap.size w w':=by
 have cq:=Try.underlying31;have a6:=dm a4;have bB:=dm a5;clear a4 a5;have HB:=dm (Below.refl w.heap.size w);unfold uy.f at h;have H:=h;clear h;obtain⟨ak,A2,H⟩:=ow H;(try dsimp only at H);have H':=dm H;clear H
 go_enter Try.func63,Try.ntmps63
 go_wp2_with (first|((with_reducible refine nU 1 rfl ?_);refine oI #[.int .i64 ag,.slice aH aa.length ax] 31 ?_;intro bo hg w3 nu hb;have aN:=dm (nu);have dk:=dm (nO:w.heap.size<=bo);have dl:=dm (nO:w.heap.size<=bo);replace HB:=nI HB hb;clear hb nu hg;have⟨bU,bV,bW,bX⟩:=nJ (w:=w3) aN)|((with_reducible refine og 98 rfl ?_);refine oV 7 rfl Try.func98 (pX.calls (nS (oG a6.out HB.out)) bB.out A2.out) ?_;rintro e w5 ⟨ea,rfl,ck,hb⟩;refine⟨_,rfl,?_⟩;have bC:=dm (oJ ck (ou (ny HB.out)));replace aN:=nA aN hb;replace HB:=nI HB hb;(try clear hb ck);obtain⟨dc,dd,de⟩:=nY bC.out;subst de))
 go_loopg [3,9] k (fun kq v3 v9 w'=>∃ (bf:Int) (aj:Int),v3=.int .i64 bf/\v9=.int .i64 aj/\lm (uy.l0 kq bf ak (ak.length:Int) aj=some r)/\lm (kq<=k)/\lm (Kd.R (Kd.int .i64) 3 w' w.heap.size (fun _=>True) (.slice dc ak.length dd) ak)/\lm (w'.heap[bo]? =some (.cells #[.int .i64 ag,(.slice aH aa.length ax)] 31 (0,0)))/\lm (Below w.heap.size w w'))
 case atStart=>exact⟨(0),(0),(nQ),(nQ),H',⟨Nat.le_refl _⟩,⟨nH bC.out⟩,⟨nE aN.out⟩,⟨ny HB.out⟩⟩
 case round=>
  clear H';(try clear bU bV bW bX);obtain⟨bf,aj,rfl,rfl,HA,aT,bp,aN,HB⟩:=hrel;cases gk with
  |zero=>exact absurd HA.out (by simp[uy.l0])
  |succ k1=>
   have H:=HA.out;clear HA;simp only [uy.l0]at H
   replace H:=pU H;rcases H with⟨cr,H⟩|⟨cr,H⟩
   ·skip
    obtain⟨eb,H⟩:=oC H
    obtain⟨ec,H⟩:=oC H
    by_cases c10:aj=(rd ak aj)
    ·rw[if_pos c10]at H;have b9:=beq_iff_eq.mpr c10;have b_:=bne_eq_false_iff_eq.mpr c10;clear c10;have H':=dm H;clear H;have aY:0<=(aj:Int):=nC;have aZ:aj<(ak.length:Int):=nC;obtain⟨ca,bA,bL⟩:=oL (nM bp.out).2.2 aj aY aZ;cases bA;replace aY:=eq_true aY;replace aZ:=eq_true aZ
     go_wp2
     go_roundg k1
     case measure=>have:=aT.out;omega
     case rel=>exact⟨(wrap64 (bf+1)),(wrap64 (aj+1)),(nQ),(nQ),H',⟨by have:=aT.out;omega⟩,⟨nH bp.out⟩,⟨nE aN.out⟩,⟨ny HB.out⟩⟩
    rw[if_neg c10]at H;have b9:=beq_eq_false_iff_ne.mpr c10;have b_:=bne_iff_ne.mpr c10;have H':=dm H;clear H;have aY:0<=(aj:Int):=nC;have aZ:aj<(ak.length:Int):=nC;obtain⟨ca,bA,bL⟩:=oL (nM bp.out).2.2 aj aY aZ;cases bA;replace aY:=eq_true aY;replace aZ:=eq_true aZ
    go_wp2
    go_roundg k1
    case measure=>have:=aT.out;omega
    case rel=>exact⟨(bf),(wrap64 (aj+1)),(nQ),(nQ),H',⟨by have:=aT.out;omega⟩,⟨nH bp.out⟩,⟨nE aN.out⟩,⟨ny HB.out⟩⟩
   obtain rfl:=Option.some.inj H
   go_wp2
   go_ret
   exact⟨qC,ny HB.out⟩
def tZ.l0:Nat->Int->List (S59)->Int->Int->Int->List (S59)->Option (Int× (List (S59)))
 |0,_,_,_,_,_,_=>none
 |k+1,x1,a_,bD,aX,aW,aQ=>if aX<bD then(if 0<=aX then(if aX<(a_.length:Int) then(if((nk a_ aX).f0)=x1 then(tZ.l0 k x1 a_ bD (wrap64 (aX+1)) aW aQ) else(if((nk a_ aX).f1)=x1 then(tZ.l0 k x1 a_ bD (wrap64 (aX+1)) aW aQ) else(if aQ.length<8796093022208 then(tZ.l0 k x1 a_ bD (wrap64 (aX+1)) aW (aQ++[(⟨(nk a_ aX).f0,(nk a_ aX).f1⟩:S59)])) else(none)))) else(none)) else(none)) else(some (aW,aQ))
def tZ.f (k:Nat) (ag:Int) (aa:List (S59)) (a1:Int):Option (Int× (List (S59))):=tZ.l0 k a1 aa (aa.length:Int) 0 ag (([]:List (S59)))
theorem tZ.calls {k:Nat}{ag:Int}{aH:Option Addr}{ax:Nat}{aa:List (S59)}{a1:Int}{r1:Int}{r2:List (S59)}{w:World}(a4:Kd.C k59 w aH aa.length aa)(a5:aa.length<=ax)(h:tZ.f k ag aa a1=some (r1,r2)):
  Calls Try.prog 84 #[.agg #[.int .i64 ag,.slice aH aa.length ax],.int .i64 a1] w fun e w'=>∃cl:Value,e=.returned (.agg #[.int .i64 r1,cl])/\Kd.R k59 59 w' w.heap.size (fun _=>True) cl r2/\Below w.heap.size w w':=by
 have cq:=Try.underlying31;have ed:=Try.underlying59;have a6:=dm a4;have bB:=dm a5;clear a4 a5;have HB:=dm (Below.refl w.heap.size w);unfold tZ.f at h;have H:=h;clear h;obtain⟨bq,a7⟩:∃y_:List (S59),y_=(([]:List (S59))):=⟨_,rfl⟩;replace H:(tZ.l0 k a1 aa (aa.length:Int) 0 ag bq)=some (r1,r2):=pG a7 H
 have bE:=dm a7;clear a7;have H':=dm H;clear H
 go_enter Try.func84,Try.ntmps84
 go_wp2_with (first|((with_reducible refine nU 2 rfl ?_);refine oI #[.int .i64 ag,.slice aH aa.length ax] 31 ?_;intro ap hg w3 nu hb;have af:=dm (nu);have dn:=dm (nO:w.heap.size<=ap);have dq:=dm (nO:w.heap.size<=ap);replace HB:=nI HB hb;clear hb nu hg)|((with_reducible refine nU 4 rfl ?_);refine oI #[.int .i64 0,.slice none 0 0] 31 ?_;intro al hg w4 nu hb;have ah:=dm (nu);have dr:=dm (nO:w.heap.size<=al);have dt:=dm (nO:w.heap.size<=al);replace HB:=nI HB hb;have ba:=dm (H5:ap≠al);have bd:=dm (H6:al≠ap);replace af:=nA af hb;clear hb nu hg;have ee:=ba.out;have ef:=bd.out;have⟨bY,bZ,b3,b4⟩:=nJ (w:=w4) af)|((with_reducible refine nU 10 rfl ?_);refine rZ k59 rfl 59 ([]:List (S59)) [] (oF.none _ _) ?_;intro eg w7 bu hb hg_ pE;clear hg_ pE;(first|rw[←bE.out]at bu|(simp only [Int.reduceToNat]at bu;rw[←bE.out]at bu));have a8:=dm (oJ bu (ou (ny HB.out)));replace af:=nA af hb;replace ah:=nA ah hb;replace HB:=nI HB hb;clear hb bu;obtain⟨cm,cn,df⟩:=nY a8.out;subst df)|((with_reducible refine nU 5 rfl ?_);refine oI #[.int .i64 0,.slice none 0 0] 31 ?_;intro am hg co nu hb;have n0:=oh a8 hb;have n1:=nA af hb;have n2:=nA ah hb;have n3:=nI HB hb;have n4:=dm (nu);have n5:=dm (nO:w.heap.size<=am);have n6:=dm (nO:w.heap.size<=am);have n7:=dm (H5:ap≠am);have n8:=dm (H6:am≠ap);have n9:=dm (CL:al≠am);have bj:=dm (CK:am≠al);clear a8 af ah HB;revert n0 n1 n2 n3 n4 n5 n6 n7 n8 n9 bj;intro a8 af ah HB ai du dv ay aU az aV;clear hb nu hg;have dw:=aU.out;have dx:=ay.out;have dy:=aV.out;have dz:=az.out;have⟨bM,bN,bO,bP⟩:=nJ (w:=co) ai;have⟨bQ,bR,bS,bT⟩:=nJ (w:=co) af))
 go_loopg [15] k (fun kq dg w'=>∃ (ab:Int) (ao:List (S59)) (aq:Value),dg=.int .i64 ab/\lm (tZ.l0 kq a1 aa (aa.length:Int) ab ag ao=some (r1,r2))/\lm (kq<=k)/\lm (Kd.R k59 59 w' w.heap.size (fun _=>True) aq ao)/\lm (w'.heap[ap]? =some (.cells #[.int .i64 ag,(.slice aH aa.length ax)] 31 (0,0)))/\lm (w'.heap[al]? =some (.cells #[.int .i64 0,(.slice none 0 0)] 31 (0,0)))/\lm (w'.heap[am]? =some (.cells #[.int .i64 ag,aq] 31 (0,0)))/\lm (Below w.heap.size w w'))
 case atStart=>exact⟨(0),(bq),(.slice cm bq.length cn),(nQ),H',⟨Nat.le_refl _⟩,⟨by(with_reducible repeat(first|apply ol|apply om|apply nP));exact nK (nR (p:=⟨am,1,none⟩) (nR (p:=⟨am,0,none⟩) (oO a8.out ai.out (by decide)) (fun _ hk=>hk.2) (.int .i64 ag)) (fun _ hk=>hk.2) (.slice cm bq.length cn)) (fun _ hk=>trivial)⟩,⟨pg af.out⟩,⟨pg ah.out⟩,⟨pg ai.out⟩,⟨ny HB.out⟩⟩
 case round=>
  clear H';(try clear bM bN bQ bR bY bZ bO bP bS bT b3 b4);obtain⟨ab,ao,aq,rfl,HA,aT,ae,af,ah,ai,HB⟩:=hrel;cases gk with
  |zero=>exact absurd HA.out (by simp[tZ.l0])
  |succ k1=>
   have H:=HA.out;clear HA;simp only [tZ.l0]at H
   replace H:=pU H;rcases H with⟨cd,H⟩|⟨cd,H⟩
   ·skip
    obtain⟨dA,H⟩:=oC H
    obtain⟨dB,H⟩:=oC H
    by_cases bk:((nk aa ab).f0)=a1
    ·rw[if_pos bk]at H;have ce:=beq_iff_eq.mpr bk;have cf:=bne_eq_false_iff_eq.mpr bk;clear bk;have H':=dm H;clear H;have aI:0<=(ab:Int):=nC;have aK:ab<(aa.length:Int):=nC;obtain⟨a3,bl,aA,aC⟩:=qA a6.out ab aI aK;cases bl;replace aA:=nG HB aA;replace aC:=nG HB aC;replace aI:=eq_true aI;replace aK:=eq_true aK
     go_wp2_with (first|((with_reducible refine nU 7 rfl ?_);refine oI #[.int .i64 0,.int .i64 0] 59 ?_;intro ac hg dh nu hb;have n0:=dm (sW (yB (nH ae.out) ac (Nat.le_of_eq hg.symm)) hb);have n1:=nA af hb;have n2:=nA ah hb;have n3:=nA ai hb;have n4:=nI HB hb;have n5:=dm (nu);have n6:=dm (nO:w.heap.size<=ac);have n7:=dm (nO:w.heap.size<=ac);have n8:=dm (EI:ap≠ac);have n9:=dm (EJ:ac≠ap);have bj:=dm (CL:al≠ac);have bv:=dm (CK:ac≠al);have bx:=dm (ET:am≠ac);have bz:=dm (EU:ac≠am);clear ae af ah ai HB;revert n0 n1 n2 n3 n4 n5 n6 n7 n8 n9 bj bv bx bz;intro ae af ah ai HB aM bH bI au aD av aE aw aG;clear hb nu hg;have dC:=aD.out;have dD:=au.out;have dE:=aE.out;have dF:=av.out;have dG:=aG.out;have dH:=aw.out;have⟨cv,cw,cx,cy⟩:=nJ (w:=dh) aM))
     go_roundg k1
     case measure=>have:=aT.out;omega
     case rel=>exact⟨(wrap64 (ab+1)),(ao),(aq),(nQ),H',⟨by have:=aT.out;omega⟩,⟨HZ⟩,⟨vX⟩,⟨uk⟩,⟨zn⟩,⟨ny HB.out⟩⟩
    rw[if_neg bk]at H;have ce:=beq_eq_false_iff_ne.mpr bk;have cf:=bne_iff_ne.mpr bk
    by_cases bm:((nk aa ab).f1)=a1
    ·rw[if_pos bm]at H;have cg:=beq_iff_eq.mpr bm;have ch:=bne_eq_false_iff_eq.mpr bm;clear bm;have H':=dm H;clear H;have aI:0<=(ab:Int):=nC;have aK:ab<(aa.length:Int):=nC;obtain⟨a3,bl,aA,aC⟩:=qA a6.out ab aI aK;cases bl;replace aA:=nG HB aA;replace aC:=nG HB aC;replace aI:=eq_true aI;replace aK:=eq_true aK
     go_wp2_with (first|((with_reducible refine nU 7 rfl ?_);refine oI #[.int .i64 0,.int .i64 0] 59 ?_;intro ac hg di nu hb;have n0:=dm (sW (yB (nH ae.out) ac (Nat.le_of_eq hg.symm)) hb);have n1:=nA af hb;have n2:=nA ah hb;have n3:=nA ai hb;have n4:=nI HB hb;have n5:=dm (nu);have n6:=dm (nO:w.heap.size<=ac);have n7:=dm (nO:w.heap.size<=ac);have n8:=dm (EI:ap≠ac);have n9:=dm (EJ:ac≠ap);have bj:=dm (CL:al≠ac);have bv:=dm (CK:ac≠al);have bx:=dm (ET:am≠ac);have bz:=dm (EU:ac≠am);clear ae af ah ai HB;revert n0 n1 n2 n3 n4 n5 n6 n7 n8 n9 bj bv bx bz;intro ae af ah ai HB aM bH bI au aD av aE aw aG;clear hb nu hg;have dI:=aD.out;have dJ:=au.out;have dK:=aE.out;have dL:=av.out;have dM:=aG.out;have dN:=aw.out;have⟨cz,cA,cD,cE⟩:=nJ (w:=di) aM))
     go_roundg k1
     case measure=>have:=aT.out;omega
     case rel=>exact⟨(wrap64 (ab+1)),(ao),(aq),(nQ),H',⟨by have:=aT.out;omega⟩,⟨HZ⟩,⟨vX⟩,⟨uk⟩,⟨zn⟩,⟨ny HB.out⟩⟩
    rw[if_neg bm]at H;have cg:=beq_eq_false_iff_ne.mpr bm;have ch:=bne_iff_ne.mpr bm
    obtain⟨bJ,H⟩:=qh H;have ci:=dm bJ;clear bJ;obtain⟨br,a9⟩:∃y_:List (S59),y_=(ao++[(⟨(nk aa ab).f0,(nk aa ab).f1⟩:S59)]):=⟨_,rfl⟩;replace H:(tZ.l0 k1 a1 aa (aa.length:Int) (wrap64 (ab+1)) ag br)=some (r1,r2):=pG a9 H
    have cj:=dm a9;clear a9;have H':=dm H;clear H;have aI:0<=(ab:Int):=nC;have aK:ab<(aa.length:Int):=nC;obtain⟨a3,bl,aA,aC⟩:=qA a6.out ab aI aK;cases bl;replace aA:=nG HB aA;replace aC:=nG HB aC;replace aI:=eq_true aI;replace aK:=eq_true aK
    go_wp2_with (first|((with_reducible refine nU 7 rfl ?_);refine oI #[.int .i64 0,.int .i64 0] 59 ?_;intro ac hg cp nu hb;have n0:=dm (sW (yB (nH ae.out) ac (Nat.le_of_eq hg.symm)) hb);have n1:=nA af hb;have n2:=nA ah hb;have n3:=nA ai hb;have n4:=nI HB hb;have n5:=dm (nu);have n6:=dm (nO:w.heap.size<=ac);have n7:=dm (nO:w.heap.size<=ac);have n8:=dm (EI:ap≠ac);have n9:=dm (EJ:ac≠ap);have bj:=dm (CL:al≠ac);have bv:=dm (CK:ac≠al);have bx:=dm (ET:am≠ac);have bz:=dm (EU:ac≠am);clear ae af ah ai HB;revert n0 n1 n2 n3 n4 n5 n6 n7 n8 n9 bj bv bx bz;intro ae af ah ai HB aM bH bI au aD av aE aw aG;clear hb nu hg;have dO:=aD.out;have dP:=au.out;have dQ:=aE.out;have dR:=av.out;have dS:=aG.out;have dT:=aw.out;have⟨cF,cG,cH,cI⟩:=nJ (w:=cp) aM;have dU:=aU.out;have dV:=ay.out;have dW:=aV.out;have dX:=az.out;have⟨cJ,cL,cM,cN⟩:=nJ (w:=cp) ai)|((with_reducible refine rR (b:=.append) (xs:= #[.tmp 30,.tmp 32]) rfl ?_);at_builtin;refine sU k59 (w0:=w) w.heap.size rfl (.tmp 30) (.tmp 32) 29 59 (.agg #[(.int .i64 0),(.int .i64 0)]) 16 rfl Try.underlying29 uS rfl (by decide) (by omega) aq ao (⟨(nk aa ab).f0,(nk aa ab).f1⟩:S59) [.int .i64 ((nk aa ab).f0),.int .i64 ((nk aa ab).f1)] (fun k_=>k_≠ac) (fun _=>False) rfl (by first|(go_simp;done)|(go_simp;rfl)) ?aP (fun _ hk=>hk.elim) ?aF ?aO ?aB ?aS ?aL ?_;(case aP=>exact uH _ _ _ (⟨(nk aa ab).f0,(nk aa ab).f1⟩:S59));(case aB=>exact(ny HB.out));(case aF=>exact(fun k_ hk=>rG (g:=ac) (o:=.cells #[.int .i64 ((nk aa ab).f0),.int .i64 ((nk aa ab).f1)] 59 (0,0)) (HY) k_ hk));(case aO=>exact(by(with_reducible repeat(first|apply ol|apply om|apply nP));exact nK (nR (p:=⟨ac,1,none⟩) (nR (p:=⟨ac,0,none⟩) (nK ae.out (fun k_ hk=>(⟨hk,hk.2⟩:_/\k_≠ac))) (fun _ hk=>hk.2) (.int .i64 ((nk aa ab).f0))) (fun _ hk=>hk.2) (.int .i64 ((nk aa ab).f1))) (fun _ hk=>hk.1.2)));(case aS=>exact(ou (ny HB.out)));(case aL=>have:=ci.out;omega);intro eh dj ho hb hg hat;rw[←cj.out]at ho;have n0:=dm (uY (g:=ap) (o:=.cells #[.int .i64 ag,.slice (some a3) aa.length ax] 31 (0,0)) (vX) hg (pM ae.out af.out (by decide)));have n1:=dm (uY (g:=al) (o:=.cells #[.int .i64 0,.slice none 0 0] 31 (0,0)) (uk) hg (pM ae.out ah.out (by decide)));have n2:=dm (uY (g:=am) (o:=.cells #[.int .i64 ag,aq] 31 (0,0)) (zn) hg (pM ae.out ai.out (by decide)));have n3:=dm (uY (g:=ac) (o:=.cells #[.int .i64 ((nk aa ab).f0),.int .i64 ((nk aa ab).f1)] 59 (0,0)) (HY) hg (xM ae.out (fun _ hk=>hk.2)));have n4:=dm (hb);have n5:=dm (ho);clear af ah ai aM HB ae;revert n0 n1 n2 n3 n4 n5;intro af ah ai aM HB bK;clear ho hb hg hat;obtain⟨b5,b6,ct⟩:=nY bK.out;subst ct;have⟨cO,cP,cQ,cS⟩:=nJ (w:=dj) ai))
    go_roundg k1
    case measure=>have:=aT.out;omega
    case rel=>exact⟨(wrap64 (ab+1)),(br),(.slice b5 br.length b6),(nQ),H',⟨by have:=aT.out;omega⟩,⟨by(with_reducible repeat(first|apply ol|apply om|apply nP));exact nK (nR (p:=⟨am,1,none⟩) (oO bK.out ai.out (by decide)) (fun _ hk=>hk.2) (.slice b5 br.length b6)) (fun _ hk=>trivial)⟩,⟨pg af.out⟩,⟨pg ah.out⟩,⟨pg ai.out⟩,⟨ny HB.out⟩⟩
   simp only [Option.some.injEq,Prod.mk.injEq]at H;obtain⟨rfl,rfl⟩:=H;have dY:=aU.out;have dZ:=ay.out;have d7:=aV.out;have d8:=az.out;have⟨cT,cU,cW,cX⟩:=nJ (w:=wr) ai;have d9:=bd.out;have d_:=ba.out;have⟨cY,cZ,c_,db⟩:=nJ (w:=wr) ah;obtain⟨b7,b8,cu⟩:=nY ae.out;subst cu
   go_wp2;refine bodyPost_ret (results_cell_row rfl _ _ al 31 #[.int .i64 ag,.slice b7 ao.length b8] (0,0) _ rfl (pg ah.out) Try.underlying31 rfl (by kernel_rfl)) rfl ?_;exact⟨_,qC,by(with_reducible repeat(first|apply ol|apply om|apply nP));exact nK (nR (p:=⟨al,1,none⟩) (nR (p:=⟨al,0,none⟩) (oO ae.out ah.out (by decide)) (fun _ hk=>hk.2) (.int .i64 ag)) (fun _ hk=>hk.2) (.slice b7 ao.length b8)) (fun _ hk=>trivial),ny HB.out⟩
theorem EK(h:p:=by rw[hg];exact Nat.ne_of_lt (oU (g:=al) (o:=.cells #[.int .i64 af,.slice ao ah.length ap] 31 (0,0)) (nE aa.out))):p:=h
theorem EL(h:p:=by rw[hg];exact Nat.ne_of_gt (oU (g:=al) (o:=.cells #[.int .i64 af,.slice ao ah.length ap] 31 (0,0)) (nE aa.out))):p:=h
def rX.l0:Nat->List Int->Int->Int->Int->List (S59)->Option (List Int)
 |0,_,_,_,_,_=>none
 |k+1,x3,a9,a3,aI,aD=>if a3<a9 then((tZ.f k aI aD a3).bind fun a6=>(if(a6.2.length:Int)<(aD.length:Int) then((uy.f k a6.1 a6.2).bind fun aE=>((uy.f k aI aD).bind fun aw=>(if(wrap64 (aE - 1))>aw then(if x3.length<17592186044416 then(rX.l0 k (x3++[a3]) a9 (wrap64 (a3+1)) aI aD) else(none)) else(rX.l0 k x3 a9 (wrap64 (a3+1)) aI aD)))) else(rX.l0 k x3 a9 (wrap64 (a3+1)) aI aD))) else(some x3)
def rX.f (k:Nat) (af:Int) (ah:List (S59)):Option (List Int):=(some (([]:List Int):List Int)).bind fun au=>((qL.f k af ah).bind fun aN=>(if aN=true then(rX.l0 k au af 0 af ah) else(some au)))
def rX.T8:Bool×List (List Nat×List Nat):=(true,[([],[]),([0],[0]),([1],[1]),([],[]),([3],[3]),([4],[4]),([2,5],[2,5]),([6],[6]),([7],[7]),([8,7,7],[7,8]),([9,7],[7,9]),([7],[7]),([11,9,7],[7,11]),([10,12,7],[7,10,12]),([7,13],[7,13])])
def rX.B8:List Nat:=[0,1,3,0,8,24,63,127,255,511,1023,255,3071,8191,16383]
theorem rX.vV:qj .any (opsOf Try.f41 8)=rX.T8:=by kernel_rfl
theorem rX.vP:qV rX.T8.2 rX.B8=true:=by kernel_rfl
theorem rX.calls {k:Nat}{af:Int}{ao:Option Addr}{ap:Nat}{ah:List (S59)}{r:List Int}{w:World}(a_:Kd.C k59 w ao ah.length ah)(ba:ah.length<=ap)(h:rX.f k af ah=some r):
  Calls Try.prog 41 #[.agg #[.int .i64 af,.slice ao ah.length ap]] w fun e w'=>∃bH:Value,e=.returned (bH)/\Kd.R (Kd.int .i64) 3 w' w.heap.size (fun _=>True) bH r/\Below w.heap.size w w':=by
 have cx:=Try.underlying31;have aK:=dm a_;have aM:=dm ba;clear a_ ba;have HB:=dm (Below.refl w.heap.size w);unfold rX.f at h;have H:=h;clear h;obtain⟨au,aQ⟩:∃y_:List Int,y_=(([]:List Int)):=⟨_,rfl⟩;replace H:((qL.f k af ah).bind fun aN=>(if aN=true then(rX.l0 k au af 0 af ah) else(some au)))=some r:=pG aQ H
 have aV:=dm aQ;clear aQ;obtain⟨aN,A2,H⟩:=ow H;(try dsimp only at H)
 rcases pW H with⟨h_,H_⟩|⟨h_,H_⟩<;> (subst h_;clear H;have H:=H_;clear H_)
 ·have H':=dm H;clear H
  go_enter Try.func41,Try.ntmps41
  go_wp2_with (first|((with_reducible refine nU 1 rfl ?_);refine oI #[.int .i64 af,.slice ao ah.length ap] 31 ?_;intro al hg w4 nu hb;have aa:=dm (nu);have bx:=dm (nO:w.heap.size<=al);have bz:=dm (nO:w.heap.size<=al);replace HB:=nI HB hb;clear hb nu hg)|((with_reducible refine nU 6 rfl ?_);refine rZ (Kd.int .i64) rfl 3 ([]:List Int) [] (oF.none _ _) ?_;intro bK w5 a8 hb hg_ pE;clear hg_ pE;(first|rw[←aV.out]at a8|(simp only [Int.reduceToNat]at a8;rw[←aV.out]at a8));have aC:=dm (oJ a8 (ou (ny HB.out)));replace aa:=nA aa hb;replace HB:=nI HB hb;clear hb a8;have⟨bj,bk,bl,bm⟩:=nJ (w:=w5) aa)|((with_reducible refine og 50 rfl ?_);refine rH 8 rfl Try.func50 (qL.calls (nS (oG aK.out HB.out)) aM.out A2.out) ?_;intro w8 hb;replace aC:=oh aC hb;replace aa:=nA aa hb;replace HB:=nI HB hb;(try clear hb);have⟨bn,bo,bp,bq⟩:=nJ (w:=w8) aa))
  go_loopg [3,13] k (fun kq v3 ck w'=>∃ (am:List Int) (ak:Int),ck=.int .i64 ak/\lm (rX.l0 kq am af ak af ah=some r)/\lm (kq<=k)/\lm (Kd.R (Kd.int .i64) 3 w' w.heap.size (fun _=>True) v3 am)/\lm (w'.heap[al]? =some (.cells #[.int .i64 af,(.slice ao ah.length ap)] 31 (0,0)))/\lm (Below w.heap.size w w'))
  case atStart=>exact⟨(au),(0),(by first|rfl|(simp;done)|(simp[*];done)),H',⟨Nat.le_refl _⟩,⟨nH aC.out⟩,⟨nE aa.out⟩,⟨ny HB.out⟩⟩
  case round=>
   clear H';(try clear c3 bj bk bn bo bl bm bp bq);obtain⟨am,ak,rfl,HA,a4,ag,aa,HB⟩:=hrel;cases gk with
   |zero=>exact absurd HA.out (by simp[rX.l0])
   |succ k1=>
    have H:=HA.out;clear HA;simp only [rX.l0]at H
    replace H:=pU H;rcases H with⟨bA,H⟩|⟨bA,H⟩
    ·obtain⟨⟨aj,ai⟩,br,H⟩:=ow H;(try dsimp only at H)
     by_cases aT:(ai.length:Int)<(ah.length:Int)
     ·rw[if_pos aT]at H;have bB:=decide_eq_true aT;have bC:=decide_eq_true (Int.ofNat_lt.mp aT);clear aT;obtain⟨aE,bI,H⟩:=ow H;(try dsimp only at H);obtain⟨aw,bJ,H⟩:=ow H;(try dsimp only at H)
      replace H:=pU H;rcases H with⟨bD,H⟩|⟨bD,H⟩
      ·skip
       obtain⟨bd,H⟩:=qh H;have bE:=dm bd;clear bd;obtain⟨bu,aR⟩:∃y_:List Int,y_=(am++[ak]):=⟨_,rfl⟩;replace H:(rX.l0 k1 bu af (wrap64 (ak+1)) af ah)=some r:=pG aR H
       have bF:=dm aR;clear aR;have H':=dm H;clear H;have⟨bO,bP,bQ,bR⟩:=nJ (w:=wr) aa;try go_wp2_with (first|((with_reducible refine og 84 rfl ?_);refine oV 18 rfl Try.func84 (tZ.calls (nS (oG aK.out HB.out)) aM.out br.out) ?_;rintro e cz ⟨bv,rfl,aU,hb⟩;refine⟨_,rfl,?_⟩;replace ag:=oh ag hb;have ae:=dm (oJ aU (ou (ny HB.out)));replace aa:=nA aa hb;replace HB:=nI HB hb;(try clear hb aU))|((with_reducible refine nU 5 rfl ?_);refine oI #[.int .i64 0,.slice none 0 0] 31 ?_;intro ab hg aX nu hb;replace ag:=oh ag hb;replace ae:=oh ae hb;have ac:=dm (nu);have bf:=dm (nO:w.heap.size<=ab);have bh:=dm (nO:w.heap.size<=ab);replace HB:=nI HB hb;have aq:=dm (EK:al≠ab);have av:=dm (EL:ab≠al);replace aa:=nA aa hb;clear hb nu hg;have cq:=av.out;have cr:=aq.out;have⟨bS,bT,bU,bV⟩:=nJ (w:=aX) ac;obtain⟨ax,ay,bL⟩:=nY ae.out;subst bL))
       have n0:lm (Kd.R (Kd.int .i64) 3 ((aX.setCell ⟨ab,0,none⟩ (.int .i64 aj)).setCell ⟨ab,1,none⟩ (.slice ax ai.length ay)) w.heap.size (fun _=>True) u3 am):=⟨by(with_reducible repeat(first|apply ol|apply om|apply nP));exact nK (nR (p:=⟨ab,1,none⟩) (nR (p:=⟨ab,0,none⟩) (oO ag.out ac.out (by decide)) (fun _ hk=>hk.2) (.int .i64 aj)) (fun _ hk=>hk.2) (.slice ax ai.length ay)) (fun _ hk=>trivial)⟩;have n1:lm (Kd.R k59 59 ((aX.setCell ⟨ab,0,none⟩ (.int .i64 aj)).setCell ⟨ab,1,none⟩ (.slice ax ai.length ay)) w.heap.size (fun _=>True) (.slice ax ai.length ay) ai):=⟨by(with_reducible repeat(first|apply ol|apply om|apply nP));exact nK (nR (p:=⟨ab,1,none⟩) (nR (p:=⟨ab,0,none⟩) (oO ae.out ac.out (by decide)) (fun _ hk=>hk.2) (.int .i64 aj)) (fun _ hk=>hk.2) (.slice ax ai.length ay)) (fun _ hk=>trivial)⟩;have n2:lm (((aX.setCell ⟨ab,0,none⟩ (.int .i64 aj)).setCell ⟨ab,1,none⟩ (.slice ax ai.length ay)).heap[al]? =some (.cells #[.int .i64 af,.slice ao ah.length ap] 31 (0,0))):=⟨rq⟩;have n3:lm (((aX.setCell ⟨ab,0,none⟩ (.int .i64 aj)).setCell ⟨ab,1,none⟩ (.slice ax ai.length ay)).heap[ab]? =some (.cells #[.int .i64 aj,.slice ax ai.length ay] 31 (0,0))):=⟨sj⟩;have n4:lm (Below w.heap.size w ((aX.setCell ⟨ab,0,none⟩ (.int .i64 aj)).setCell ⟨ab,1,none⟩ (.slice ax ai.length ay))):=⟨ny HB.out⟩;(try clear ag ae aa ac HB);generalize((aX.setCell ⟨ab,0,none⟩ (.int .i64 aj)).setCell ⟨ab,1,none⟩ (.slice ax ai.length ay))=cl at n0 n1 n2 n3 n4⊢;revert n0 n1 n2 n3 n4;intro ag ae aa ac HB;replace ag:=dm (nP ag.out);replace ae:=dm (nP ae.out);replace aa:=dm (oq aa.out);replace ac:=dm (oq ac.out);replace HB:=dm (pI HB.out);refine qc 15 (S:=fun w'=>w'.cell? ⟨ab,0,none⟩=some (.int .i64 aj)/\w'.cell? ⟨ab,1,none⟩=some (.slice ax ai.length ay)/\w'.cell? ⟨al,0,none⟩=some (.int .i64 af)/\w'.cell? ⟨al,1,none⟩=some (.slice ao ah.length ap)) [] ⟨nz ac 0,nz ac 1,nz aa 0,nz aa 1⟩ rX.vV rX.vP (fun hHeld HT_ HW_=>?_);generalize cl.drew=cA at ag ae aa ac HB hHeld⊢;refine lq 0 19 1 ?_;refine lq 3 22 9 ?_;refine nT 1 20 11 ?_;refine lq 2 21 15 ?_;refine nT 4 23 31 ?_;refine lq 5 24 63 ?_;refine lq 6 25 127 ?_;refine lq 7 26 255 ?_;refine nT 8 27 511 ?_;refine nT 11 30 2559 ?_;refine oN 9 28 3071 (fun K hK=>?_);refine tT Try.func63 (uy.calls (nS (nM ae.out).2.2) ((nM ae.out).2.1) bI.out) ?_;intro cD hb;replace ag:=oh ag hb;replace ae:=oh ae hb;replace aa:=nA aa hb;replace ac:=nA ac hb;replace HB:=nI HB hb;(try clear hb cm hk hi);refine hK.out _ _ ⟨nz ac 0,nz ac 1,nz aa 0,nz aa 1⟩ (fun hHeld=>?_);clear hK K;refine nX 28 ?_;refine lq 10 29 4095 ?_;refine oN 12 31 8191 (fun K hK=>?_);refine tT Try.func63 (uy.calls (nS (oG aK.out HB.out)) aM.out bJ.out) ?_;intro cE hb;replace ag:=oh ag hb;replace ae:=oh ae hb;replace aa:=nA aa hb;replace ac:=nA ac hb;replace HB:=nI HB hb;(try clear hb);refine hK.out _ _ ⟨nz ac 0,nz ac 1,nz aa 0,nz aa 1⟩ (fun hHeld=>?_);clear hK K;refine nX 31 ?_;refine lq 13 32 16383 ?_;refine lq 14 33 32767 ?_;refine pY (p8 HT_.out (oz)) ?_;try go_wp2_with (first|((with_reducible refine rR (b:=.append) (xs:= #[.tmp 34,.tmp 36]) rfl ?_);at_builtin;refine sU (Kd.int .i64) (w0:=w) w.heap.size rfl (.tmp 34) (.tmp 36) 45 3 (.int .i64 0) 8 rfl Try.underlying45 info3 rfl (by decide) (by omega) u3 am ak [.int .i64 ak] (fun _=>True) (fun _=>False) rfl rfl ?aP (fun _ hk=>hk.elim) ?aF ?aO ?aB ?aS ?aL ?_;(case aP=>exact rfl);(case aB=>exact(ny HB.out));(case aF=>exact(fun _ _=>trivial));(case aO=>exact(nH ag.out));(case aS=>exact(ou (ny HB.out)));(case aL=>have:=bE.out;omega);intro cy cF ho hb hg hat;rw[←bF.out]at ho;have n0:=pF aa hg (pM ag.out aa.out (by decide));have n1:=dm (sI (nH ae.out) (sJ (nH ag.out)) (by decide) hg);have n2:=pF ac hg (pM ag.out ac.out (by decide));have n3:=dm (hb);have n4:=dm (ho);clear aa ae ac HB ag;revert n0 n1 n2 n3 n4;intro aa ae ac HB bG;clear ho hb hg hat))
       go_roundg k1
       case measure=>have:=a4.out;omega
       case rel=>exact⟨(bu),(wrap64 (ak+1)),(by first|rfl|(simp;done)|(simp[*];done)),H',⟨by have:=a4.out;omega⟩,⟨nH bG.out⟩,⟨nE aa.out⟩,⟨ny HB.out⟩⟩
      have H':=dm H;clear H;have⟨bW,bX,bY,bZ⟩:=nJ (w:=wr) aa;try go_wp2_with (first|((with_reducible refine og 84 rfl ?_);refine oV 18 rfl Try.func84 (tZ.calls (nS (oG aK.out HB.out)) aM.out br.out) ?_;rintro e cG ⟨bv,rfl,aU,hb⟩;refine⟨_,rfl,?_⟩;replace ag:=oh ag hb;have ae:=dm (oJ aU (ou (ny HB.out)));replace aa:=nA aa hb;replace HB:=nI HB hb;(try clear hb aU))|((with_reducible refine nU 5 rfl ?_);refine oI #[.int .i64 0,.slice none 0 0] 31 ?_;intro ab hg aY nu hb;replace ag:=oh ag hb;replace ae:=oh ae hb;have ac:=dm (nu);have bf:=dm (nO:w.heap.size<=ab);have bh:=dm (nO:w.heap.size<=ab);replace HB:=nI HB hb;have aq:=dm (EK:al≠ab);have av:=dm (EL:ab≠al);replace aa:=nA aa hb;clear hb nu hg;have ct:=av.out;have cu:=aq.out;have⟨b3,b4,b5,b6⟩:=nJ (w:=aY) ac;obtain⟨az,aA,bM⟩:=nY ae.out;subst bM))
      have n0:lm (Kd.R (Kd.int .i64) 3 ((aY.setCell ⟨ab,0,none⟩ (.int .i64 aj)).setCell ⟨ab,1,none⟩ (.slice az ai.length aA)) w.heap.size (fun _=>True) u3 am):=⟨by(with_reducible repeat(first|apply ol|apply om|apply nP));exact nK (nR (p:=⟨ab,1,none⟩) (nR (p:=⟨ab,0,none⟩) (oO ag.out ac.out (by decide)) (fun _ hk=>hk.2) (.int .i64 aj)) (fun _ hk=>hk.2) (.slice az ai.length aA)) (fun _ hk=>trivial)⟩;have n1:lm (Kd.R k59 59 ((aY.setCell ⟨ab,0,none⟩ (.int .i64 aj)).setCell ⟨ab,1,none⟩ (.slice az ai.length aA)) w.heap.size (fun _=>True) (.slice az ai.length aA) ai):=⟨by(with_reducible repeat(first|apply ol|apply om|apply nP));exact nK (nR (p:=⟨ab,1,none⟩) (nR (p:=⟨ab,0,none⟩) (oO ae.out ac.out (by decide)) (fun _ hk=>hk.2) (.int .i64 aj)) (fun _ hk=>hk.2) (.slice az ai.length aA)) (fun _ hk=>trivial)⟩;have n2:lm (((aY.setCell ⟨ab,0,none⟩ (.int .i64 aj)).setCell ⟨ab,1,none⟩ (.slice az ai.length aA)).heap[al]? =some (.cells #[.int .i64 af,.slice ao ah.length ap] 31 (0,0))):=⟨rq⟩;have n3:lm (((aY.setCell ⟨ab,0,none⟩ (.int .i64 aj)).setCell ⟨ab,1,none⟩ (.slice az ai.length aA)).heap[ab]? =some (.cells #[.int .i64 aj,.slice az ai.length aA] 31 (0,0))):=⟨sj⟩;have n4:lm (Below w.heap.size w ((aY.setCell ⟨ab,0,none⟩ (.int .i64 aj)).setCell ⟨ab,1,none⟩ (.slice az ai.length aA))):=⟨ny HB.out⟩;(try clear ag ae aa ac HB);generalize((aY.setCell ⟨ab,0,none⟩ (.int .i64 aj)).setCell ⟨ab,1,none⟩ (.slice az ai.length aA))=cn at n0 n1 n2 n3 n4⊢;revert n0 n1 n2 n3 n4;intro ag ae aa ac HB;replace ag:=dm (nP ag.out);replace ae:=dm (nP ae.out);replace aa:=dm (oq aa.out);replace ac:=dm (oq ac.out);replace HB:=dm (pI HB.out);refine qc 15 (S:=fun w'=>w'.cell? ⟨ab,0,none⟩=some (.int .i64 aj)/\w'.cell? ⟨ab,1,none⟩=some (.slice az ai.length aA)/\w'.cell? ⟨al,0,none⟩=some (.int .i64 af)/\w'.cell? ⟨al,1,none⟩=some (.slice ao ah.length ap)) [] ⟨nz ac 0,nz ac 1,nz aa 0,nz aa 1⟩ rX.vV rX.vP (fun hHeld HT_ HW_=>?_);generalize cn.drew=cH at ag ae aa ac HB hHeld⊢;refine lq 0 19 1 ?_;refine lq 3 22 9 ?_;refine nT 1 20 11 ?_;refine lq 2 21 15 ?_;refine nT 4 23 31 ?_;refine lq 5 24 63 ?_;refine lq 6 25 127 ?_;refine lq 7 26 255 ?_;refine nT 8 27 511 ?_;refine nT 11 30 2559 ?_;refine oN 9 28 3071 (fun K hK=>?_);refine tT Try.func63 (uy.calls (nS (nM ae.out).2.2) ((nM ae.out).2.1) bI.out) ?_;intro cI hb;replace ag:=oh ag hb;replace ae:=oh ae hb;replace aa:=nA aa hb;replace ac:=nA ac hb;replace HB:=nI HB hb;(try clear hb cm hk hi);refine hK.out _ _ ⟨nz ac 0,nz ac 1,nz aa 0,nz aa 1⟩ (fun hHeld=>?_);clear hK K;refine nX 28 ?_;refine lq 10 29 4095 ?_;refine oN 12 31 8191 (fun K hK=>?_);refine tT Try.func63 (uy.calls (nS (oG aK.out HB.out)) aM.out bJ.out) ?_;intro cJ hb;replace ag:=oh ag hb;replace ae:=oh ae hb;replace aa:=nA aa hb;replace ac:=nA ac hb;replace HB:=nI HB hb;(try clear hb);refine hK.out _ _ ⟨nz ac 0,nz ac 1,nz aa 0,nz aa 1⟩ (fun hHeld=>?_);clear hK K;refine nX 31 ?_;refine lq 13 32 16383 ?_;refine lq 14 33 32767 ?_;refine pY (p8 HT_.out (oz)) ?_;try go_wp2
      go_roundg k1
      case measure=>have:=a4.out;omega
      case rel=>exact⟨(am),(wrap64 (ak+1)),(by first|rfl|(simp;done)|(simp[*];done)),H',⟨by have:=a4.out;omega⟩,⟨nH ag.out⟩,⟨nE aa.out⟩,⟨ny HB.out⟩⟩
     rw[if_neg aT]at H;have bB:=decide_eq_false aT;have bC:decide (ai.length<ah.length)=false:=decide_eq_false (fun h=>aT (Int.ofNat_lt.mpr h));clear aT;have H':=dm H;clear H;have⟨b7,b8,b9,b_⟩:=nJ (w:=wr) aa;try go_wp2_with (first|((with_reducible refine og 84 rfl ?_);refine oV 18 rfl Try.func84 (tZ.calls (nS (oG aK.out HB.out)) aM.out br.out) ?_;rintro e cL ⟨bv,rfl,aU,hb⟩;refine⟨_,rfl,?_⟩;replace ag:=oh ag hb;have ae:=dm (oJ aU (ou (ny HB.out)));replace aa:=nA aa hb;replace HB:=nI HB hb;(try clear hb aU))|((with_reducible refine nU 5 rfl ?_);refine oI #[.int .i64 0,.slice none 0 0] 31 ?_;intro ab hg aZ nu hb;replace ag:=oh ag hb;replace ae:=oh ae hb;have ac:=dm (nu);have bf:=dm (nO:w.heap.size<=ab);have bh:=dm (nO:w.heap.size<=ab);replace HB:=nI HB hb;have aq:=dm (EK:al≠ab);have av:=dm (EL:ab≠al);replace aa:=nA aa hb;clear hb nu hg;have cv:=av.out;have cw:=aq.out;have⟨ca,cd,ce,cf⟩:=nJ (w:=aZ) ac;obtain⟨aG,aH,bN⟩:=nY ae.out;subst bN))
     have n0:lm (Kd.R (Kd.int .i64) 3 ((aZ.setCell ⟨ab,0,none⟩ (.int .i64 aj)).setCell ⟨ab,1,none⟩ (.slice aG ai.length aH)) w.heap.size (fun _=>True) u3 am):=⟨by(with_reducible repeat(first|apply ol|apply om|apply nP));exact nK (nR (p:=⟨ab,1,none⟩) (nR (p:=⟨ab,0,none⟩) (oO ag.out ac.out (by decide)) (fun _ hk=>hk.2) (.int .i64 aj)) (fun _ hk=>hk.2) (.slice aG ai.length aH)) (fun _ hk=>trivial)⟩;have n1:lm (Kd.R k59 59 ((aZ.setCell ⟨ab,0,none⟩ (.int .i64 aj)).setCell ⟨ab,1,none⟩ (.slice aG ai.length aH)) w.heap.size (fun _=>True) (.slice aG ai.length aH) ai):=⟨by(with_reducible repeat(first|apply ol|apply om|apply nP));exact nK (nR (p:=⟨ab,1,none⟩) (nR (p:=⟨ab,0,none⟩) (oO ae.out ac.out (by decide)) (fun _ hk=>hk.2) (.int .i64 aj)) (fun _ hk=>hk.2) (.slice aG ai.length aH)) (fun _ hk=>trivial)⟩;have n2:lm (((aZ.setCell ⟨ab,0,none⟩ (.int .i64 aj)).setCell ⟨ab,1,none⟩ (.slice aG ai.length aH)).heap[al]? =some (.cells #[.int .i64 af,.slice ao ah.length ap] 31 (0,0))):=⟨rq⟩;have n3:lm (((aZ.setCell ⟨ab,0,none⟩ (.int .i64 aj)).setCell ⟨ab,1,none⟩ (.slice aG ai.length aH)).heap[ab]? =some (.cells #[.int .i64 aj,.slice aG ai.length aH] 31 (0,0))):=⟨sj⟩;have n4:lm (Below w.heap.size w ((aZ.setCell ⟨ab,0,none⟩ (.int .i64 aj)).setCell ⟨ab,1,none⟩ (.slice aG ai.length aH))):=⟨ny HB.out⟩;(try clear ag ae aa ac HB);generalize((aZ.setCell ⟨ab,0,none⟩ (.int .i64 aj)).setCell ⟨ab,1,none⟩ (.slice aG ai.length aH))=co at n0 n1 n2 n3 n4⊢;revert n0 n1 n2 n3 n4;intro ag ae aa ac HB;replace ag:=dm (nP ag.out);replace ae:=dm (nP ae.out);replace aa:=dm (oq aa.out);replace ac:=dm (oq ac.out);replace HB:=dm (pI HB.out);refine qc 15 (S:=fun w'=>w'.cell? ⟨ab,0,none⟩=some (.int .i64 aj)/\w'.cell? ⟨ab,1,none⟩=some (.slice aG ai.length aH)/\w'.cell? ⟨al,0,none⟩=some (.int .i64 af)/\w'.cell? ⟨al,1,none⟩=some (.slice ao ah.length ap)) [] ⟨nz ac 0,nz ac 1,nz aa 0,nz aa 1⟩ rX.vV rX.vP (fun hHeld HT_ HW_=>?_);generalize co.drew=cM at ag ae aa ac HB hHeld⊢;refine lq 0 19 1 ?_;refine lq 3 22 9 ?_;refine nT 1 20 11 ?_;refine lq 2 21 15 ?_;refine nT 4 23 31 ?_;refine lq 5 24 63 ?_;refine lq 6 25 127 ?_;refine lq 7 26 255 ?_;refine oM 8 27 511 ?_;refine oM 9 28 1023 ?_;refine oM 10 29 2047 ?_;refine oM 11 30 4095 ?_;refine oM 12 31 8191 ?_;refine oM 13 32 16383 ?_;refine lq 14 33 32767 ?_;refine pY (p8 HT_.out (oz)) ?_;try go_wp2
     go_roundg k1
     case measure=>have:=a4.out;omega
     case rel=>exact⟨(am),(wrap64 (ak+1)),(by first|rfl|(simp;done)|(simp[*];done)),H',⟨by have:=a4.out;omega⟩,⟨nH ag.out⟩,⟨nE aa.out⟩,⟨ny HB.out⟩⟩
    obtain rfl:=Option.some.inj H
    go_wp2
    go_ret
    exact⟨_,qC,nH ag.out,ny HB.out⟩
 obtain rfl:=Option.some.inj H
 go_enter Try.func41,Try.ntmps41
 go_wp2_with (first|((with_reducible refine nU 1 rfl ?_);refine oI #[.int .i64 af,.slice ao ah.length ap] 31 ?_;intro al hg cN nu hb;have aa:=dm (nu);have bx:=dm (nO:w.heap.size<=al);have bz:=dm (nO:w.heap.size<=al);replace HB:=nI HB hb;clear hb nu hg)|((with_reducible refine nU 6 rfl ?_);refine rZ (Kd.int .i64) rfl 3 ([]:List Int) [] (oF.none _ _) ?_;intro bK cp a2 hb hg_ pE;clear hg_ pE;(first|rw[←aV.out]at a2|(simp only [Int.reduceToNat]at a2;rw[←aV.out]at a2));have aC:=dm (oJ a2 (ou (ny HB.out)));replace aa:=nA aa hb;replace HB:=nI HB hb;clear hb a2;have⟨cg,ch,ci,cj⟩:=nJ (w:=cp) aa)|((with_reducible refine og 50 rfl ?_);refine rH 8 rfl Try.func50 (qL.calls (nS (oG aK.out HB.out)) aM.out A2.out) ?_;intro cO hb;replace aC:=oh aC hb;replace aa:=nA aa hb;replace HB:=nI HB hb;(try clear hb)))
 go_ret
 exact⟨_,qC,nH aC.out,ny HB.out⟩
theorem H7(h:p:=by exact pg ap.out):p:=h
theorem H8(h:p:=by(with_reducible repeat(first|apply ol|apply om|apply nP));exact(nK (nR (p:=⟨aj,1,none⟩) (nR (p:=⟨aj,0,none⟩) (nK ac.out (fun k_ hk=>(⟨hk,hk.2⟩:_/\k_≠aj))) (fun _ hk=>hk.2) (.int .i64 ((nk aa ab).f0))) (fun _ hk=>hk.2) (.int .i64 ((nk aa ab).f1))) (fun _ h_=>h_.1))):p:=h
theorem H9(h:p:=by rw[hg];exact Nat.ne_of_lt (oU (g:=ao) (o:=.cells #[.int .i64 ai,.slice (some aN) aa.length ay] 31 (0,0)) (nE ae.out))):p:=h
theorem Ia(h:p:=by rw[hg];exact Nat.ne_of_gt (oU (g:=ao) (o:=.cells #[.int .i64 ai,.slice (some aN) aa.length ay] 31 (0,0)) (nE ae.out))):p:=h
theorem Ib(h:p:=by rw[hg];exact Nat.ne_of_lt (oU (g:=ao) (o:=.cells #[.int .i64 ai,.slice aV aa.length ay] 31 (0,0)) (nE ae.out))):p:=h
theorem Ic(h:p:=by rw[hg];exact Nat.ne_of_gt (oU (g:=ao) (o:=.cells #[.int .i64 ai,.slice aV aa.length ay] 31 (0,0)) (nE ae.out))):p:=h
theorem EN(h:p:=by rw[hg];exact Nat.ne_of_lt (oU (g:=al) (o:=.cells #[.int .i64 0,.slice none 0 0] 31 (0,0)) (nE af.out))):p:=h
theorem EM(h:p:=by rw[hg];exact Nat.ne_of_gt (oU (g:=al) (o:=.cells #[.int .i64 0,.slice none 0 0] 31 (0,0)) (nE af.out))):p:=h
def uF.l0:Nat->List (S59)->List (S59)->Int->Int->Int->List (S59)->Option (Int× (List (S59)))
 |0,_,_,_,_,_,_=>none
 |k+1,x1,aZ,bC,aQ,aW,aI=>if aQ<bC then(if 0<=aQ then(if aQ<(aZ.length:Int) then((v_.f k x1 ((nk aZ aQ).f0) ((nk aZ aQ).f1)).bind fun a5=>(if a5=true then(uF.l0 k x1 aZ bC (wrap64 (aQ+1)) aW aI) else(if aI.length<8796093022208 then(uF.l0 k x1 aZ bC (wrap64 (aQ+1)) aW (aI++[(⟨(nk aZ aQ).f0,(nk aZ aQ).f1⟩:S59)])) else(none)))) else(none)) else(none)) else(some (aW,aI))
def uF.f (k:Nat) (ai:Int) (aa:List (S59)) (l1:List (S59)):Option (Int× (List (S59))):=uF.l0 k l1 aa (aa.length:Int) 0 ai (([]:List (S59)))
theorem uF.calls {k:Nat}{ai:Int}{aV:Option Addr}{ay:Nat}{aa:List (S59)}{A1:Option Addr}{c1:Nat}{l1:List (S59)}{r1:Int}{r2:List (S59)}{w:World}(bd:Kd.C k59 w aV aa.length aa)(bf:aa.length<=ay)(hr1:Kd.C k59 w A1 l1.length l1)(bT:l1.length<=c1)(h:uF.f k ai aa l1=some (r1,r2)):
  Calls Try.prog 66 #[.agg #[.int .i64 ai,.slice aV aa.length ay],.slice A1 l1.length c1] w fun e w'=>∃bU:Value,e=.returned (.agg #[.int .i64 r1,bU])/\Kd.R k59 59 w' w.heap.size (fun _=>True) bU r2/\Below w.heap.size w w':=by
 have dy:=Try.underlying31;have dz:=Try.underlying59;have bh:=dm bd;have cI:=dm bf;clear bd bf;have bV:=dm hr1;have bW:=dm bT;clear hr1 bT;have HB:=dm (Below.refl w.heap.size w);unfold uF.f at h;have H:=h;clear h;obtain⟨a6,aR⟩:∃y_:List (S59),y_=(([]:List (S59))):=⟨_,rfl⟩;replace H:(uF.l0 k l1 aa (aa.length:Int) 0 ai a6)=some (r1,r2):=pG aR H
 have bj:=dm aR;clear aR;have H':=dm H;clear H
 go_enter Try.func66,Try.ntmps66
 go_wp2_with (first|((with_reducible refine nU 2 rfl ?_);refine oI #[.int .i64 ai,.slice aV aa.length ay] 31 ?_;intro ao hg w3 nu hb;have ae:=dm (nu);have cJ:=dm (nO:w.heap.size<=ao);have cL:=dm (nO:w.heap.size<=ao);replace HB:=nI HB hb;clear hb nu hg)|((with_reducible refine nU 4 rfl ?_);refine oI #[.int .i64 0,.slice none 0 0] 31 ?_;intro al hg w4 nu hb;have af:=dm (nu);have cM:=dm (nO:w.heap.size<=al);have cN:=dm (nO:w.heap.size<=al);replace HB:=nI HB hb;have aX:=dm (Ib:ao≠al);have aY:=dm (Ic:al≠ao);replace ae:=nA ae hb;clear hb nu hg;have dA:=aX.out;have dB:=aY.out;have⟨bD,bE,bF,bG⟩:=nJ (w:=w4) ae)|((with_reducible refine nU 10 rfl ?_);refine rZ k59 rfl 59 ([]:List (S59)) [] (oF.none _ _) ?_;intro dC w7 a9 hb hg_ pE;clear hg_ pE;(first|rw[←bj.out]at a9|(simp only [Int.reduceToNat]at a9;rw[←bj.out]at a9));have aT:=dm (oJ a9 (ou (ny HB.out)));replace ae:=nA ae hb;replace af:=nA af hb;replace HB:=nI HB hb;clear hb a9;obtain⟨bX,bY,cD⟩:=nY aT.out;subst cD)|((with_reducible refine nU 5 rfl ?_);refine oI #[.int .i64 0,.slice none 0 0] 31 ?_;intro ak hg bZ nu hb;have n0:=oh aT hb;have n1:=nA ae hb;have n2:=nA af hb;have n3:=nI HB hb;have n4:=dm (nu);have n5:=dm (nO:w.heap.size<=ak);have n6:=dm (nO:w.heap.size<=ak);have n7:=dm (Ib:ao≠ak);have n8:=dm (Ic:ak≠ao);have n9:=dm (EN:al≠ak);have a_:=dm (EM:ak≠al);clear aT ae af HB;revert n0 n1 n2 n3 n4 n5 n6 n7 n8 n9 a_;intro aT ae af HB ag cO cP aq aC au aD;clear hb nu hg;have cQ:=aC.out;have cS:=aq.out;have cT:=aD.out;have cU:=au.out;have⟨bq,br,bu,bv⟩:=nJ (w:=bZ) ag;have⟨bx,bz,bA,bB⟩:=nJ (w:=bZ) ae))
 go_loopg [15] k (fun kq cE w'=>∃ (ab:Int) (ah:List (S59)) (am:Value),cE=.int .i64 ab/\lm (uF.l0 kq l1 aa (aa.length:Int) ab ai ah=some (r1,r2))/\lm (kq<=k)/\lm (Kd.R k59 59 w' w.heap.size (fun _=>True) am ah)/\lm (w'.heap[ao]? =some (.cells #[.int .i64 ai,(.slice aV aa.length ay)] 31 (0,0)))/\lm (w'.heap[al]? =some (.cells #[.int .i64 0,(.slice none 0 0)] 31 (0,0)))/\lm (w'.heap[ak]? =some (.cells #[.int .i64 ai,am] 31 (0,0)))/\lm (Below w.heap.size w w'))
 case atStart=>exact⟨(0),(a6),(.slice bX a6.length bY),(by first|rfl|(simp;done)|(simp[*];done)),H',⟨Nat.le_refl _⟩,⟨by(with_reducible repeat(first|apply ol|apply om|apply nP));exact nK (nR (p:=⟨ak,1,none⟩) (nR (p:=⟨ak,0,none⟩) (oO aT.out ag.out (by decide)) (fun _ hk=>hk.2) (.int .i64 ai)) (fun _ hk=>hk.2) (.slice bX a6.length bY)) (fun _ hk=>trivial)⟩,⟨pg ae.out⟩,⟨pg af.out⟩,⟨pg ag.out⟩,⟨ny HB.out⟩⟩
 case round=>
  clear H';(try clear bq br bx bz bD bE bu bv bA bB bF bG);obtain⟨ab,ah,am,rfl,HA,bk,ac,ae,af,ag,HB⟩:=hrel;cases gk with
  |zero=>exact absurd HA.out (by simp[uF.l0])
  |succ k1=>
   have H:=HA.out;clear HA;simp only [uF.l0]at H
   replace H:=pU H;rcases H with⟨bO,H⟩|⟨bO,H⟩
   ·skip
    obtain⟨cW,H⟩:=oC H
    obtain⟨cX,H⟩:=oC H;obtain⟨a5,b3,H⟩:=ow H;(try dsimp only at H)
    rcases pW H with⟨h_,H_⟩|⟨h_,H_⟩<;> (subst h_;clear H;have H:=H_;clear H_)
    ·have H':=dm H;clear H;have aK:0<=(ab:Int):=nC;have aM:ab<(aa.length:Int):=nC;obtain⟨aN,ba,az,aA⟩:=qA bh.out ab aK aM;cases ba;replace az:=nG HB az;replace aA:=nG HB aA;replace aK:=eq_true aK;replace aM:=eq_true aM
     go_wp2_with (first|((with_reducible refine nU 7 rfl ?_);refine oI #[.int .i64 0,.int .i64 0] 59 ?_;intro aj hg cF nu hb;have n0:=dm (sW (yB (nH ac.out) aj (Nat.le_of_eq hg.symm)) hb);have n1:=nA ae hb;have n2:=nA af hb;have n3:=nA ag hb;have n4:=nI HB hb;have n5:=dm (nu);have n6:=dm (nO:w.heap.size<=aj);have n7:=dm (nO:w.heap.size<=aj);have n8:=dm (H9:ao≠aj);have n9:=dm (Ia:aj≠ao);have a_:=dm (EN:al≠aj);have bH:=dm (EM:aj≠al);have bI:=dm ((by rw[hg];exact Nat.ne_of_lt (oU (g:=ak) (o:=.cells #[.int .i64 ai,am] 31 (0,0)) (nE ag.out)):ak≠aj));have bJ:=dm ((by rw[hg];exact Nat.ne_of_gt (oU (g:=ak) (o:=.cells #[.int .i64 ai,am] 31 (0,0)) (nE ag.out)):aj≠ak));clear ac ae af ag HB;revert n0 n1 n2 n3 n4 n5 n6 n7 n8 n9 a_ bH bI bJ;intro ac ae af ag HB ap bP bQ av aE aw aG ax aH;clear hb nu hg;have cY:=aE.out;have cZ:=av.out;have c_:=aG.out;have db:=aw.out;have dc:=aH.out;have dd:=ax.out;have⟨b7,b8,b9,b_⟩:=nJ (w:=cF) ap)|((with_reducible refine og 81 rfl ?_);refine rH 21 rfl Try.func81 (v_.calls (oG bV.out (ny HB.out)) bW.out b3.out) ?_;intro dE hb;replace ac:=dm (sW (H8) hb);replace ae:=dm (rF (g:=ao) (o:=.cells #[.int .i64 ai,.slice (some aN) aa.length ay] 31 (0,0)) (zV) hb);replace af:=dm (rF (g:=al) (o:=.cells #[.int .i64 0,.slice none 0 0] 31 (0,0)) (vX) hb);replace ag:=dm (rF (g:=ak) (o:=.cells #[.int .i64 ai,am] 31 (0,0)) (CG) hb);replace ap:=dm (rF (g:=aj) (o:=.cells #[.int .i64 ((nk aa ab).f0),.int .i64 ((nk aa ab).f1)] 59 (0,0)) (H7) hb);replace HB:=nI HB hb;(try clear hb)))
     go_roundg k1
     case measure=>have:=bk.out;omega
     case rel=>exact⟨(wrap64 (ab+1)),(ah),(am),(by first|rfl|(simp;done)|(simp[*];done)),H',⟨by have:=bk.out;omega⟩,⟨by(with_reducible repeat(first|apply ol|apply om|apply nP));exact nK ac.out (fun _ hk=>trivial)⟩,⟨nE ae.out⟩,⟨nE af.out⟩,⟨nE ag.out⟩,⟨ny HB.out⟩⟩
    skip
    obtain⟨bo,H⟩:=qh H;have bR:=dm bo;clear bo;obtain⟨a7,aU⟩:∃y_:List (S59),y_=(ah++[(⟨(nk aa ab).f0,(nk aa ab).f1⟩:S59)]):=⟨_,rfl⟩;replace H:(uF.l0 k1 l1 aa (aa.length:Int) (wrap64 (ab+1)) ai a7)=some (r1,r2):=pG aU H
    have bS:=dm aU;clear aU;have H':=dm H;clear H;have aK:0<=(ab:Int):=nC;have aM:ab<(aa.length:Int):=nC;obtain⟨aN,ba,az,aA⟩:=qA bh.out ab aK aM;cases ba;replace az:=nG HB az;replace aA:=nG HB aA;replace aK:=eq_true aK;replace aM:=eq_true aM
    go_wp2_with (first|((with_reducible refine nU 7 rfl ?_);refine oI #[.int .i64 0,.int .i64 0] 59 ?_;intro aj hg cG nu hb;have n0:=dm (sW (yB (nH ac.out) aj (Nat.le_of_eq hg.symm)) hb);have n1:=nA ae hb;have n2:=nA af hb;have n3:=nA ag hb;have n4:=nI HB hb;have n5:=dm (nu);have n6:=dm (nO:w.heap.size<=aj);have n7:=dm (nO:w.heap.size<=aj);have n8:=dm (H9:ao≠aj);have n9:=dm (Ia:aj≠ao);have a_:=dm (EN:al≠aj);have bH:=dm (EM:aj≠al);have bI:=dm ((by rw[hg];exact Nat.ne_of_lt (oU (g:=ak) (o:=.cells #[.int .i64 ai,am] 31 (0,0)) (nE ag.out)):ak≠aj));have bJ:=dm ((by rw[hg];exact Nat.ne_of_gt (oU (g:=ak) (o:=.cells #[.int .i64 ai,am] 31 (0,0)) (nE ag.out)):aj≠ak));clear ac ae af ag HB;revert n0 n1 n2 n3 n4 n5 n6 n7 n8 n9 a_ bH bI bJ;intro ac ae af ag HB ap bP bQ av aE aw aG ax aH;clear hb nu hg;have de:=aE.out;have df:=av.out;have dg:=aG.out;have dh:=aw.out;have di:=aH.out;have dj:=ax.out;have⟨ca,cd,ce,cf⟩:=nJ (w:=cG) ap)|((with_reducible refine og 81 rfl ?_);refine rH 21 rfl Try.func81 (v_.calls (oG bV.out (ny HB.out)) bW.out b3.out) ?_;intro b4 hb;replace ac:=dm (sW (H8) hb);replace ae:=dm (rF (g:=ao) (o:=.cells #[.int .i64 ai,.slice (some aN) aa.length ay] 31 (0,0)) (zV) hb);replace af:=dm (rF (g:=al) (o:=.cells #[.int .i64 0,.slice none 0 0] 31 (0,0)) (vX) hb);replace ag:=dm (rF (g:=ak) (o:=.cells #[.int .i64 ai,am] 31 (0,0)) (CG) hb);replace ap:=dm (rF (g:=aj) (o:=.cells #[.int .i64 ((nk aa ab).f0),.int .i64 ((nk aa ab).f1)] 59 (0,0)) (H7) hb);replace HB:=nI HB hb;(try clear hb);have dk:=aC.out;have dl:=aq.out;have dn:=aD.out;have dq:=au.out;have⟨cg,ch,ci,cj⟩:=nJ (w:=b4) ag;have⟨ck,cl,cm,cn⟩:=nJ (w:=b4) ap)|((with_reducible refine rR (b:=.append) (xs:= #[.tmp 24,.tmp 26]) rfl ?_);at_builtin;refine sU k59 (w0:=w) w.heap.size rfl (.tmp 24) (.tmp 26) 29 59 (.agg #[(.int .i64 0),(.int .i64 0)]) 16 rfl Try.underlying29 uS rfl (by decide) (by omega) am ah (⟨(nk aa ab).f0,(nk aa ab).f1⟩:S59) [.int .i64 ((nk aa ab).f0),.int .i64 ((nk aa ab).f1)] (fun k_=>k_≠aj) (fun _=>False) rfl rfl ?aP (fun _ hk=>hk.elim) ?aF ?aO ?aB ?aS ?aL ?_;(case aP=>exact uH _ _ _ (⟨(nk aa ab).f0,(nk aa ab).f1⟩:S59));(case aB=>exact(ny HB.out));(case aF=>exact(fun k_ hk=>rG (g:=aj) (o:=.cells #[.int .i64 ((nk aa ab).f0),.int .i64 ((nk aa ab).f1)] 59 (0,0)) (nE ap.out) k_ hk));(case aO=>exact(by(with_reducible repeat(first|apply ol|apply om|apply nP));exact nK ac.out (fun _ hk=>hk.2)));(case aS=>exact(ou (ny HB.out)));(case aL=>have:=bR.out;omega);intro dD cH ho hb hg hat;rw[←bS.out]at ho;have n0:=pF ae hg (pM ac.out ae.out (by decide));have n1:=pF af hg (pM ac.out af.out (by decide));have n2:=pF ag hg (pM ac.out ag.out (by decide));have n3:=pF ap hg (xM ac.out (fun _ hk=>hk.2));have n4:=dm (hb);have n5:=dm (ho);clear ae af ag ap HB ac;revert n0 n1 n2 n3 n4 n5;intro ae af ag ap HB bp;clear ho hb hg hat;obtain⟨bK,bL,b5⟩:=nY bp.out;subst b5;have⟨co,cp,cq,cr⟩:=nJ (w:=cH) ag))
    go_roundg k1
    case measure=>have:=bk.out;omega
    case rel=>exact⟨(wrap64 (ab+1)),(a7),(.slice bK a7.length bL),(by first|rfl|(simp;done)|(simp[*];done)),H',⟨by have:=bk.out;omega⟩,⟨by(with_reducible repeat(first|apply ol|apply om|apply nP));exact nK (nR (p:=⟨ak,1,none⟩) (oO bp.out ag.out (by decide)) (fun _ hk=>hk.2) (.slice bK a7.length bL)) (fun _ hk=>trivial)⟩,⟨pg ae.out⟩,⟨pg af.out⟩,⟨pg ag.out⟩,⟨ny HB.out⟩⟩
   simp only [Option.some.injEq,Prod.mk.injEq]at H;obtain⟨rfl,rfl⟩:=H;have dr:=aC.out;have dt:=aq.out;have du:=aD.out;have dv:=au.out;have⟨ct,cu,cv,cw⟩:=nJ (w:=wr) ag;have dw:=aY.out;have dx:=aX.out;have⟨cx,cy,cz,cA⟩:=nJ (w:=wr) af;obtain⟨bM,bN,b6⟩:=nY ac.out;subst b6
   go_wp2;refine bodyPost_ret (results_cell_row rfl _ _ al 31 #[.int .i64 ai,.slice bM ah.length bN] (0,0) _ rfl (pg af.out) Try.underlying31 rfl (by kernel_rfl)) rfl ?_;exact⟨_,qC,by(with_reducible repeat(first|apply ol|apply om|apply nP));exact nK (nR (p:=⟨al,1,none⟩) (nR (p:=⟨al,0,none⟩) (oO ac.out af.out (by decide)) (fun _ hk=>hk.2) (.int .i64 ai)) (fun _ hk=>hk.2) (.slice bM ah.length bN)) (fun _ hk=>trivial),ny HB.out⟩
end Go.Proofs.Ytgeonpciodepgaa.P
namespace Go.Proofs.Ytgeonpciodepgaa.G
open Go.RowKit Go.Proofs.YtgeonpciodepgaaW.PrintWords
abbrev big:Int:=4611686018427387904
theorem w64 {x:Int}(h0: -9223372036854775808<=x) (h1:x<=9223372036854775807):wrap64 x=x:=by
 unfold wrap64
 omega
theorem qi {α:Type}(pre:List α) (t:α) (suf:List α):(pre.length:Int)<((pre++t::suf).length:Int):=by
 simp;omega
theorem sP {α:Type}(pre:List α):¬ (pre.length:Int)<((pre++[]).length:Int):=by
 simp
theorem nn (n:Nat):0<=(n:Int):=Int.natCast_nonneg n
theorem qw {α:Type}(pre:List α) (t:α) (suf:List α):pre++t::suf=(pre++[t])++suf:=by simp
theorem qU {α:Type}{pre:List α}{t:α}(h:(pre.length:Int)<big):wrap64 ((pre.length:Int)+1)=((pre++[t]).length:Int):=by
 rw[w64 (by omega) (by unfold big at h;omega)];simp
theorem zA {α:Type}(pre:List α) (t:α) (suf:List α) (d:α):(pre++t::suf).getD ((pre.length:Int)).toNat d=t:=by
 simp[List.getD]
theorem rY (pre:List Int) (t:Int) (suf:List Int):rd (pre++t::suf) (pre.length:Int)=t:=by
 unfold rd;exact zA pre t suf 0
theorem JE {α:Type}(d:α) (pre:List α) (t:α) (suf:List α):qp d (pre++t::suf) (pre.length:Int)=t:=by
 unfold qp;exact zA pre t suf d
theorem sV {α:Type}{pre:List α}{t:α}{suf:List α}(h:((pre++t::suf).length:Int)<big):(pre.length:Int)<big:=by
 simp at h;unfold big at*;omega
theorem wG {α:Type}{pre:List α}{t:α}{suf:List α}(h:((pre++t::suf).length:Int)<big):(((pre++[t])++suf).length:Int)<big:=by
 rw[←qw];exact h
theorem Ev.const {α β:Type}{a:Option α}{f:Nat->α->Option β}{x:α}{r:β}(h:a=some x) (k:Ev (fun n=>f n x) r):Ev (fun n=>a.bind (f n)) r:=by
 subst h;exact k
theorem Ev.val {α:Type}{a:Option α}{r:α}(h:a=some r):Ev (fun _=>a) r:=⟨0,fun _ _=>h⟩
theorem Ev.eq {α:Type}{g:Nat->Option α}{r s:α}(h:Ev g r) (e:r=s):Ev g s:=e▸h
def tlt (s t:Tie):Prop:=s.f0<t.f0\/s.f0=t.f0/\s.f1<t.f1
instance(s t:Tie):Decidable (tlt s t):=by unfold tlt;infer_instance
def inr (n:Int) (t:Tie):Prop:=0<=t.f0/\t.f0<t.f1/\t.f1<n
instance(n:Int) (t:Tie):Decidable (inr n t):=by unfold inr;infer_instance
def asc:List Tie->Prop
 |[]=>True
 |[_]=>True
 |a::b::r=>tlt a b/\asc (b::r)
instance Lr:(l:List Tie)->Decidable (asc l)
 |[]=>isTrue trivial
 |[_]=>isTrue trivial
 |a::b::r=>by
  have:=Lr (b::r)
  unfold asc
  infer_instance
def ok (n:Int) (E:List Tie):Prop:=0<=n/\n<=8/\(∀t∈E,inr n t)/\asc E
instance(n:Int) (E:List Tie):Decidable (ok n E):=by unfold ok;infer_instance
theorem PI {a b c:Tie}(h:tlt a b) (k:tlt b c):tlt a c:=by
 unfold tlt at*;omega
theorem PH (a:Tie):¬tlt a a:=by unfold tlt;omega
theorem GI {a:Tie}{l:List Tie}:asc (a::l)↔(∀t∈l,tlt a t)/\asc l:=by
 induction l generalizing a with
 |nil=>simp[asc]
 |cons b r ih=>
  constructor
  ·intro h
   obtain⟨h1,h2⟩:=h
   refine⟨fun t ht=>?_,h2⟩
   rcases List.mem_cons.1 ht with rfl|ht
   ·exact h1
   exact PI h1 ((ih.1 h2).1 t ht)
  rintro⟨h1,h2⟩
  exact⟨h1 b (List.mem_cons_self),h2⟩
theorem GJ {l:List Tie}:asc l↔l.Pairwise tlt:=by
 induction l with
 |nil=>simp[asc]
 |cons a l ih=>rw[GI,List.pairwise_cons,ih]
theorem Lu {l:List Tie}(h:asc l):l.Nodup:=by
 rw[GJ]at h
 exact h.imp (fun{a b} hab e=>by subst e;exact PH a hab)
theorem GK {l m:List Tie}(h:asc m) (s:l.Sublist m):asc l:=by
 rw[GJ]at*;exact h.sublist s
theorem Ls {l:List Tie}(p:Tie->Bool) (h:asc l):asc (l.filter p):=GK h List.filter_sublist
theorem Jt {n:Int}{E:List Tie}(p:Tie->Bool) (h:ok n E):ok n (E.filter p):=
 ⟨h.1,h.2.1,fun t ht=>h.2.2.1 t (List.mem_filter.1 ht).1,Ls p h.2.2.2⟩
theorem Ju {n:Int}{E F:List Tie}(h:ok n E) (s:F.Sublist E):ok n F:=
 ⟨h.1,h.2.1,fun t ht=>h.2.2.1 t (s.subset ht),GK h.2.2.2 s⟩
theorem Lt {l:List Tie}(lo:Int) (hl:∀t∈l,0<=t.f0/\t.f0<8/\0<=t.f1/\t.f1<8) (h:asc l) (hlo:∀t∈l,lo<=t.f0*8+t.f1) (h64:lo<=64):(l.length:Int)<=64 - lo:=by
 induction l generalizing lo with
 |nil=>simp;omega
 |cons a r ih=>
  obtain⟨h1,h2⟩:=GI.1 h
  have ha:=hlo a (List.mem_cons_self)
  have hb:=hl a (List.mem_cons_self)
  have:=ih (a.f0*8+a.f1+1) (fun t ht=>hl t (List.mem_cons_of_mem _ ht)) h2 (fun t ht=>by
   have:=h1 t ht
   have hc:=hl t (List.mem_cons_of_mem _ ht)
   unfold tlt at this;omega) (by omega)
  simp only [List.length_cons]
  omega
theorem uA {n:Int}{E:List Tie}(h:ok n E):(E.length:Int)<=64:=by
 have:=Lt (l:=E) 0 (fun t ht=>by have:=h.2.2.1 t ht;have:=h.2.1;unfold inr at*;omega) h.2.2.2 (fun t ht=>by have:=h.2.2.1 t ht;unfold inr at this;omega) (by omega)
 omega
end Go.Proofs.Ytgeonpciodepgaa.G
namespace Go.Proofs.Ytgeonpciodepgaa.P
open Go.RowKit Go.Proofs.YtgeonpciodepgaaW.PrintWords Go.Proofs.Ytgeonpciodepgaa.G Go.Proofs.YtgeonpciodepgaaW.PrintWords.Kd
theorem Bv (pre:List S59) (t:S59) (suf:List S59):nk (pre++t::suf) (pre.length:Int)=t:=by
  unfold nk;exact zA pre t suf _
theorem Dc (a b c:Int):uK.f a b c=some (decide (b<=a/\a<=c)):=by
  unfold uK.f
  by_cases h:b<=a<;>simp[h]
theorem Fs (a b c d:Int):xu.f a b c d=some (decide (tlt ⟨a,b⟩ ⟨c,d⟩)):=by
  unfold xu.f tlt
  by_cases h:a<c
  · simp[h]
  by_cases h2:a=c<;>simp[h,h2]
theorem vE {α:Type}(p:List α) (q:α) (h:((p++[q]).length:Int)<big):wrap64 (((p++[q]).length:Int) - 1)=(p.length:Int):=by
  rw[w64 (by rw[List.length_append];omega) (by unfold big at h;omega)];simp
theorem zF {α:Type}(p:List α) (q:α) (suf:List α):p++[q]++suf=p++q::suf:=by simp
theorem Dj {α:Type}(p:List α) (q:α) (suf:List α):(p.length:Int)<((p++[q]++suf).length:Int):=by simp;omega
theorem Pk (n:Int) (h0:0<=n) (h8:n<=8):∀ (suf p:List S59) (q:S59),(((p++[q])++suf).length:Int)<big->
    Ev (fun k=>qa.l0 k ((p++[q]).length:Int) n ((p++[q])++suf)) (decide ((∀t∈suf,inr n t)/\asc (q::suf))):=by
  intro suf
  induction suf with
  |nil=>
    intro p q hb
    refine Ev.step (fun k=>by simp only [qa.l0,sP,if_false]<;>exact rfl) ?_
    exact Ev.val (congrArg some (decide_eq_true (by simp[asc])).symm)
  |cons t suf ih=>
    intro p q hb
    have hp:((p++[q]).length:Int)<big:=sV hb
    have e1:((p++[q]).length:Int)>0:=by rw[List.length_append,List.length_singleton];omega
    refine Ev.step (fun k=>by simp only [qa.l0,qi,nn,if_true,Bv,Dc,Fs,Option.bind_some,e1,vE p q hp,Dj,qU (t:=t) hp]<;>exact rfl) ?_
    have e2:nk (p++[q]++t::suf) (p.length:Int)=q:=by rw[zF];exact Bv p q _
    simp only [e2,decide_eq_true_eq]
    rw[w64 (by omega) (by omega)]
    by_cases c1:0<=t.f0/\t.f0<=n - 1
    · simp only [if_pos c1]
      rw[w64 (by omega) (by omega)]
      by_cases c2:t.f0+1<=t.f1/\t.f1<=n - 1
      · simp only [if_pos c2]
        have ht:inr n t:=by unfold inr;omega
        by_cases c3:tlt q t
        · simp only [if_pos c3]
          rw[qw (p++[q]) t suf]
          refine Ev.eq (ih (p++[q]) t (wG hb)) ?_
          rw[decide_eq_decide]
          simp[asc,ht,c3]
        simp only [if_neg c3]
        exact Ev.val (by simp[asc,c3])
      simp only [if_neg c2]
      refine Ev.val ?_
      have:¬inr n t:=by unfold inr;omega
      simp[this]
    simp only [if_neg c1]
    refine Ev.val ?_
    have:¬inr n t:=by unfold inr;omega
    simp[this]
theorem yT (n:Int) (E:List S59) (hb:(E.length:Int)<big):Ev (fun k=>qa.f k n E) (decide (ok n E)):=by
  unfold qa.f
  simp only [Dc,Option.bind_some,decide_eq_true_eq]
  by_cases c1:0<=n/\n<=8;rotate_left
  · simp only [if_neg c1]
    refine Ev.step (fun k=>by simp only [qa.j0,if_true]<;>exact rfl) ?_
    refine Ev.val ?_
    have:¬ok n E:=fun h=>c1 ⟨h.1,h.2.1⟩
    simp[this]
  simp only [if_pos c1]
  by_cases c2:(E.length:Int)>64
  · refine Ev.step (fun k=>by simp only [qa.j0,c2,decide_true,if_true]<;>exact rfl) ?_
    exact Ev.val (by rw[decide_eq_false (fun h=>by have:=uA h;omega)])
  refine Ev.step (fun k=>by simp only [qa.j0,c2,decide_false,Bool.false_eq_true,if_false]<;>exact rfl) ?_
  cases E with
  |nil=>
    refine Ev.step (fun k=>by simp[qa.l0]<;>exact rfl) ?_
    exact Ev.val (by simp[ok,asc,c1])
  |cons t suf=>
    have l1:(0:Int)<((t::suf).length:Int):=by rw[List.length_cons];omega
    have r1:nk (t::suf) 0=t:=rfl
    have h0:(0:Int)<=0:=Int.le_refl 0
    have w1:wrap64 (0+1)=1:=w64 (by omega) (by omega)
    have g1:¬ (0:Int)>0:=by omega
    refine Ev.step (fun k=>by simp only [qa.l0,l1,h0,if_true,r1,Dc,Option.bind_some,w1,g1,if_false,decide_eq_true_eq]<;>exact rfl) ?_
    rw[w64 (by omega) (by omega)]
    by_cases d1:0<=t.f0/\t.f0<=n - 1
    · simp only [if_pos d1]
      rw[w64 (by omega) (by omega)]
      by_cases d2:t.f0+1<=t.f1/\t.f1<=n - 1
      · simp only [if_pos d2]
        have ht:inr n t:=by unfold inr;omega
        refine Ev.eq (Pk n c1.1 c1.2 suf [] t hb) ?_
        rw[decide_eq_decide]
        simp[ok,c1,ht]
      simp only [if_neg d2]
      refine Ev.val ?_
      have:¬inr n t:=by unfold inr;omega
      simp[this,ok]
    simp only [if_neg d1]
    refine Ev.val ?_
    have:¬inr n t:=by unfold inr;omega
    simp[this,ok]
def uu (x y:Int):Int:=if x<y then -1 else if y<x then 1 else 0
theorem cmp_eq (a b:Int):cmp_Compare_int.f a b=some (uu a b):=by
  unfold cmp_Compare_int.f uu
  simp only [cmp_isNaN_int.f,bne_self_eq_false,Option.bind_some,Bool.false_eq_true,if_false]
  repeat' split
  all_goals first|rfl|omega
def ord (a b c d:Int):Int:=if uu a c=0 then uu b d else uu a c
theorem Oc (a b c d:Int):ord a b c d>=0↔¬tlt ⟨a,b⟩ ⟨c,d⟩:=by
  unfold ord uu tlt
  simp only
  repeat' split
  all_goals omega
theorem Jv (x y:Int):Ev (fun k=>sN.f k [x,y]) (if x=0 then y else x):=by
  unfold sN.f
  have l:(([x,y]:List Int).length:Int)=2:=rfl
  have r0:rd [x,y] 0=x:=rfl
  have r1:rd [x,y] 1=y:=rfl
  have h0:(0:Int)<=0:=Int.le_refl 0
  have a1:(0:Int)<=1:=by omega
  have a2:(0:Int)<2:=by omega
  have a3:(1:Int)<2:=by omega
  have a4:¬ (2:Int)<2:=by omega
  have w1:wrap64 (0+1)=1:=w64 (by omega) (by omega)
  have w2:wrap64 (1+1)=2:=w64 (by omega) (by omega)
  refine Ev.step (fun k=>by simp only [sN.l0,l,r0,h0,a2,if_true,w1]<;>exact rfl) ?_
  by_cases c:x=0
  · simp only [if_pos c]
    refine Ev.step (fun k=>by simp only [sN.l0,l,r1,a1,a3,if_true,w2]<;>exact rfl) ?_
    by_cases d:y=0
    · simp only [if_pos d]
      refine Ev.step (fun k=>by simp only [sN.l0,a4,if_false]<;>exact rfl) ?_
      exact Ev.val (by rw[d])
    simp only [if_neg d]
    exact Ev.val rfl
  simp only [if_neg c]
  exact Ev.val rfl
theorem Od (a b c d:Int):Ev (fun k=>t_.f k a b c d) (ord a b c d):=by
  unfold t_.f
  simp only [cmp_eq,Option.bind_some]
  exact Ev.bind (Jv _ _) (Ev.val rfl)
theorem Lx:∀ (suf p:List S59) (q:S59),(((p++[q])++suf).length:Int)<big->
    Ev (fun k=>ry.l0 k ((p++[q])++suf) ((p++[q]).length:Int)) (decide (asc (q::suf))):=by
  intro suf
  induction suf with
  |nil=>
    intro p q hb
    refine Ev.step (fun k=>by simp only [ry.l0,sP,if_false]<;>exact rfl) ?_
    exact Ev.val (congrArg some (decide_eq_true (by simp[asc])).symm)
  |cons t suf ih=>
    intro p q hb
    have hp:((p++[q]).length:Int)<big:=sV hb
    have e2:nk (p++[q]++t::suf) (p.length:Int)=q:=by rw[zF];exact Bv p q _
    refine Ev.step (fun k=>by simp only [ry.l0,qi,nn,if_true,Bv,vE p q hp,Dj,qU (t:=t) hp,e2]<;>exact rfl) ?_
    refine Ev.bind (Od _ _ _ _) ?_
    simp only [Oc]
    by_cases c3:tlt q t
    · simp only [c3,not_true_eq_false,if_false]
      rw[qw (p++[q]) t suf]
      refine Ev.eq (ih (p++[q]) t (wG hb)) ?_
      rw[decide_eq_decide]
      simp[asc,c3]
    simp only [c3,not_false_eq_true,if_true]
    exact Ev.val (by simp[asc,c3])
theorem Lv (E:List S59) (hb:(E.length:Int)<big):Ev (fun k=>ry.f k E) (decide (asc E)):=by
  unfold ry.f
  cases E with
  |nil=>
    refine Ev.step (fun k=>by simp[ry.l0]<;>exact rfl) ?_
    exact Ev.val (congrArg some (decide_eq_true (by simp[asc])).symm)
  |cons t suf=>exact Lx suf [] t hb
theorem M7 (n:Int) (E:List S59) (hE:(E.length:Int)<big):∀ (suf p:List S59),((p++suf).length:Int)<big->
    Ev (fun k=>qL.l0 k (p++suf) ((p++suf).length:Int) (p.length:Int) n E) (decide ((∀t∈suf,inr n t)/\asc E)):=by
  intro suf
  induction suf with
  |nil=>
    intro p hb
    refine Ev.step (fun k=>by simp only [qL.l0,sP,if_false]<;>exact rfl) ?_
    refine Ev.bind (Lv E hE) ?_
    exact Ev.val (by simp)
  |cons t suf ih=>
    intro p hb
    have hp:(p.length:Int)<big:=sV hb
    refine Ev.step (fun k=>by simp only [qL.l0,qi,nn,if_true,Bv,qU (t:=t) hp]<;>exact rfl) ?_
    by_cases c1:t.f0<0
    · simp only [if_pos c1]
      exact Ev.val (by have:¬inr n t:=by unfold inr;omega
                       simp[this])
    simp only [if_neg c1]
    by_cases c2:t.f0>=t.f1
    · simp only [if_pos c2]
      exact Ev.val (by have:¬inr n t:=by unfold inr;omega
                       simp[this])
    simp only [if_neg c2]
    by_cases c3:t.f1>=n
    · simp only [if_pos c3]
      exact Ev.val (by have:¬inr n t:=by unfold inr;omega
                       simp[this])
    simp only [if_neg c3]
    rw[qw p t suf]
    refine Ev.eq (ih (p++[t]) (wG hb)) ?_
    have:inr n t:=by unfold inr;omega
    rw[decide_eq_decide]
    simp[this]
theorem Db (n:Int) (E:List S59) (hb:(E.length:Int)<big):Ev (fun k=>qL.f k n E) (decide (ok n E)):=by
  unfold qL.f
  by_cases c1:n<0
  · simp only [if_pos c1]
    refine Ev.step (fun k=>by simp only [qL.j0,if_true]<;>exact rfl) ?_
    exact Ev.val (by have:¬ok n E:=fun h=>by have:=h.1;omega
                     simp[this])
  simp only [if_neg c1]
  by_cases c2:n>8
  · refine Ev.step (fun k=>by simp only [qL.j0,c2,decide_true,if_true]<;>exact rfl) ?_
    exact Ev.val (by have:¬ok n E:=fun h=>by have:=h.2.1;omega
                     simp[this])
  refine Ev.step (fun k=>by simp only [qL.j0,c2,decide_false,Bool.false_eq_true,if_false]<;>exact rfl) ?_
  refine Ev.eq (M7 n E hb E [] hb) ?_
  rw[decide_eq_decide]
  unfold ok
  constructor
  · exact fun h=>⟨by omega,by omega,h.1,h.2⟩
  exact fun h=>⟨h.2.2.1,h.2.2.2⟩
end Go.Proofs.Ytgeonpciodepgaa.P
namespace Go.Proofs.Ytgeonpciodepgaa.G
def oD (a b:Int):Tie:=if a<b then⟨a,b⟩ else⟨b,a⟩
theorem yt (a b:Int):oD a b=oD b a:=by
 unfold oD
 rcases Int.lt_trichotomy a b with h|h|h
 ·rw[if_pos h,if_neg (by omega)]
 ·subst h;rfl
 rw[if_neg (by omega),if_pos h]
theorem Px {n:Int}{t:Tie}(h:inr n t):oD t.f0 t.f1=t:=by
 unfold oD;rw[if_pos h.2.1]
theorem Py {a b:Int}(h:a<b):oD a b=⟨a,b⟩:=by unfold oD;rw[if_pos h]
end Go.Proofs.Ytgeonpciodepgaa.G
namespace Go.Proofs.Ytgeonpciodepgaa.P
open Go.RowKit Go.Proofs.YtgeonpciodepgaaW.PrintWords Go.Proofs.Ytgeonpciodepgaa.G Go.Proofs.YtgeonpciodepgaaW.PrintWords.Kd
theorem Ak (pre:List S59) (t:S59) (suf:List S59):nk (pre++t::suf) (pre.length:Int)=t:=by
 unfold nk;exact zA pre t suf _
theorem zD (a b:Int):tX.f a b=some ((oD a b).f0,(oD a b).f1):=by
 unfold tX.f oD
 by_cases h:a<b<;>simp[h]
theorem J5 (s t:Tie):(s.f0==t.f0&&(s.f1==t.f1))=decide (s=t):=by
 obtain⟨a,b⟩:=s
 obtain⟨c,d⟩:=t
 simp only [Tie.mk.injEq]
 by_cases h:a=c<;>by_cases k:b=d<;>simp[h,k]
theorem Np (n a b:Int):∀ (suf p:List S59),((p++suf).length:Int)<big->
  Ev (fun k=>sS.l0 k a b (p.length:Int) n (p++suf)) (decide (oD a b∈suf)):=by
 intro suf
 induction suf with
 |nil=>
  intro p hb
  refine Ev.step (fun k=>by simp only [sS.l0,sP,if_false]<;>exact rfl) ?_
  exact Ev.val (congrArg some (decide_eq_false (by simp)).symm)
 |cons t suf ih=>
  intro p hb
  have hp:(p.length:Int)<big:=sV hb
  refine Ev.step (fun k=>by simp only [sS.l0,qi,nn,if_true,Ak,qU (t:=t) hp,zD,Option.bind_some,J5,decide_eq_true_eq]<;>exact rfl) ?_
  by_cases c:t=oD a b
  ·simp only [if_pos c]
   exact Ev.val (congrArg some (decide_eq_true (by simp[c])).symm)
  simp only [if_neg c]
  rw[qw p t suf]
  refine Ev.eq (ih (p++[t]) (wG hb)) ?_
  rw[decide_eq_decide]
  have:¬oD a b=t:=fun e=>c e.symm
  simp[this]
theorem I8 (n a b:Int) (E:List S59) (hb:(E.length:Int)<big):Ev (fun k=>sS.f k n E a b) (decide (oD a b∈E)):=by
 unfold sS.f
 exact Np n a b E [] hb
end Go.Proofs.Ytgeonpciodepgaa.P
namespace Go.Proofs.Ytgeonpciodepgaa.G
def cut (X:List Tie) (t:Tie):List Tie:=X.filter fun s=> !decide (s=t)
theorem Fw {X:List Tie}{s t:Tie}:s∈cut X t↔s∈X/\s≠t:=by
 unfold cut
 rw[List.mem_filter]
 simp
theorem Ai {n:Int}{X:List Tie}(t:Tie) (h:ok n X):ok n (cut X t):=Jt _ h
theorem Mc {X:List Tie}{t:Tie}(h:t∉X):cut X t=X:=by
 unfold cut
 rw[List.filter_eq_self]
 intro s hs
 have:s≠t:=fun e=>h (e▸hs)
 simp[this]
theorem Ma {X:List Tie}(hX:X.Nodup) (t:Tie):(cut X t).length+(if t∈X then 1 else 0)=X.length:=by
 induction X with
 |nil=>simp[cut]
 |cons a r ih=>
  obtain⟨h1,h2⟩:=List.nodup_cons.1 hX
  have ih:=ih h2
  by_cases e:a=t
  ·subst e
   have:cut (a::r) a=cut r a:=by simp[cut]
   rw[this,Mc h1]
   simp
  have e1:cut (a::r) t=a::cut r t:=by simp[cut,e]
  rw[e1]
  have e2:(t∈a::r)=(t∈r):=by simp[Ne.symm e]
  simp only [e2,List.length_cons]
  omega
def ties:List Int->List Tie
 |a::b::r=>oD a b::ties (b::r)
 |_=>[]
def cuts:List Tie->List Tie->Prop
 |_,[]=>True
 |X,t::r=>t∈X/\cuts (cut X t) r
instance Me:(X T:List Tie)->Decidable (cuts X T)
 |_,[]=>isTrue trivial
 |X,t::r=>by
  have:=Me (cut X t) r
  unfold cuts
  infer_instance
theorem zP:∀ (r:List Int),(ties r).length=r.length - 1
 |[]=>rfl
 |[_]=>rfl
 |a::b::r=>by
  have:=zP (b::r)
  simp only [ties,List.length_cons]at*
  omega
def Ka (n:Int) (E:List Tie) (row:List Int):Prop:=ok n E/\row.length=E.length+1/\(∀v∈row,0<=v/\v<n)/\cuts E (ties row)
instance(n:Int) (E:List Tie) (row:List Int):Decidable (Ka n E row):=by unfold Ka;infer_instance
theorem vH {n a b:Int}(h:inr n (oD a b)):(0<=a/\a<n)/\(0<=b/\b<n)/\a≠b:=by
 unfold oD inr at h
 by_cases c:a<b
 ·rw[if_pos c]at h;simp only at h;omega
 rw[if_neg c]at h;simp only at h;omega
theorem J9 {n:Int}{E:List Tie}(hE:∀t∈E,inr n t):∀ (r:List Int) (a:Int),0<=a/\a<n->(∀t∈ties (a::r),t∈E)->∀v∈a::r,0<=v/\v<n
 |[],a,ha,_=>by simpa using ha
 |b::r,a,ha,h=>by
  intro v hv
  have ht:oD a b∈E:=h _ (by simp[ties])
  have hb:=(vH (hE _ ht)).2.1
  rcases List.mem_cons.1 hv with rfl|hv
  ·exact ha
  exact J9 hE r b hb (fun t ht=>h t (by simp[ties,ht])) v hv
end Go.Proofs.Ytgeonpciodepgaa.G
namespace Go.Proofs.Ytgeonpciodepgaa.G
open Go.RowKit Go.Proofs.YtgeonpciodepgaaW.PrintWords
inductive qm (E:List Tie):Int->Int->Prop
 |refl (a:Int):qm E a a
 |step {a b c:Int}:qm E a b->oD b c∈E->qm E a c
theorem qm.one {E:List Tie}{a b:Int}(h:oD a b∈E):qm E a b:=.step (.refl a) h
theorem qm.trans {E:List Tie}{a b c:Int}(h:qm E a b) (k:qm E b c):qm E a c:=by
 induction k with
 |refl=>exact h
 |step _ t ih=>exact .step ih t
theorem qm.symm {E:List Tie}{a b:Int}(h:qm E a b):qm E b a:=by
 induction h with
 |refl=>exact .refl _
 |step _ t ih=>exact(qm.one (yt _ _▸t)).trans ih
theorem qm.mono {E F:List Tie}{a b:Int}(h:qm E a b) (hs:∀t∈E,t∈F):qm F a b:=by
 induction h with
 |refl=>exact .refl _
 |step _ t ih=>exact .step ih (hs _ t)
theorem qm.closed {E:List Tie}{a b:Int}(h:qm E a b) (p:Int->Prop) (ha:p a) (hc:∀x y,p x->oD x y∈E->p y):p b:=by
 induction h with
 |refl=>exact ha
 |step _ t ih=>exact hc _ _ ih t
theorem qm.range {n:Int}{E:List Tie}(hE:∀t∈E,inr n t) {a b:Int}(h:qm E a b) (ha:0<=a/\a<n):0<=b/\b<n:=
 h.closed (fun x=>0<=x/\x<n) ha (fun _ _ _ ht=>(vH (hE _ ht)).2.1)
theorem qm.tie {E:List Tie}{t:Tie}(ht:t∈E) (h:t.f0<t.f1):qm E t.f0 t.f1:=qm.one (by rw[Py h];exact ht)
def EvP (g:Nat->Option Bool) (P:Prop):Prop:=∃b:Bool,Ev g b/\(b=true↔P)
theorem EvP.of {g:Nat->Option Bool}{P:Prop} [Decidable P] (h:Ev g (decide P)):EvP g P:=⟨_,h,by simp⟩
theorem EvP.step {g f:Nat->Option Bool}{P:Prop}(h:∀k,g (k+1)=f k) (k:EvP f P):EvP g P:=by
 obtain⟨b,h1,h2⟩:=k
 exact⟨b,Ev.step h h1,h2⟩
theorem EvP.bind {α:Type}{g:Nat->Option α}{f:Nat->α->Option Bool}{a:α}{P:Prop}(h:Ev g a) (k:EvP (fun n=>f n a) P):EvP (fun n=>(g n).bind (f n)) P:=by
 obtain⟨b,h1,h2⟩:=k
 exact⟨b,Ev.bind h h1,h2⟩
theorem EvP.test {g:Nat->Option Bool}{f:Nat->Bool->Option Bool}{P Q:Prop}(h:EvP g Q) (kt:Q->EvP (fun n=>f n true) P) (kf:¬Q->EvP (fun n=>f n false) P):EvP (fun n=>(g n).bind (f n)) P:=by
 obtain⟨b,h1,h2⟩:=h
 cases b with
 |true=>exact EvP.bind h1 (kt (h2.1 rfl))
 |false=>exact EvP.bind h1 (kf (fun q=>by have:=h2.2 q;simp at this))
theorem EvP.same {g f:Nat->Option Bool}{P:Prop}(h:EvP g P) (k:EvP f P):∃b,Ev g b/\Ev f b:=by
 obtain⟨b,h1,h2⟩:=h
 obtain⟨c,k1,k2⟩:=k
 have:b=c:=by
  rw[Bool.eq_iff_iff];exact h2.trans k2.symm
 exact⟨b,h1,this▸k1⟩
theorem xS {α:Type} [DecidableEq α]:∀ {l m:List α},l.Nodup->(∀x∈l,x∈m)->l.length<=m.length
 |[],m,_,_=>Nat.zero_le _
 |a::l,m,h,hs=>by
  obtain⟨h1,h2⟩:=List.nodup_cons.1 h
  have ha:a∈m:=hs a (List.mem_cons_self)
  have:l.length<=(m.erase a).length:=xS h2 (fun x hx=>(List.mem_erase_of_ne (fun(e:x=a)=>h1 (by rw[←e];exact hx))).2 (hs x (List.mem_cons_of_mem _ hx)))
  rw[List.length_erase_of_mem ha]at this
  have:0<m.length:=List.length_pos_of_mem ha
  simp only [List.length_cons]
  omega
theorem N9 {α:Type} [DecidableEq α] {l m:List α}(hl:l.Nodup) (hm:m.Nodup) (h:∀x,x∈l↔x∈m):l.length=m.length:=
 Nat.le_antisymm (xS hl (fun x hx=>(h x).1 hx)) (xS hm (fun x hx=>(h x).2 hx))
theorem Jr {α β:Type}(f:α->β):∀ {l:List α},l.Nodup->(∀x∈l,∀y∈l,f x=f y->x=y)->(l.map f).Nodup
 |[],_,_=>by simp
 |a::l,h,hf=>by
  obtain⟨h1,h2⟩:=List.nodup_cons.1 h
  rw[List.map_cons,List.nodup_cons]
  refine⟨fun hm=>?_,Jr f h2 (fun x hx y hy=>hf x (List.mem_cons_of_mem _ hx) y (List.mem_cons_of_mem _ hy))⟩
  obtain⟨y,hy,e⟩:=List.mem_map.1 hm
  have:=hf a (List.mem_cons_self) y (List.mem_cons_of_mem _ hy) e.symm
  exact h1 (this▸hy)
def qR (n:Int):List Int:=(List.range n.toNat).map fun(i:Nat)=>(i:Int)
theorem wL {n v:Int}:v∈qR n↔0<=v/\v<n:=by
 unfold qR
 rw[List.mem_map]
 constructor
 ·rintro⟨i,hi,rfl⟩
  have:=List.mem_range.1 hi
  omega
 rintro⟨h0,h1⟩
 exact⟨v.toNat,List.mem_range.2 (by omega),by omega⟩
theorem Nn (n:Int):(qR n).Nodup:=Jr _ List.nodup_range (fun x _ y _ e=>Int.ofNat.inj e)
theorem vZ (n:Int):(qR n).length=n.toNat:=by simp[qR]
theorem Fp {n:Int}(h:0<=n):qR (n+1)=qR n++[n]:=by
 unfold qR
 have:(n+1).toNat=n.toNat+1:=by omega
 rw[this,List.range_succ,List.map_append]
 simp
 omega
def next (n:Int) (E:List Tie) (v:Int):List Int:=(qR n).filter fun i=>decide (oD v i∈E)
theorem xI {n v i:Int}{E:List Tie}(hE:∀t∈E,inr n t):i∈next n E v↔oD v i∈E:=by
 unfold next
 rw[List.mem_filter,wL]
 simp only [decide_eq_true_eq]
 exact⟨fun h=>h.2,fun h=>⟨(vH (hE _ h)).2.1,h⟩⟩
end Go.Proofs.Ytgeonpciodepgaa.G
namespace Go.Proofs.Ytgeonpciodepgaa.G
def vK:List Int->List Int->Prop
 |[],[]=>False
 |[],_::_=>True
 |_::_,[]=>False
 |x::a,y::b=>x<y\/x=y/\vK a b
instance NA:(a b:List Int)->Decidable (vK a b)
 |[],[]=>isFalse (fun h=>h)
 |[],_::_=>isTrue trivial
 |_::_,[]=>isFalse (fun h=>h)
 |x::a,y::b=>by
  have:=NA a b
  unfold vK
  infer_instance
theorem Jb:∀a:List Int,¬vK a a
 |[],h=>h
 |x::a,h=>by
  rcases h with h|h
  ·omega
  exact Jb a h.2
theorem Jc:∀ {a b c:List Int},vK a b->vK b c->vK a c
 |[],[],_,h,_=>h.elim
 |[],_::_,[],_,k=>k.elim
 |[],_::_,_::_,_,_=>trivial
 |_::_,[],_,h,_=>h.elim
 |_::_,_::_,[],_,k=>k.elim
 |x::a,y::b,z::c,h,k=>by
  rcases h with h|⟨rfl,h⟩
  ·rcases k with k|⟨rfl,k⟩
   ·exact .inl (by omega)
   exact .inl h
  rcases k with k|⟨rfl,k⟩
  ·exact .inl k
  exact .inr ⟨rfl,Jc h k⟩
theorem Jd:∀a b:List Int,vK a b\/a=b\/vK b a
 |[],[]=> .inr (.inl rfl)
 |[],_::_=> .inl trivial
 |_::_,[]=> .inr (.inr trivial)
 |x::a,y::b=>by
  rcases Int.lt_trichotomy x y with h|h|h
  ·exact .inl (.inl h)
  ·subst h
   rcases Jd a b with h|h|h
   ·exact .inl (.inr ⟨rfl,h⟩)
   ·exact .inr (.inl (by rw[h]))
   exact .inr (.inr (.inr ⟨rfl,h⟩))
  exact .inr (.inr (.inl h))
def wlt (a b:List Int):Prop:=a.length<b.length\/a.length=b.length/\vK a b
instance(a b:List Int):Decidable (wlt a b):=by unfold wlt;infer_instance
theorem DU (a:List Int):¬wlt a a:=by
 rintro(h|h)
 ·omega
 exact Jb a h.2
theorem BH {a b c:List Int}(h:wlt a b) (k:wlt b c):wlt a c:=by
 rcases h with h|⟨h,h2⟩
 ·rcases k with k|⟨k,_⟩
  ·exact .inl (by omega)
  exact .inl (by omega)
 rcases k with k|⟨k,k2⟩
 ·exact .inl (by omega)
 exact .inr ⟨by omega,Jc h2 k2⟩
theorem BI (a b:List Int):wlt a b\/a=b\/wlt b a:=by
 rcases Nat.lt_trichotomy a.length b.length with h|h|h
 ·exact .inl (.inl h)
 ·rcases Jd a b with k|k|k
  ·exact .inl (.inr ⟨h,k⟩)
  ·exact .inr (.inl k)
  exact .inr (.inr (.inr ⟨h.symm,k⟩))
 exact .inr (.inr (.inl h))
def xJ (l:List (List Int)):List (List Int):=l.mergeSort fun a b=> !decide (wlt b a)
theorem Ap (l:List (List Int)):(xJ l).Perm l:=List.mergeSort_perm l _
theorem JR (l:List (List Int)):(xJ l).Pairwise fun a b=>¬wlt b a:=by
 have:=List.pairwise_mergeSort (le:=fun a b=> !decide (wlt b a)) (fun a b c h1 h2=>by
  simp only [Bool.not_eq_true',decide_eq_false_iff_not]at*
  intro h
  rcases BI a b with x|x|x
  ·exact h2 (BH h x)
  ·subst x;exact h2 h
  ·exact h1 x) (fun a b=>by
  rcases BI a b with x|x|x
  ·have:¬wlt b a:=fun k=>DU _ (BH x k)
   simp[this]
  ·subst x;simp[DU]
  have:¬wlt a b:=fun k=>DU _ (BH x k)
  simp[this]) l
 exact this.imp (fun{a b} h=>by simpa using h)
theorem JU:∀ {l m:List (List Int)},l.Perm m->(l.Pairwise fun a b=>¬wlt b a)->(m.Pairwise fun a b=>¬wlt b a)->l=m
 |[],m,p,_,_=>(List.nil_perm.1 p).symm
 |a::r,[],p,_,_=>absurd p.length_eq (by simp)
 |a::r,b::s,p,h,k=>by
  rw[List.pairwise_cons]at h k
  have e:a=b:=by
   rcases BI a b with x|x|x
   ·have:a∈b::s:=p.subset (by simp)
    rcases List.mem_cons.1 this with q|q
    ·exact q
    exact absurd x (k.1 a q)
   ·exact x
   have:b∈a::r:=p.symm.subset (by simp)
   rcases List.mem_cons.1 this with q|q
   ·exact q.symm
   exact absurd x (h.1 b q)
  subst e
  rw[JU (List.Perm.cons_inv p) h.2 k.2]
theorem Pf {l:List (List Int)}{p:List Int}(hp:p∈l) (hm:∀q∈l,¬wlt q p):∃r,xJ l=p::r:=by
 have h1:=JR l
 have h2:=(Ap l).mem_iff (a:=p)
 cases e:xJ l with
 |nil=>rw[e]at h2;exact absurd (h2.2 hp) (by simp)
 |cons h r=>
  rw[e]at h1 h2
  have hh:h∈l:=(Ap l).mem_iff.1 (by rw[e];simp)
  rcases BI p h with x|x|x
  ·rcases List.mem_cons.1 (h2.2 hp) with q|q
   ·rw[q];exact⟨r,rfl⟩
   exact absurd x ((List.pairwise_cons.1 h1).1 p q)
  ·rw[x];exact⟨r,rfl⟩
  exact absurd x (hm h hh)
structure uG (E:List Tie) (a b:Int) (p:List Int):Prop where
 head:p.head? =some a
 last:p.getLast? =some b
 ties:∀t∈ties p,t∈E
 nodup:p.Nodup
def uV (n:Int) (E:List Tie) (tgt:Int):Nat->List Int->Int->List (List Int)
 |0,_,_=>[]
 |d+1,pre,v=>if v=tgt then[pre++[v]] else((next n E v).filter fun k=> !decide (k∈pre++[v])).flatMap fun k=>uV n E tgt d (pre++[v]) k
theorem Jn {n tgt:Int}{E:List Tie}(hE:∀t∈E,inr n t):∀ (d:Nat) (pre:List Int) (v:Int) (p:List Int),p∈uV n E tgt d pre v->(pre++[v]).Nodup->
  ∃ext,p=pre++v::ext/\(∀t∈ties (v::ext),t∈E)/\(v::ext).getLast? =some tgt/\p.Nodup
 |0,pre,v,p,h,_=>by simp[uV]at h
 |d+1,pre,v,p,h,hn=>by
  unfold uV at h
  by_cases c:v=tgt
  ·rw[if_pos c,List.mem_singleton]at h
   exact⟨[],h,by simp[ties],by simp[c],h▸hn⟩
  rw[if_neg c,List.mem_flatMap]at h
  obtain⟨k,hk,h⟩:=h
  rw[List.mem_filter,xI hE]at hk
  have hk2:k∉pre++[v]:=by simpa using hk.2
  have hn2:((pre++[v])++[k]).Nodup:=by
   rw[List.nodup_append]
   exact⟨hn,by simp,fun a ha b hb e=>by rw[List.mem_singleton]at hb;subst hb;subst e;exact hk2 ha⟩
  obtain⟨ext,e,ht,hl,hd⟩:=Jn hE d (pre++[v]) k p h hn2
  refine⟨k::ext,by rw[e];simp,fun t ht2=>?_,?_,hd⟩
  ·simp only [ties,List.mem_cons]at ht2
   rcases ht2 with rfl|ht2
   ·exact hk.1
   exact ht t ht2
  rw[List.getLast?_cons_cons];exact hl
theorem Kh {n tgt:Int}{E:List Tie}(hE:∀t∈E,inr n t):∀ (d:Nat) (pre:List Int) (v:Int) (ext:List Int),(∀t∈ties (v::ext),t∈E)->(v::ext).getLast? =some tgt->(pre++v::ext).Nodup->ext.length<d->
  pre++v::ext∈uV n E tgt d pre v
 |0,_,_,_,_,_,_,h=>absurd h (Nat.not_lt_zero _)
 |d+1,pre,v,[],_,hl,_,_=>by
  have:v=tgt:=by simpa using hl
  unfold uV
  rw[if_pos this];simp
 |d+1,pre,v,k::ext,ht,hl,hn,hd=>by
  have c:v≠tgt:=by
   intro c
   rw[List.getLast?_cons_cons]at hl
   have h1:=List.mem_of_getLast? hl
   rw[List.nodup_append]at hn
   exact(List.nodup_cons.1 hn.2.1).1 (c▸h1)
  unfold uV
  rw[if_neg c,List.mem_flatMap]
  have e:pre++v::k::ext=(pre++[v])++k::ext:=by simp
  refine⟨k,?_,?_⟩
  ·rw[List.mem_filter,xI hE]
   refine⟨ht _ (by simp[ties]),?_⟩
   rw[e,List.nodup_append]at hn
   have:k∉pre++[v]:=fun h=>hn.2.2 k h k (by simp) rfl
   simpa using this
  rw[e]at hn⊢
  exact Kh hE d (pre++[v]) k ext (fun t h=>ht t (by simp[ties,h])) (by rw[List.getLast?_cons_cons]at hl;exact hl) hn (by simp at hd;omega)
theorem IY {α β:Type}(f:α->List β) (M:Nat):∀ (l:List α),(∀x∈l,(f x).length<=M)->(l.flatMap f).length<=l.length*M
 |[],_=>by simp
 |a::l,h=>by
  have:=IY f M l (fun x hx=>h x (List.mem_cons_of_mem _ hx))
  have:=h a (by simp)
  rw[List.flatMap_cons,List.length_append,List.length_cons,Nat.succ_mul]
  omega
theorem DR {n tgt:Int}{E:List Tie}(h8:n<=8):∀ (d:Nat) (pre:List Int) (v:Int),(uV n E tgt d pre v).length<=8^d
 |0,_,_=>by simp[uV]
 |d+1,pre,v=>by
  unfold uV
  have p1:0<8^d:=Nat.pow_pos (by omega)
  by_cases c:v=tgt
  ·rw[if_pos c,Nat.pow_succ];simp;omega
  rw[if_neg c]
  have l1:((next n E v).filter fun k=> !decide (k∈pre++[v])).length<=8:=by
   refine Nat.le_trans (List.length_filter_le _ _) ?_
   unfold next
   refine Nat.le_trans (List.length_filter_le _ _) ?_
   rw[vZ];omega
  refine Nat.le_trans (IY _ (8^d) _ (fun k _=>DR h8 d (pre++[v]) k)) ?_
  rw[Nat.pow_succ,Nat.mul_comm (8^d)]
  exact Nat.mul_le_mul_right _ l1
def xD (n:Int) (E:List Tie) (a b:Int):List (List Int):=xJ (uV n E b 9 [] a)
theorem Kg {n a b:Int}{E:List Tie}(hE:∀t∈E,inr n t) (ha:0<=a/\a<n) {p:List Int}(h:uG E a b p):∀v∈p,0<=v/\v<n:=by
 cases p with
 |nil=>simp
 |cons x r=>
  have:x=a:=by have:=h.head;simpa using this
  subst this
  exact J9 hE r x ha h.ties
theorem PP {n a b:Int}{E:List Tie}(hE:∀t∈E,inr n t) (ha:0<=a/\a<n) {p:List Int}(h:uG E a b p):(p.length:Int)<=n:=by
 have:=xS h.nodup (fun x hx=>wL.2 (Kg hE ha h x hx))
 rw[vZ]at this
 omega
theorem Fz {n a b:Int}{E:List Tie}(h8:n<=8) (hE:∀t∈E,inr n t) (ha:0<=a/\a<n) {p:List Int}:p∈uV n E b 9 [] a↔uG E a b p:=by
 constructor
 ·intro h
  obtain⟨ext,e,ht,hl,hn⟩:=Jn hE 9 [] a p h (by simp)
  rw[List.nil_append]at e
  subst e
  exact⟨rfl,hl,ht,hn⟩
 intro h
 have hl:=PP hE ha h
 cases p with
 |nil=>have:=h.head;simp at this
 |cons x r=>
  have:x=a:=by have:=h.head;simpa using this
  subst this
  exact Kh hE 9 [] x r h.ties h.last h.nodup (by simp at hl;omega)
theorem NR {n a b:Int}{E:List Tie}(h8:n<=8) (hE:∀t∈E,inr n t) (ha:0<=a/\a<n) {p:List Int}:p∈xD n E a b↔uG E a b p:=by
 unfold xD
 rw[(Ap _).mem_iff,Fz h8 hE ha]
theorem Lh {n a b:Int}{E:List Tie}(h8:n<=8) (hE:∀t∈E,inr n t) (ha:0<=a/\a<n) {p:List Int}(hp:uG E a b p) (hm:∀q,uG E a b q->¬wlt q p):∃r,xD n E a b=p::r:=
 Pf ((Fz h8 hE ha).2 hp) (fun q hq=>hm q ((Fz h8 hE ha).1 hq))
theorem Lg {n a b:Int}{E:List Tie}{p:List Int}(h:uG E a b p):qm E a b:=by
 obtain⟨h1,h2,h3,_⟩:=h
 have go:∀ (p:List Int) (a:Int),(a::p).getLast? =some b->(∀t∈ties (a::p),t∈E)->qm E a b:=by
  intro p
  induction p with
  |nil=>
   intro a h _
   have:a=b:=by simpa using h
   rw[this];exact .refl _
  |cons x p ih=>
   intro a h ht
   rw[List.getLast?_cons_cons]at h
   exact(qm.one (ht _ (by simp[ties]))).trans (ih x h (fun t q=>ht t (by simp[ties,q])))
 cases p with
 |nil=>simp at h1
 |cons x r=>
  have:x=a:=by simpa using h1
  subst this
  exact go r x h2 h3
structure Far (n:Int) (E:List Tie) (b:Int) (f:Int->Int):Prop where
 zero:f b=0
 only:∀v,0<=v->v<n->f v=0->v=b
 down:∀v,0<=v->v<n->0<f v->∃w,oD v w∈E/\f w=f v - 1
 near:∀v w,oD v w∈E->0<=f v->0<=f w/\f w<=f v+1
 lo:∀v,0<=v->v<n-> -1<=f v
def down (n:Int) (E:List Tie) (f:Int->Int):Nat->Int->List Int
 |0,v=>[v]
 |d+1,v=>v::down n E f d (((next n E v).find? fun w=>decide (f w=d)).getD 0)
theorem NZ (n v:Int) (E:List Tie):(next n E v).Pairwise (· <·):=by
 unfold next qR
 refine List.Pairwise.sublist List.filter_sublist ?_
 rw[List.pairwise_map]
 exact List.pairwise_lt_range.imp (fun{a b} h=>by omega)
theorem Far.step {n b:Int}{E:List Tie}{f:Int->Int}(F:Far n E b f) (hE:∀t∈E,inr n t) {d:Nat}{v:Int}(hv:0<=v/\v<n) (hf:f v=(d+1:Nat)):
  ∃x,(next n E v).find? (fun w=>decide (f w=d))=some x/\oD v x∈E/\f x=d/\(0<=x/\x<n)/\∀w,oD v w∈E->f w=d->x<=w:=by
 obtain⟨w,h1,h2⟩:=F.down v hv.1 hv.2 (by omega)
 have hw:w∈next n E v:=(xI hE).2 h1
 cases e:(next n E v).find? (fun w=>decide (f w=d)) with
 |none=>
  rw[List.find?_eq_none]at e
  have:=e w hw
  simp at this
  omega
 |some x=>
  have hx:=List.mem_of_find?_eq_some e
  have hx2:=List.find?_some e
  simp only [decide_eq_true_eq]at hx2
  have ht:=(xI hE).1 hx
  refine⟨x,rfl,ht,hx2,(vH (hE _ ht)).2.1,fun w h1 h2=>?_⟩
  obtain⟨_,ls,rs,e1,e2⟩:=List.find?_eq_some_iff_append.1 e
  have hw:w∈next n E v:=(xI hE).2 h1
  rw[e1,List.mem_append]at hw
  rcases hw with q|q
  ·have:=e2 w q
   simp[h2]at this
  rcases List.mem_cons.1 q with q|q
  ·omega
  have hs:=NZ n v E
  rw[e1,List.pairwise_append]at hs
  have:=(List.pairwise_cons.1 hs.2.1).1 w q
  omega
theorem Bn {n b:Int}{E:List Tie}{f:Int->Int}(F:Far n E b f) (hE:∀t∈E,inr n t):∀ (d:Nat) (v:Int),0<=v/\v<n->f v=(d:Int)->
  ∃r,down n E f d v=v::r/\r.length=d/\(v::r).getLast? =some b/\(∀t∈ties (v::r),t∈E)/\(∀x∈r,f x<d)/\(v::r).Nodup
 |0,v,hv,hf=>⟨[],rfl,rfl,by rw[F.only v hv.1 hv.2 hf];rfl,by simp[ties],by simp,by simp⟩
 |d+1,v,hv,hf=>by
  obtain⟨x,e,ht,hx,hr,_⟩:=F.step hE hv hf
  obtain⟨r,e1,e2,e3,e4,e5,e6⟩:=Bn F hE d x hr hx
  refine⟨x::r,?_,by simp[e2],?_,?_,?_,?_⟩
  ·unfold down
   rw[e]
   simp only [Option.getD_some,e1]
  ·rw[List.getLast?_cons_cons];exact e3
  ·intro t h
   simp only [ties,List.mem_cons]at h
   rcases h with rfl|h
   ·exact ht
   exact e4 t h
  ·intro y hy
   rcases List.mem_cons.1 hy with rfl|hy
   ·omega
   have:=e5 y hy;omega
  rw[List.nodup_cons]
  refine⟨fun h=>?_,e6⟩
  rcases List.mem_cons.1 h with q|q
  ·rw[q]at hf;omega
  have:=e5 v q;omega
theorem Far.walk {n b:Int}{E:List Tie}{f:Int->Int}(F:Far n E b f):∀ (r:List Int) (v:Int),(v::r).getLast? =some b->(∀t∈ties (v::r),t∈E)->0<=f v/\f v<=(r.length:Int)
 |[],v,h,_=>by
  have:v=b:=by simpa using h
  rw[this,F.zero];simp
 |w::r,v,h,ht=>by
  rw[List.getLast?_cons_cons]at h
  have:=F.walk r w h (fun t q=>ht t (by simp[ties,q]))
  have:=F.near w v (by rw[yt];exact ht _ (by simp[ties])) (by omega)
  simp only [List.length_cons]
  omega
theorem IB {n b:Int}{E:List Tie}{f:Int->Int}(F:Far n E b f) (hE:∀t∈E,inr n t):∀ (d:Nat) (v:Int) (q:List Int),0<=v/\v<n->f v=(d:Int)->(v::q).getLast? =some b->(∀t∈ties (v::q),t∈E)->q.length<=d->
  q.length=d/\¬vK (v::q) (down n E f d v)
 |0,v,[],_,_,_,_,_=>⟨rfl,by simp[down,vK]⟩
 |0,v,_::_,_,_,_,_,h=>by simp at h
 |d+1,v,[],hv,hf,h,_,_=>by
  have:v=b:=by simpa using h
  rw[this,F.zero]at hf;omega
 |d+1,v,w::q,hv,hf,h,ht,hl=>by
  obtain⟨x,e,htx,hx,hr,hmin⟩:=F.step hE hv hf
  rw[List.getLast?_cons_cons]at h
  have hw:=F.walk q w h (fun t k=>ht t (by simp[ties,k]))
  have htw:oD v w∈E:=ht _ (by simp[ties])
  have h2:=F.near w v (by rw[yt];exact htw) (by omega)
  have hfw:f w=(d:Int):=by simp only [List.length_cons]at hl;omega
  obtain⟨a,b2⟩:=IB F hE d w q (vH (hE _ htw)).2.1 hfw h (fun t k=>ht t (by simp[ties,k])) (by simp only [List.length_cons]at hl;omega)
  refine⟨by simp[a],?_⟩
  unfold down
  rw[e]
  simp only [Option.getD_some]
  intro k
  have hm:=hmin w htw hfw
  obtain⟨r,e1,_⟩:=Bn F hE d x hr hx
  rcases k with k|⟨_,k⟩
  ·omega
  by_cases c:w=x
  ·subst c;exact b2 k
  rw[e1]at k
  rcases k with k|k
  ·omega
  exact c k.1
def C9 (n:Int) (E:List Tie) (f:Int->Int) (a:Int):List Int:=down n E f (f a).toNat a
theorem Far.first {n a b:Int}{E:List Tie}{f:Int->Int}(F:Far n E b f) (hE:∀t∈E,inr n t) (ha:0<=a/\a<n) (h:0<=f a):uG E a b (C9 n E f a)/\∀q,uG E a b q->¬wlt q (C9 n E f a):=by
 obtain⟨r,e1,e2,e3,e4,e5,e6⟩:=Bn F hE (f a).toNat a ha (by omega)
 unfold C9
 refine⟨⟨by rw[e1];rfl,by rw[e1];exact e3,by rw[e1];exact e4,by rw[e1];exact e6⟩,fun q hq k=>?_⟩
 cases q with
 |nil=>have:=hq.head;simp at this
 |cons x q=>
  have:x=a:=by have:=hq.head;simpa using this
  subst this
  have hl:q.length<=(f x).toNat:=by
   rw[e1]at k
   rcases k with k|k
   ·simp only [List.length_cons,e2]at k;omega
   have:=k.1;simp only [List.length_cons,e2]at this;omega
  obtain⟨l1,l2⟩:=IB F hE (f x).toNat x q ha (by omega) hq.last hq.ties hl
  rcases k with k|k
  ·rw[e1]at k;simp only [List.length_cons,e2]at k;omega
  exact l2 k.2
theorem Far.conn {n a b:Int}{E:List Tie}{f:Int->Int}(F:Far n E b f) (hE:∀t∈E,inr n t) (ha:0<=a/\a<n):0<=f a↔qm E a b:=by
 constructor
 ·intro h;exact Lg (n:=n) (F.first hE ha h).1
 intro h
 refine h.symm.closed (fun x=>0<=f x) (by rw[F.zero];omega) (fun x y hx ht=>(F.near x y ht hx).1)
theorem MG {n a b:Int}{E:List Tie}{f:Int->Int}(F:Far n E b f) (h8:n<=8) (hE:∀t∈E,inr n t) (ha:0<=a/\a<n) (h:0<=f a):∃r,xD n E a b=C9 n E f a::r:=
 Lh h8 hE ha (F.first hE ha h).1 (F.first hE ha h).2
end Go.Proofs.Ytgeonpciodepgaa.G
namespace Go.Proofs.Ytgeonpciodepgaa.P
set_option maxHeartbeats 8000000
set_option maxRecDepth 100000
open Go.RowKit Go.Proofs.YtgeonpciodepgaaW.PrintWords Go.Proofs.YtgeonpciodepgaaW.PrintLast Go.Proofs.YtgeonpciodepgaaW.PrintMore Go.Proofs.YtgeonpciodepgaaW.PrintWords.Kd Go.Proofs.YtgeonpciodepgaaW.PrintMore.Kd
attribute [local go_sem] wH wM wK wP wJ wO wI wN
def vU.l0:Nat->List Int->List Int->List Int->Int->Int->Option (Int)
 |0,_,_,_,_,_=>none
 |k+1,x0,x1,x9,aK,al=>if al<aK then(if 0<=al then(if al<(x9.length:Int) then(if al>=(x1.length:Int) then(some 1) else(if al<(x1.length:Int) then((cmp_Compare_int.f (rd x9 al) (rd x1 al)).bind fun ac=>(if ac=0 then(vU.l0 k x0 x1 x9 aK (wrap64 (al+1))) else(some ac))) else(none))) else(none)) else(none)) else(if(x0.length:Int)<(x1.length:Int) then(some (-1)) else(some 0))
def vU.f (k:Nat) (l0:List Int) (l1:List Int):Option (Int):=vU.l0 k l0 l1 l0 (l0.length:Int) 0
theorem vU.calls {k:Nat}{A0:Option Addr}{c0:Nat}{l0:List Int}{A1:Option Addr}{c1:Nat}{l1:List Int}{r:Int}{w:World}(au:Kd.C (Kd.int .i64) w A0 l0.length l0)(av:l0.length<=c0)(hr1:Kd.C (Kd.int .i64) w A1 l1.length l1)(aw:l1.length<=c1)(h:vU.f k l0 l1=some r):
  Calls Try.prog 101 #[.slice A0 l0.length c0,.slice A1 l1.length c1] w fun e w'=>e=.returned (.int .i64 r)/\oK w w':=by
 have ax:=dm au;have aL:=dm av;clear au av;have aB:=dm hr1;have aM:=dm aw;clear hr1 aw;unfold vU.f at h;have H:=h;clear h;have H':=dm H;clear H
 go_enter Try.func101,Try.ntmps101
 go_wp2
 go_loopg [11] k (fun kq aS w'=>∃ (aa:Int),aS=.int .i64 aa/\lm (vU.l0 kq l0 l1 l0 (l0.length:Int) aa=some r)/\lm (kq<=k)/\oK w w')
 case atStart=>exact⟨(0),(nQ),H',⟨Nat.le_refl _⟩,by repeat(first|exact oK.refl _|apply oK.step)⟩
 case round=>
  clear H';obtain⟨aa,rfl,HA,aN,⟨m1,rfl⟩⟩:=hrel;cases gk with
  |zero=>exact absurd HA.out (by simp[vU.l0])
  |succ k1=>
   have H:=HA.out;clear HA;simp only [vU.l0]at H
   replace H:=pU H;rcases H with⟨aO,H⟩|⟨aO,H⟩
   ·skip
    obtain⟨aW,H⟩:=oC H
    obtain⟨aX,H⟩:=oC H
    replace H:=pU H;rcases H with⟨aP,H⟩|⟨aP,H⟩
    ·obtain rfl:=Option.some.inj H;have ag:0<=(aa:Int):=nC;have ah:aa<(l0.length:Int):=nC;obtain⟨aC,am,ao⟩:=oL ax.out aa ag ah;cases am;replace ag:=eq_true ag;replace ah:=eq_true ah
     go_wp2
     go_ret
     exact⟨nQ,by repeat(first|exact oK.refl _|apply oK.step)⟩
    skip
    obtain⟨aY,H⟩:=oC H;obtain⟨ac,A8,H⟩:=ow H;(try dsimp only at H)
    by_cases c9:ac=0
    ·rw[if_pos c9]at H;have aQ:=beq_iff_eq.mpr c9;have aR:=bne_eq_false_iff_eq.mpr c9;clear c9;have H':=dm H;clear H;have ag:0<=(aa:Int):=nC;have ah:aa<(l0.length:Int):=nC;obtain⟨aC,am,ao⟩:=oL ax.out aa ag ah;cases am;replace ag:=eq_true ag;replace ah:=eq_true ah;have ai:0<=(aa:Int):=nC;have aj:aa<(l1.length:Int):=nC;obtain⟨aG,az,aE⟩:=oL aB.out aa ai aj;cases az;replace ai:=eq_true ai;replace aj:=eq_true aj
     go_wp2_with (first|((with_reducible refine og 110 rfl ?_);refine oV 26 rfl Try.func110 (cmp_Compare_int.calls A8.out) ?_;rintro e w' ⟨rfl,⟨nd,rfl⟩⟩;refine⟨_,rfl,?_⟩))
     go_roundg k1
     case measure=>have:=aN.out;omega
     case rel=>exact⟨(wrap64 (aa+1)),(nQ),H',⟨by have:=aN.out;omega⟩,by repeat(first|exact oK.refl _|apply oK.step)⟩
    rw[if_neg c9]at H;have aQ:=beq_eq_false_iff_ne.mpr c9;have aR:=bne_iff_ne.mpr c9;obtain rfl:=Option.some.inj H;have ag:0<=(aa:Int):=nC;have ah:aa<(l0.length:Int):=nC;obtain⟨aC,am,ao⟩:=oL ax.out aa ag ah;cases am;replace ag:=eq_true ag;replace ah:=eq_true ah;have ai:0<=(aa:Int):=nC;have aj:aa<(l1.length:Int):=nC;obtain⟨aG,az,aE⟩:=oL aB.out aa ai aj;cases az;replace ai:=eq_true ai;replace aj:=eq_true aj
    go_wp2_with (first|((with_reducible refine og 110 rfl ?_);refine oV 26 rfl Try.func110 (cmp_Compare_int.calls A8.out) ?_;rintro e w' ⟨rfl,⟨nd,rfl⟩⟩;refine⟨_,rfl,?_⟩))
    go_ret
    exact⟨nQ,by repeat(first|exact oK.refl _|apply oK.step)⟩
   skip
   by_cases c10:(l0.length:Int)<(l1.length:Int)
   ·rw[if_pos c10]at H;have aH:=decide_eq_true c10;have aI:=decide_eq_true (Int.ofNat_lt.mp c10);clear c10;obtain rfl:=Option.some.inj H
    go_wp2
    go_ret
    exact⟨nQ,by repeat(first|exact oK.refl _|apply oK.step)⟩
   rw[if_neg c10]at H;have aH:=decide_eq_false c10;have aI:decide (l0.length<l1.length)=false:=decide_eq_false (fun h=>c10 (Int.ofNat_lt.mpr h));clear c10;obtain rfl:=Option.some.inj H
   go_wp2
   go_ret
   exact⟨nQ,by repeat(first|exact oK.refl _|apply oK.step)⟩
end Go.Proofs.Ytgeonpciodepgaa.P
namespace Go.Proofs.Ytgeonpciodepgaa.P
open Go.RowKit Go.Lib Go.Sort Go.Proofs.YtgeonpciodepgaaW.PrintWords Go.Proofs.YtgeonpciodepgaaW.PrintLast Go.Proofs.YtgeonpciodepgaaW.PrintMore Go.Proofs.Ytgeonpciodepgaa.G Go.Proofs.YtgeonpciodepgaaW.PrintWords.Kd Go.Proofs.YtgeonpciodepgaaW.PrintMore.Kd
def cmpL:List Int->List Int->Int
 |[],[]=>0
 |[],_::_=> -1
 |_::_,[]=>1
 |x::a,y::b=>if uu x y=0 then cmpL a b else uu x y
def cfW (a b:List Int):Int:=if uu a.length b.length=0 then cmpL a b else uu a.length b.length
theorem CV {x y:Int}:uu x y=0↔x=y:=by unfold uu;repeat' split<;>omega
theorem Iq {x y:Int}:uu x y<0↔x<y:=by unfold uu;repeat' split<;>omega
theorem Ir:∀a b:List Int,cmpL a b<0↔vK a b
 |[],[]=>by simp[cmpL,vK]
 |[],_::_=>by simp[cmpL,vK]
 |_::_,[]=>by simp[cmpL,vK]
 |x::a,y::b=>by
  unfold cmpL vK
  by_cases c:uu x y=0
  ·rw[if_pos c,Ir a b]
   have:=CV.1 c
   constructor
   ·intro h;exact .inr ⟨this,h⟩
   rintro(h|h)
   ·omega
   exact h.2
  rw[if_neg c,Iq]
  constructor
  ·intro h;exact .inl h
  rintro(h|h)
  ·exact h
  exact absurd (CV.2 h.1) c
theorem LV (a b:List Int):cfW a b<0↔wlt a b:=by
 unfold cfW wlt
 by_cases c:uu (a.length:Int) b.length=0
 ·rw[if_pos c,Ir]
  have:=CV.1 c
  constructor
  ·intro h;exact .inr ⟨by omega,h⟩
  rintro(h|h)
  ·omega
  exact h.2
 rw[if_neg c,Iq]
 constructor
 ·intro h;exact .inl (by omega)
 rintro(h|h)
 ·omega
 exact absurd (CV.2 (by omega)) c
theorem Iu:∀ (a b p q:List Int),p.length=q.length->(p++a).length<=9223372036854775807->
  Ev (fun k=>vU.l0 k (p++a) (q++b) (p++a) ((p++a).length:Int) (p.length:Int)) (cmpL a b)
 |[],b,p,q,h,hb=>by
  refine Ev.step (fun k=>by simp only [vU.l0,sP,if_false]<;>exact rfl) ?_
  refine Ev.val ?_
  cases b with
  |nil=>rw[if_neg (by simp;omega)];rfl
  |cons y b=>rw[if_pos (by simp;omega)];rfl
 |x::a,[],p,q,h,hb=>by
  have h2:(p.length:Int)>=((q++[]).length:Int):=by simp;omega
  refine Ev.step (fun k=>by simp only [vU.l0,qi,nn,if_true,if_pos h2]<;>exact rfl) ?_
  exact Ev.val rfl
 |x::a,y::b,p,q,h,hb=>by
  have h2:¬ (p.length:Int)>=((q++y::b).length:Int):=by simp;omega
  have h3:(p.length:Int)<((q++y::b).length:Int):=by simp;omega
  have e1:rd (q++y::b) (p.length:Int)=y:=by rw[h];exact rY q y b
  have w:wrap64 ((p.length:Int)+1)=((p++[x]).length:Int):=by
   rw[List.length_append,List.length_cons]at hb
   rw[w64 (by omega) (by omega)];simp
  refine Ev.step (fun k=>by simp only [vU.l0,qi,nn,if_true,if_neg h2,if_pos h3,rY,e1,cmp_eq,Option.bind_some,w]<;>exact rfl) ?_
  unfold cmpL
  by_cases c:uu x y=0
  ·simp only [if_pos c]
   rw[qw p x a,qw q y b]
   exact Iu a b (p++[x]) (q++[y]) (by simp[h]) (by rw[←qw];exact hb)
  simp only [if_neg c]
  exact Ev.val rfl
theorem L6 (a b:List Int) (ha:a.length<=9223372036854775807):Ev (fun k=>vU.f k a b) (cmpL a b):=by
 unfold vU.f
 exact Iu a b [] [] rfl ha
theorem NE {P:Program}{ops:Array Oper}{rest:List Oper}{o:Oper}{a:Act}{Q:Exit->Act->World->Prop}{W V:World}{x y:Int}{e:Nat}(hgd:o.guard=none)
  (hrun:(execOp a.eval o).run P V=.ok (.value (.slice (some ⟨V.heap.size,0,none⟩) 2 2)) (V.alloc (.cells #[.int .i64 x,.int .i64 y] e))) (hV:∃q,V=W.drewN q)
  (h:∀ad w1,Kd.C (Kd.int .i64) w1 (some ad) [x,y].length [x,y]->(∃q os,w1=grow (W.drewN q) os)->wpList P ops Q rest (a.put o.dst (.slice (some ad) 2 2)) w1):wpList P ops Q (o::rest) a V:=by
 refine CY hgd hrun (h ⟨V.heap.size,0,none⟩ _ ?_ ?_)
 ·have bn:=AR V (.cells #[.int .i64 x,.int .i64 y] e (0,0))
  refine yV (d:=(0:Int)) (h1:=fun _=>rfl) ⟨rfl,by simp,fun hn=>⟨_,rfl,fun j hj=>?_⟩⟩
  match j,hj with
  |0,_=>exact(qZ bn 0).trans rfl
  |1,_=>exact(qZ bn 1).trans rfl
 obtain⟨q,rfl⟩:=hV
 exact⟨q,_,alloc_eq_grow _ _⟩
set_option maxHeartbeats 4000000 in
set_option maxRecDepth 100000 in
theorem PN (A0:Option Addr) (c0:Nat) (l0:List Int) (A1:Option Addr) (c1:Nat) (l1:List Int) (W:World) (hr0:Kd.C (Kd.int .i64) W A0 l0.length l0) (hc0:l0.length<=c0) (hr1:Kd.C (Kd.int .i64) W A1 l1.length l1) (hc1:l1.length<=c1):
  Calls Try.prog 132 #[.slice A0 l0.length c0,.slice A1 l1.length c1] W fun e w'=>e=.returned (.int .i64 (cfW l0 l1))/\∃q os',w'=grow (W.drewN q) os':=by
 obtain⟨k,hk⟩:=Ev.rounds (L6 l0 l1 hr0.2.1)
 obtain⟨k2,hk2⟩:=Ev.rounds (Jv (uu l0.length l1.length) (cmpL l0 l1))
 obtain⟨r,hr⟩:∃r:Int,(if uu l0.length l1.length=0 then cmpL l0 l1 else uu l0.length l1.length)=r:=⟨_,rfl⟩
 rw[hr]at hk2
 have HR0:=lm.mk hr0
 have HC0:=lm.mk hc0
 have HR1:=lm.mk hr1
 have HC1:=lm.mk hc1
 have A3:=lm.mk (cmp_eq l0.length l1.length)
 have A4:=lm.mk hk
 have A5:=lm.mk hk2
 have HR:=lm.mk hr
 clear hr0 hc0 hr1 hc1 hk hk2 hr
 go_enter Try.func132,Try.ntmps132
 go_wp2_with (first
  |((with_reducible refine xg (f:=110) rfl ?_);refine wC (some 9) rfl rfl Try.func110 (by kernel_rfl) rfl #[.int .i64 (l0.length:Int),.int .i64 (l1.length:Int)] rfl (wS) ?_;(with_reducible refine(@cmp_Compare_int.calls (l0.length:Int) (l1.length:Int) _ _ A3.out).mono ?_);rintro e w' ⟨rfl,⟨nd,rfl⟩⟩;refine⟨_,rfl,?_⟩)
  |((with_reducible refine xg (f:=101) rfl ?_);refine wC (some 12) rfl rfl Try.func101 (by kernel_rfl) rfl #[.slice A0 l0.length c0,.slice A1 l1.length c1] rfl (wS) ?_;(with_reducible refine(@vU.calls k _ _ l0 _ _ l1 _ _ ?o7 ?o8 ?uZ ?u_ A4.out).mono ?_);(case o7=>repeat(first|exact HR0.out|(with_reducible refine uh ?_ _)|(with_reducible refine uj ?_ _)|(with_reducible refine ui ?_)));(case o8=>exact HC0.out);(case uZ=>repeat(first|exact HR1.out|(with_reducible refine uh ?_ _)|(with_reducible refine uj ?_ _)|(with_reducible refine ui ?_)));(case u_=>exact HC1.out);rintro e w' ⟨rfl,⟨nd2,rfl⟩⟩;refine⟨_,rfl,?_⟩)
  |((with_reducible refine C_ (N:=13) rfl ?_);refine NE (W:=W) (x:=uu l0.length l1.length) (y:=cmpL l0 l1) (e:=3) rfl (by first|(go_simp;done)|(go_simp;rfl)) ⟨nd+nd2,by simp[World.drewN,Nat.add_assoc]⟩ ?_;intro ad w6 hl_ hg_;have HL:=lm.mk hl_;have HG:=lm.mk hg_;clear hl_ hg_)
  |((with_reducible refine xg (f:=109) rfl ?_);refine wC (some 14) rfl rfl Try.func109 (by kernel_rfl) rfl #[.slice (some ad) 2 2] rfl (wS) ?_;(refine(@sN.calls k2 (some ad) 2 [uu l0.length l1.length,cmpL l0 l1] r _ ?o7 ?o8 A5.out).mono ?_);(case o7=>exact HL.out);(case o8=>exact Nat.le_refl _);rintro e w' ⟨rfl,⟨nd3,rfl⟩⟩;refine⟨_,rfl,?_⟩))
 go_ret
 refine⟨?_,?_⟩
 ·rw[←HR.out]
  rfl
 obtain⟨q,os,e⟩:=HG.out
 rw[e]
 refine⟨q+nd3,os,?_⟩
 show grow ((W.drewN q).drewN nd3) _=_
 congr 1
 simp[World.drewN,Nat.add_assoc]
end Go.Proofs.Ytgeonpciodepgaa.P
namespace Go.Proofs.Ytgeonpciodepgaa.P
set_option maxHeartbeats 8000000
set_option maxRecDepth 100000
open Go.RowKit Go.Proofs.YtgeonpciodepgaaW.PrintWords Go.Proofs.YtgeonpciodepgaaW.PrintLast Go.Proofs.YtgeonpciodepgaaW.PrintMore Go.Proofs.YtgeonpciodepgaaW.PrintWords.Kd Go.Proofs.YtgeonpciodepgaaW.PrintMore.Kd
attribute [local go_sem] wH wM wK wP wJ wO wI wN
def wW.f (l0:List Int):Option (List Int):=(some (([]:List Int):List Int)).bind fun aa=>(if aa.length+l0.length<17592186044416 then(some (aa++l0)) else(none))
theorem wW.calls {A0:Option Addr}{c0:Nat}{l0:List Int}{r:List Int}{w:World}(al:Kd.C (Kd.int .i64) w A0 l0.length l0)(am:l0.length<=c0)(h:wW.f l0=some r):
  Calls Try.prog 103 #[.slice A0 l0.length c0] w fun e w'=>∃ao:Value,e=.returned (ao)/\Kd.R (Kd.int .i64) 3 w' w.heap.size (fun _=>True) ao r/\Below w.heap.size w w':=by
 have ap:=dm al;have aw:=dm am;clear al am;have HB:=dm (Below.refl w.heap.size w);unfold wW.f at h;have H:=h;clear h;obtain⟨aa,ab⟩:∃y_:List Int,y_=(([]:List Int)):=⟨_,rfl⟩;replace H:(if aa.length+l0.length<17592186044416 then(some (aa++l0)) else(none))=some r:=pG ab H
 have af:=dm ab;clear ab
 obtain⟨c2,H⟩:=qh H;have aq:=dm c2;clear c2;obtain⟨aj,ac⟩:∃y_:List Int,y_=(aa++l0):=⟨_,rfl⟩;replace H:(some aj)=some r:=pG ac H
 have ah:=dm ac;clear ac;obtain rfl:=Option.some.inj H;have ax:∀ (w:World) (a:Option Addr) (n c n' c':Nat),(binOp .eql 45 (.slice a n c) (.slice none n' c')).run Try.prog w=.ok (.bool a.isNone) w:=fun w a n c n' c'=>Go.Lib.run_eql_slice_nil w _ _ a n c n' c' Try.underlying45
 rcases A0 with _|ay
 ·have e0:l0=[]:=by
   have h_:=ap.out
   rcases l0 with _|⟨q,r⟩
   ·rfl
   obtain⟨ad,h,_⟩:=h_.2.2 (by simp);exact absurd h (by simp)
  subst e0;have ey:aj=[]:=by rw[ah.out,af.out];rfl
  subst ey
  go_enter Try.func103,Try.ntmps103
  go_wp2
  go_ret
  exact⟨_,rfl,wQ _ _ _ _ _,ny HB.out⟩
 go_enter Try.func103,Try.ntmps103
 go_wp2_with (first|((with_reducible refine nU 5 rfl ?_);refine rZ (Kd.int .i64) rfl 3 ([]:List Int) [] (oF.none _ _) ?_;intro au w3 ag hb hg_ pE;clear hg_ pE;(first|rw[←af.out]at ag|(simp only [Int.reduceToNat]at ag;rw[←af.out]at ag));have ai:=dm (oJ ag (ou (ny HB.out)));replace HB:=nI HB hb;clear hb ag)|((with_reducible refine rR (b:=.append) (xs:= #[.tmp 5,.tmp 6]) rfl ?_);at_builtin;refine Ea (Kd.int .i64) (w0:=w) w.heap.size rfl (.tmp 5) (.tmp 6) 45 3 (.int .i64 0) 8 rfl Try.underlying45 info3 rfl (by decide) (by omega) au aa l0 _ _ _ (fun _=>True) (fun _=>False) rfl rfl ?aO ?aR (fun _ _ h=>h) (fun _ h=>h.elim) ?aF ?aB ?aS ?aL ?_;(case aR=>exact nS (oG ap.out HB.out));(case aB=>exact(ny HB.out));(case aF=>exact(fun _ _=>trivial));(case aO=>exact(nH ai.out));(case aS=>exact(ou (ny HB.out)));(case aL=>have:=aq.out;omega);intro av w5 ho hb hg hat;rw[←ah.out]at ho;have n0:=dm (hb);have n1:=dm (ho);clear HB ai;revert n0 n1;intro HB ak;clear ho hb hg hat))
 go_ret
 exact⟨_,qC,nH ak.out,ny HB.out⟩
end Go.Proofs.Ytgeonpciodepgaa.P
namespace Go.Proofs.Ytgeonpciodepgaa.P
open Go.RowKit Go.Proofs.YtgeonpciodepgaaW.PrintWords Go.Proofs.YtgeonpciodepgaaW.PrintWords.Kd
theorem Ad {w w1:World}(h:Below w.heap.size w w1) (row:Option Nat):w.grownBy w1 row:=⟨h.os,h.tape,h.output,h.size,fun k hk _=>h.block k hk⟩
structure LX (w0 w:World) (A1:Option Addr) (c1:Nat) (l1:List Int) (vo v:Value) (out:List (List Int)) (W:World):Prop where
 b:Below w0.heap.size w0 W
 way:Kd.R (Kd.int .i64) 3 W w0.heap.size (fun _=>True) (.slice A1 l1.length c1) l1
 row:Kd.S (Kd.slice 3 (Kd.int .i64)) 45 W w0.heap.size (fun _=>True) v out
 g:w.grownBy W vo.ownBlock
 at_:v.ownBlock=vo.ownBlock\/∃b,v.ownBlock=some b/\w.heap.size<=b
section
variable {w0 w W W':World}{A1:Option Addr}{c1:Nat}{l1:List Int}{vo v v1:Value}{out out1:List (List Int)}
theorem LX.start (hb:Below w0.heap.size w0 w) (h1:Kd.R (Kd.int .i64) 3 w w0.heap.size (fun _=>True) (.slice A1 l1.length c1) l1) (h2:Kd.S (Kd.slice 3 (Kd.int .i64)) 45 w w0.heap.size (fun _=>True) vo out):LX w0 w A1 c1 l1 vo vo out w:=
 ⟨hb,h1,h2,Ad (Below.refl _ _) _,.inl rfl⟩
theorem LX.below (h:LX w0 w A1 c1 l1 vo v out W) (hb:Below W.heap.size W W'):LX w0 w A1 c1 l1 vo v out W':=
 ⟨o6 h.b hb,sW h.way hb,ut h.row hb,World.grownBy.trans h.g (Ad hb _),h.at_⟩
theorem LX.fin (h:LX w0 w A1 c1 l1 vo v out W):Kd.S (Kd.slice 3 (Kd.int .i64)) 45 W w0.heap.size (fun _=>True) v out/\Below w0.heap.size w0 W/\w.grownBy W vo.ownBlock/\(v.ownBlock=vo.ownBlock\/∃b,v.ownBlock=some b/\w.heap.size<=b):=⟨h.row,h.b,h.g,h.at_⟩
theorem LX.step (h:LX w0 w A1 c1 l1 vo v out W) (hS:Kd.S (Kd.slice 3 (Kd.int .i64)) 45 W' w0.heap.size (fun _=>True) v1 out1) (hb:Below w0.heap.size w0 W') (hg:W.grownBy W' v.ownBlock) (hat:v1.ownBlock=v.ownBlock\/∃b,v1.ownBlock=some b/\W.heap.size<=b):LX w0 w A1 c1 l1 vo v1 out1 W':=by
 refine⟨hb,sI h.way (ze h.row) (by decide) hg,hS,⟨hg.os.trans h.g.os,hg.tape.trans h.g.tape,hg.output.trans h.g.output,Nat.le_trans h.g.size hg.size,fun k hk hne=>?_⟩,?_⟩
 ·refine(hg.block k (Nat.lt_of_lt_of_le hk h.g.size) (fun e=>?_)).trans (h.g.block k hk hne)
  rcases h.at_ with q|⟨b,q,hb⟩
  ·exact hne (e.trans q)
  rw[q]at e
  injection e with e
  omega
 rcases hat with q|⟨b,q,hb2⟩
 ·rw[q];exact h.at_
 exact .inr ⟨b,q,Nat.le_trans h.g.size hb2⟩
theorem LX.app {w1:World}(hB:Below w.heap.size w w1) (ho:Kd.S (Kd.slice 3 (Kd.int .i64)) 45 W w0.heap.size (fun _=>True) v out) (hb:Below w0.heap.size w0 W) (hg:w1.grownBy W vo.ownBlock) (hat:v.ownBlock=vo.ownBlock\/∃b,v.ownBlock=some b/\w1.heap.size<=b):Kd.S (Kd.slice 3 (Kd.int .i64)) 45 W w0.heap.size (fun _=>True) v out/\Below w0.heap.size w0 W/\w.grownBy W vo.ownBlock/\(v.ownBlock=vo.ownBlock\/∃b,v.ownBlock=some b/\w.heap.size<=b):=
 ⟨ho,hb,World.grownBy.trans (Ad hB _) hg,hat.imp id (fun⟨b,e1,e2⟩=>⟨b,e1,Nat.le_trans hB.size e2⟩)⟩
end
end Go.Proofs.Ytgeonpciodepgaa.P
