/- The proof's parts ahead of the row: of no condition of their own. -/
import Derived.Test.YtgeonpciodepgaaZFnExactEarOf0
set_option linter.unusedVariables false
set_option linter.unusedSimpArgs false
namespace Go.Proofs.Ytgeonpciodepgaa.P
set_option maxHeartbeats 8000000
set_option maxRecDepth 100000
open Go.RowKit Go.Proofs.YtgeonpciodepgaaW.PrintWords Go.Proofs.YtgeonpciodepgaaW.PrintLast Go.Proofs.YtgeonpciodepgaaW.PrintMore Go.Proofs.YtgeonpciodepgaaW.PrintWords.Kd Go.Proofs.YtgeonpciodepgaaW.PrintMore.Kd
attribute [local go_sem] vQ vU vT vX vS vW vR vV
variable {p:Prop}
theorem Bp(h:p:=by rw[hg];exact Nat.ne_of_lt (lq (g:=aP) (o:=.cells #[.int .i64 ab,.slice ai ac.length aj] 24 (0,0)) (jZ ay.out))):p:=h
theorem Bq(h:p:=by rw[hg];exact Nat.ne_of_gt (lq (g:=aP) (o:=.cells #[.int .i64 ab,.slice ai ac.length aj] 24 (0,0)) (jZ ay.out))):p:=h
theorem yM(h:p:=by rw[hg];exact Nat.ne_of_lt (lq (g:=ak) (o:=.cells #[.int .i64 ab,.slice ai ac.length aj] 31 (0,0)) (jZ af.out))):p:=h
theorem yN(h:p:=by rw[hg];exact Nat.ne_of_gt (lq (g:=ak) (o:=.cells #[.int .i64 ab,.slice ai ac.length aj] 31 (0,0)) (jZ af.out))):p:=h
theorem yO(h:p:=by rw[hg];exact Nat.ne_of_lt (lq (g:=al) (o:=.cells #[.int .i64 ab,.int .i64 ag] 59 (0,0)) (jZ am.out))):p:=h
theorem yP(h:p:=by rw[hg];exact Nat.ne_of_gt (lq (g:=al) (o:=.cells #[.int .i64 ab,.int .i64 ag] 59 (0,0)) (jZ am.out))):p:=h
theorem lT(h:p:=by first|rfl|(simp[qL,qM]<;>rfl)|(simp[*,qL,qM]<;>rfl)):p:=h
theorem ku(h:p:=by first|rfl|(simp;done)|(simp[*];done)):p:=h
theorem kg(h:p:=by rw[hg];exact(kC (jR HB.out))):p:=h
def uw.f (l0:List (nu)) (a1:Int):Option (Int):=if(wrap64 (a1 - (l0.length:Int)))<0 then(some (-1)) else(some (wrap64 (a1 - (l0.length:Int))))
theorem uw.calls (A0:Option Addr) (c0:Nat) (l0:List (nu)) (a1:Int) (r:Int) (w:World) (ba:Kd.C sJ w A0 l0.length l0) (bd:l0.length<=c0) (h:uw.f l0 a1=some r):
  Calls Try.prog 43 #[.slice A0 l0.length c0,.int .i64 a1] w fun e w'=>e=.returned (.int .i64 r)/\kG w w':=by
 have bH:=dm ba;have df:=dm bd;clear ba bd;unfold uw.f at h;have H:=h;clear h
 replace H:=lH H;rcases H with⟨aE,H⟩|⟨aE,H⟩
 ·obtain rfl:=Option.some.inj H
  go_enter Try.func43,Try.ntmps43
  go_wp2
  go_ret
  exact⟨ku,by repeat(first|exact kG.refl _|apply kG.step)⟩
 obtain rfl:=Option.some.inj H
 go_enter Try.func43,Try.ntmps43
 go_wp2
 go_ret
 exact⟨ku,by repeat(first|exact kG.refl _|apply kG.step)⟩
def tH.f (ab:Int) (ac:List (nu)) (a1:Int):Option (Int):=(uw.f ac a1).bind fun aF=>(if aF<0 then(some (-1)) else(some aF))
theorem tH.calls (ab:Int) (ai:Option Addr) (aj:Nat) (ac:List (nu)) (a1:Int) (r:Int) (w:World) (aT:Kd.C sJ w ai ac.length ac) (aU:ac.length<=aj) (h:tH.f ab ac a1=some r):
  Calls Try.prog 14 #[.agg #[.int .i64 ab,.slice ai ac.length aj],.int .i64 a1] w fun e w'=>e=.returned (.int .i64 r)/\Below w.heap.size w w':=by
 have dO:=Try.underlying24;have a4:=dm aT;have a5:=dm aU;clear aT aU;have HB:=dm (Below.refl w.heap.size w);unfold tH.f at h;have H:=h;clear h;obtain⟨aF,A3,H⟩:=kR H;(try dsimp only at H)
 replace H:=lH H;rcases H with⟨bl,H⟩|⟨bl,H⟩
 ·obtain rfl:=Option.some.inj H
  go_enter Try.func14,Try.ntmps14
  go_wp2_with (first|((with_reducible refine ky 2 rfl ?_);refine kS #[.int .i64 ab,.slice ai ac.length aj] 24 ?_;intro bC hg w5 jS hb;have bU:=dm (jS);have dA:=dm (kg:w.heap.size<=bC);have dB:=dm (kg:w.heap.size<=bC);replace HB:=jX HB hb;clear hb jS hg;have⟨eA,eB,eC,eD⟩:=ko (w:=w5) bU)|((with_reducible refine kQ 43 rfl ?_);refine lL 8 rfl Try.func43 (uw.calls _ _ ac a1 aF _ (kv (kN a4.out HB.out)) a5.out A3.out) ?_;rintro e w' ⟨rfl,⟨nd,rfl⟩⟩;refine⟨_,rfl,?_⟩))
  go_ret
  exact⟨lT,jR HB.out⟩
 obtain rfl:=Option.some.inj H
 go_enter Try.func14,Try.ntmps14
 go_wp2_with (first|((with_reducible refine ky 2 rfl ?_);refine kS #[.int .i64 ab,.slice ai ac.length aj] 24 ?_;intro bC hg w7 jS hb;have bU:=dm (jS);have dA:=dm (kg:w.heap.size<=bC);have dB:=dm (kg:w.heap.size<=bC);replace HB:=jX HB hb;clear hb jS hg;have⟨bZ,b3,b4,b5⟩:=ko (w:=w7) bU)|((with_reducible refine kQ 43 rfl ?_);refine lL 8 rfl Try.func43 (uw.calls _ _ ac a1 aF _ (kv (kN a4.out HB.out)) a5.out A3.out) ?_;rintro e w' ⟨rfl,⟨nd,rfl⟩⟩;refine⟨_,rfl,?_⟩))
 go_ret
 exact⟨lT,jR HB.out⟩
def uQ.f (ab:Int) (ag:Int):Option (Int×Int):=some (ab,ag)
theorem uQ.calls (ab:Int) (ag:Int) (r1:Int) (r2:Int) (w:World) (h:uQ.f ab ag=some (r1,r2)):
  Calls Try.prog 87 #[.agg #[.int .i64 ab,.int .i64 ag]] w fun e w'=>e=.returned (.agg #[.int .i64 r1,.int .i64 r2])/\Below w.heap.size w w':=by
 have dC:=Try.underlying100;have cn:=Try.underlying59;have HB:=dm (Below.refl w.heap.size w);unfold uQ.f at h;have H:=h;clear h;simp only [Option.some.injEq,Prod.mk.injEq]at H;obtain⟨rfl,rfl⟩:=H
 go_enter Try.func87,Try.ntmps87
 go_wp2_with (first|((with_reducible refine ky 1 rfl ?_);refine kS #[.int .i64 ab,.int .i64 ag] 100 ?_;intro aH hg w2 jS hb;have aB:=dm (jS);have eP:=dm (kg:w.heap.size<=aH);have eQ:=dm (kg:w.heap.size<=aH);replace HB:=jX HB hb;clear hb jS hg)|((with_reducible refine ky 2 rfl ?_);refine kS #[.int .i64 0,.int .i64 0] 59 ?_;intro aQ hg w3 jS hb;have a6:=dm (jS);have eR:=dm (kg:w.heap.size<=aQ);have eS:=dm (kg:w.heap.size<=aQ);replace HB:=jX HB hb;have b6:=dm ((by rw[hg];exact Nat.ne_of_lt (lq (g:=aH) (o:=.cells #[.int .i64 ab,.int .i64 ag] 100 (0,0)) (jZ aB.out)):aH≠aQ));have b7:=dm ((by rw[hg];exact Nat.ne_of_gt (lq (g:=aH) (o:=.cells #[.int .i64 ab,.int .i64 ag] 100 (0,0)) (jZ aB.out)):aQ≠aH));replace aB:=jU aB hb;clear hb jS hg)|((with_reducible refine ky 3 rfl ?_);refine kS #[.int .i64 0,.int .i64 0] 59 ?_;intro bj hg w4 jS hb;have dD:=dm (jS);have eT:=dm (kg:w.heap.size<=bj);have eU:=dm (kg:w.heap.size<=bj);replace HB:=jX HB hb;have b8:=dm ((by rw[hg];exact Nat.ne_of_lt (lq (g:=aH) (o:=.cells #[.int .i64 ab,.int .i64 ag] 100 (0,0)) (jZ aB.out)):aH≠bj));have b9:=dm ((by rw[hg];exact Nat.ne_of_gt (lq (g:=aH) (o:=.cells #[.int .i64 ab,.int .i64 ag] 100 (0,0)) (jZ aB.out)):bj≠aH));replace aB:=jU aB hb;have bf:=dm ((by rw[hg];exact Nat.ne_of_lt (lq (g:=aQ) (o:=.cells #[.int .i64 0,.int .i64 0] 59 (0,0)) (jZ a6.out)):aQ≠bj));have b_:=dm ((by rw[hg];exact Nat.ne_of_gt (lq (g:=aQ) (o:=.cells #[.int .i64 0,.int .i64 0] 59 (0,0)) (jZ a6.out)):bj≠aQ));replace a6:=jU a6 hb;clear hb jS hg;have fc:=b6.out;have fd:=b7.out;have dP:=b8.out;have dQ:=b9.out;have⟨eE,eF,eG,eH⟩:=ko (w:=w4) aB;have dR:=b_.out;have dS:=bf.out;have⟨ca,cd,ce,cf⟩:=ko (w:=w4) dD;have⟨bN,bO,bP,bQ⟩:=ko (w:=w4) a6))
 refine bodyPost_ret (results_cell_row rfl _ _ aQ 59 #[.int .i64 ab,.int .i64 ag] (0,0) _ rfl (lI a6.out) Try.underlying59 rfl (by kernel_rfl)) rfl ?_;exact⟨lT,jR HB.out⟩
def pK.l0:Nat->List (nu)->List (S59)->Int->Option ((List (S59)))
 |0,_,_,_=>none
 |k+1,x0,x3,x4=>if x4<(x0.length:Int) then(if 0<=x4 then((uQ.f ((tN x0 x4).f0) ((tN x0 x4).f1)).bind fun cA=>(if x4<(x3.length:Int) then(pK.l0 k x0 (x3.set (x4:Int).toNat (⟨cA.1,cA.2⟩:S59)) (wrap64 (x4+1))) else(none))) else(none)) else(some x3)
def pK.f (k:Nat) (l0:List (nu)):Option ((List (S59))):=if 0<=(l0.length:Int) then(if((l0.length:Int):Int).toNat<=17592186044416 then(pK.l0 k l0 (List.replicate ((l0.length:Int):Int).toNat z59) 0) else(none)) else(none)
theorem pK.calls (k:Nat) (A0:Option Addr) (c0:Nat) (l0:List (nu)) (r:List (S59)) (w:World) (ba:Kd.C sJ w A0 l0.length l0) (bd:l0.length<=c0) (h:pK.f k l0=some r):
  Calls Try.prog 48 #[.slice A0 l0.length c0] w fun e w'=>∃dJ:Value,e=.returned (dJ)/\Kd.R k59 59 w' w.heap.size (fun _=>True) dJ r/\Below w.heap.size w w':=by
 have dC:=Try.underlying100;have cn:=Try.underlying59;have bH:=dm ba;have df:=dm bd;clear ba bd;have HB:=dm (Below.refl w.heap.size w);unfold pK.f at h;have H:=h;clear h
 obtain⟨c2,H⟩:=mH H;have dT:=eq_true c2;have dU:=decide_eq_true c2;clear c2
 obtain⟨c3,H⟩:=mH H;have aE:=eq_true c3;have aR:=decide_eq_true c3;clear c3;obtain⟨dg,bD⟩:∃y_:List (S59),y_=(List.replicate ((l0.length:Int):Int).toNat z59):=⟨_,rfl⟩;replace H:(pK.l0 k l0 dg 0)=some r:=lC bD H
 have cD:=dm bD;clear bD;have H':=dm H;clear H
 go_enter Try.func48,Try.ntmps48
 go_wp2_with (first|((with_reducible refine ky 7 rfl ?_);refine xZ k59 _ 59 rfl (N:=7) rfl 29 _ _ rfl (l0.length:Int) rfl rfl Try.underlying29 (.agg #[(.int .i64 0),(.int .i64 0)]) 16 sH rfl (by decide) (by omega) z59 (ok:=fun _=>True) (okp:=fun _=>True) (qg _ _ _ z59) (fun _ hk=>hk) trivial jT (Nat.le_trans (Nat.mul_le_mul_right _ (of_decide_eq_true (AC):(l0.length:Int).toNat<=17592186044416)) (by omega)) (Below.refl _ _) (Nat.le_refl _) ?_;intro dV w4 cg hb hg_ kV;clear hg_ kV;(first|rw[←cD.out]at cg|(simp only [Int.reduceToNat]at cg;rw[←cD.out]at cg));have dE:=dm (kP cg (kC (jR HB.out)));replace HB:=jX HB hb;clear hb cg))
 go_loopg [4] k (fun kq v4 w'=>∃ (ax:List (S59)) (ae:Int),v4=.int .i64 ae/\jP (pK.l0 kq l0 ax ae=some r)/\jP (kq<=k)/\jP (Kd.R k59 59 w' w.heap.size (fun _=>True) dV ax)/\jP (Below w.heap.size w w'))
 case atStart=>exact⟨(dg),(0),(ku),H',⟨Nat.le_refl _⟩,⟨jV dE.out⟩,⟨jR HB.out⟩⟩
 case round=>
  clear H';(try clear dT dU aE aR);obtain⟨ax,ae,rfl,HA,bI,aO,HB⟩:=hrel;cases gk with
  |zero=>exact absurd HA.out (by simp[pK.l0])
  |succ k1=>
   have H:=HA.out;clear HA;simp only [pK.l0]at H
   replace H:=lH H;rcases H with⟨co,H⟩|⟨co,H⟩
   ·skip
    obtain⟨dh,H⟩:=kX H;obtain⟨⟨bm,bn⟩,A8,H⟩:=kR H;(try dsimp only at H)
    obtain⟨fe,H⟩:=kX H;obtain⟨cp,bE⟩:∃y_:List (S59),y_=(ax.set (ae:Int).toNat (⟨bm,bn⟩:S59)):=⟨_,rfl⟩;replace H:(pK.l0 k1 l0 cp (wrap64 (ae+1)))=some r:=lC bE H
    have dF:=dm bE;clear bE;have H':=dm H;clear H;have cq:0<=(ae:Int):=jT;have cr:ae<(l0.length:Int):=jT;obtain⟨eV,dW,bR,bS⟩:=Fe bH.out ae cq cr;cases dW;replace bR:=j4 HB bR;replace bS:=j4 HB bS;replace cq:=eq_true cq;replace cr:=eq_true cr
    go_wp2_with (first|((with_reducible refine kQ 87 rfl ?_);refine nC 20 rfl Try.func87 (uQ.calls ((tN l0 ae).f0) ((tN l0 ae).f1) bm bn _ A8.out) ?_;intro aS hb;replace aO:=kD aO hb;replace HB:=jX HB hb;(try clear hb);have di:0<=(ae:Int):=jT;have dj:(ae:Int)<((ax.length:Int):Int):=jT;obtain⟨a7,dk,dl,dn,dX,ff,dq⟩:=sQ aO.out (by omega);(first|cases dl|(injection dl with ea_ en_ ec_;(first|subst ea_|(injection ea_ with ea_;subst ea_));subst ec_;clear en_));have dr:=dm dn;have fg:=dm dq;clear dn dX dq;obtain⟨fh,dG,dt,bV,bW⟩:=uf aO.out z59 (ae:Int) di dj;obtain rfl:=uO dt;have eI:aS.cell? ⟨a7,(ae:Int).toNat*2,none⟩=some (.int .i64 ((jQ ax ae).f0)):=bV 0 _ rfl;have eJ:aS.cell? ⟨a7,(ae:Int).toNat*2+1,none⟩=some (.int .i64 ((jQ ax ae).f1)):=bV 1 _ rfl;have eK:aS.frozen? ⟨a7,(ae:Int).toNat*2,none⟩=false:=bW 0;have eL:aS.frozen? ⟨a7,(ae:Int).toNat*2+1,none⟩=false:=bW 1;clear dG bV bW;(try clear dt);replace di:=eq_true di;replace dj:=eq_true dj;have du:=dm (show Kd.R k59 59 aS w.heap.size (fun _=>True) (.slice (some ⟨a7,0,none⟩) ax.length dk) ax from(jV aO.out));obtain⟨fi,cE,dv,bK,bX⟩:=uf du.out z59 (ae:Int) jT (by have h_:(ae:Int)<((ax.length:Int):Int):=jT;first|exact h_|(have e_:=(kr aO.out).1;omega)|simpa using h_);obtain rfl:=uO dv;have ct:=yf du.out (ae:Int) jT (by have h_:(ae:Int)<((ax.length:Int):Int):=jT;first|exact h_|(have e_:=(kr aO.out).1;omega)|simpa using h_) (seg:=[.int .i64 bm,.int .i64 bn]) (j:=0) cE bK (show 2<=2 from by decide) (x':=(⟨bm,bn⟩:S59)) (qg _ _ _ (⟨bm,bn⟩:S59)) (fun _ hk=>hk);have dw:=bK 0 _ rfl;(try simp only [show(k59).sz=2 from rfl,Nat.mul_one,Nat.add_zero]at dw);have dx:=bX 0;(try simp only [show(k59).sz=2 from rfl,Nat.mul_one,Nat.add_zero]at dx);have dy:=bK 1 _ rfl;(try simp only [show(k59).sz=2 from rfl,Nat.mul_one,Nat.add_zero]at dy);have dz:=bX 1;(try simp only [show(k59).sz=2 from rfl,Nat.mul_one,Nat.add_zero]at dz);clear cE bK bX;(try clear dv))|((with_reducible refine rT (t:=59) (p:=21) rfl ?_);refine sj (t:=59) (p:=21) (v:= ?vo_w13) (w1:=((aS.setCell ⟨a7,(ae:Int).toNat*2,none⟩ (.int .i64 bm)).setCell ⟨a7,(ae:Int).toNat*2+1,none⟩ (.int .i64 bn))) ?hg ?ho ?hn ?hr ?_;(case ho=>rfl);(case hg=>rfl);(case hn=>rfl);(case hr=>first|(go_simp;done)|(go_simp;rfl));intro bT hw;have hg:aS.grownBy bT (some a7):=(by rw[hw];exact ct.2);have hp_:Kd.R k59 59 bT w.heap.size (fun _=>True) (.slice (some ⟨a7,0,none⟩) ax.length dk) cp:=(by rw[hw,dF.out];exact ct.1);clear ct;replace aO:=dm (hp_);replace HB:=dm ((by rw[hw];exact ou (ou (HB.out) dr.out) dr.out:Below w.heap.size w bT));clear hg hw hp_))
    go_roundg k1
    case measure=>have:=bI.out;omega
    case rel=>exact⟨(cp),(wrap64 (ae+1)),(ku),H',⟨by have:=bI.out;omega⟩,⟨jV aO.out⟩,⟨jR HB.out⟩⟩
   obtain rfl:=Option.some.inj H
   go_wp2
   go_ret
   exact⟨_,mW,jV aO.out,jR HB.out⟩
def qG.f (k:Nat) (ab:Int) (ac:List (nu)):Option (Int× (List (S59))):=(pK.f k ac).bind fun a8=>(some (ab,a8))
theorem qG.calls (k:Nat) (ab:Int) (ai:Option Addr) (aj:Nat) (ac:List (nu)) (r1:Int) (r2:List (S59)) (w:World) (aT:Kd.C sJ w ai ac.length ac) (aU:ac.length<=aj) (h:qG.f k ab ac=some (r1,r2)):
  Calls Try.prog 17 #[.agg #[.int .i64 ab,.slice ai ac.length aj]] w fun e w'=>∃dK:Value,e=.returned (.agg #[.int .i64 r1,dK])/\Kd.R k59 59 w' w.heap.size (fun _=>True) dK r2/\Below w.heap.size w w':=by
 have dO:=Try.underlying24;have dY:=Try.underlying31;have a4:=dm aT;have a5:=dm aU;clear aT aU;have HB:=dm (Below.refl w.heap.size w);unfold qG.f at h;have H:=h;clear h;obtain⟨a8,A2,H⟩:=kR H;(try dsimp only at H);simp only [Option.some.injEq,Prod.mk.injEq]at H;obtain⟨rfl,rfl⟩:=H
 go_enter Try.func17,Try.ntmps17
 go_wp2_with (first|((with_reducible refine ky 1 rfl ?_);refine kS #[.int .i64 ab,.slice ai ac.length aj] 24 ?_;intro aP hg w3 jS hb;have ay:=dm (jS);have eW:=dm (kg:w.heap.size<=aP);have eX:=dm (kg:w.heap.size<=aP);replace HB:=jX HB hb;clear hb jS hg)|((with_reducible refine ky 2 rfl ?_);refine kS #[.int .i64 0,.slice none 0 0] 31 ?_;intro az hg w4 jS hb;have aC:=dm (jS);have eY:=dm (kg:w.heap.size<=az);have eZ:=dm (kg:w.heap.size<=az);replace HB:=jX HB hb;have ch:=dm (Bp:aP≠az);have ci:=dm (Bq:az≠aP);replace ay:=jU ay hb;clear hb jS hg)|((with_reducible refine ky 3 rfl ?_);refine kS #[.int .i64 0,.slice none 0 0] 31 ?_;intro aV hg w5 jS hb;have bk:=dm (jS);have e2:=dm (kg:w.heap.size<=aV);have e3:=dm (kg:w.heap.size<=aV);replace HB:=jX HB hb;have bJ:=dm (Bp:aP≠aV);have cj:=dm (Bq:aV≠aP);replace ay:=jU ay hb;have bh:=dm ((by rw[hg];exact Nat.ne_of_lt (lq (g:=az) (o:=.cells #[.int .i64 0,.slice none 0 0] 31 (0,0)) (jZ aC.out)):az≠aV));have ck:=dm ((by rw[hg];exact Nat.ne_of_gt (lq (g:=az) (o:=.cells #[.int .i64 0,.slice none 0 0] 31 (0,0)) (jZ aC.out)):aV≠az));replace aC:=jU aC hb;clear hb jS hg;have dP:=ch.out;have dQ:=ci.out;have dZ:=bJ.out;have d7:=cj.out;have⟨bZ,b3,b4,b5⟩:=ko (w:=w5) ay;have fj:=ck.out;have fk:=bh.out;have⟨bN,bO,bP,bQ⟩:=ko (w:=w5) bk)|((with_reducible refine kQ 48 rfl ?_);refine lL 9 rfl Try.func48 (pK.calls k _ _ ac a8 _ (kN a4.out (jR HB.out)) a5.out A2.out) ?_;rintro e aS ⟨fm,rfl,dL,hb⟩;refine⟨_,rfl,?_⟩;have cF:=dm (kP dL (kC (jR HB.out)));replace ay:=dm (nD (g:=aP) (o:=.cells #[.int .i64 ab,.slice ai ac.length aj] 24 (0,0)) (lI ay.out) hb);replace aC:=dm (nD (g:=az) (o:=.cells #[.int .i64 0,.slice none 0 0] 31 (0,0)) (lI aC.out) hb);replace bk:=dm (nD (g:=aV) (o:=.cells #[.int .i64 ab,.slice none 0 0] 31 (0,0)) (lI bk.out) hb);replace HB:=jX HB hb;(try clear hb dL);obtain⟨cu,cv,d8⟩:=kK cF.out;subst d8;have⟨cU,cW,cX,cY⟩:=ko (w:=aS) bk;have⟨cZ,c_,db,dc⟩:=ko (w:=aS) aC))
 refine bodyPost_ret (results_cell_row rfl _ _ az 31 #[.int .i64 ab,.slice cu a8.length cv] (0,0) _ rfl (lI aC.out) Try.underlying31 rfl (by kernel_rfl)) rfl ?_;exact⟨_,mW,by(with_reducible repeat(first|apply kI|apply kJ|apply kw));exact kz (lh (p:=⟨az,1,none⟩) (lh (p:=⟨az,0,none⟩) (lh (p:=⟨aV,1,none⟩) (mr (mr cF.out bk.out (by decide)) aC.out (by decide)) (fun _ hk=>hk.1.2) (.slice cu a8.length cv)) (fun _ hk=>hk.2) (.int .i64 ab)) (fun _ hk=>hk.2) (.slice cu a8.length cv)) (fun _ hk=>trivial),jR HB.out⟩
def ut.f (ab:Int) (ag:Int) (ah:Int) (aG:Int):Option (Bool):=if ab=ah then(if ag=aG then(some true) else(some false)) else(some false)
theorem ut.calls (ab:Int) (ag:Int) (ah:Int) (aG:Int) (r:Bool) (w:World) (h:ut.f ab ag ah aG=some r):
  Calls Try.prog 91 #[.agg #[.int .i64 ab,.int .i64 ag],.agg #[.int .i64 ah,.int .i64 aG]] w fun e w'=>e=.returned (.bool r)/\Below w.heap.size w w':=by
 have cn:=Try.underlying59;have HB:=dm (Below.refl w.heap.size w);unfold ut.f at h;have H:=h;clear h
 by_cases c3:ab=ah
 ·rw[if_pos c3]at H;have aE:=beq_iff_eq.mpr c3;have aR:=bne_eq_false_iff_eq.mpr c3;clear c3
  by_cases c4:ag=aG
  ·rw[if_pos c4]at H;have bl:=beq_iff_eq.mpr c4;have d9:=bne_eq_false_iff_eq.mpr c4;clear c4;obtain rfl:=Option.some.inj H
   go_enter Try.func91,Try.ntmps91
   go_wp2_with (first|((with_reducible refine ky 2 rfl ?_);refine kS #[.int .i64 ab,.int .i64 ag] 59 ?_;intro al hg w5 jS hb;have am:=dm (jS);have cG:=dm (kg:w.heap.size<=al);have cH:=dm (kg:w.heap.size<=al);replace HB:=jX HB hb;clear hb jS hg)|((with_reducible refine ky 3 rfl ?_);refine kS #[.int .i64 ah,.int .i64 aG] 59 ?_;intro ao hg w6 jS hb;have bF:=dm (jS);have cI:=dm (kg:w.heap.size<=ao);have cJ:=dm (kg:w.heap.size<=ao);replace HB:=jX HB hb;have aK:=dm (yO:al≠ao);have aL:=dm (yP:ao≠al);replace am:=jU am hb;clear hb jS hg;have dZ:=aK.out;have d7:=aL.out;have⟨bZ,b3,b4,b5⟩:=ko (w:=w6) am;have⟨ca,cd,ce,cf⟩:=ko (w:=w6) bF))
   go_ret
   exact⟨lT,jR HB.out⟩
  rw[if_neg c4]at H;have bl:=beq_eq_false_iff_ne.mpr c4;have d9:=bne_iff_ne.mpr c4;obtain rfl:=Option.some.inj H
  go_enter Try.func91,Try.ntmps91
  go_wp2_with (first|((with_reducible refine ky 2 rfl ?_);refine kS #[.int .i64 ab,.int .i64 ag] 59 ?_;intro al hg eM jS hb;have am:=dm (jS);have cG:=dm (kg:w.heap.size<=al);have cH:=dm (kg:w.heap.size<=al);replace HB:=jX HB hb;clear hb jS hg)|((with_reducible refine ky 3 rfl ?_);refine kS #[.int .i64 ah,.int .i64 aG] 59 ?_;intro ao hg aS jS hb;have bF:=dm (jS);have cI:=dm (kg:w.heap.size<=ao);have cJ:=dm (kg:w.heap.size<=ao);replace HB:=jX HB hb;have aK:=dm (yO:al≠ao);have aL:=dm (yP:ao≠al);replace am:=jU am hb;clear hb jS hg;have e4:=aK.out;have e5:=aL.out;have⟨cU,cW,cX,cY⟩:=ko (w:=aS) am;have⟨cZ,c_,db,dc⟩:=ko (w:=aS) bF))
  go_ret
  exact⟨lT,jR HB.out⟩
 rw[if_neg c3]at H;have aE:=beq_eq_false_iff_ne.mpr c3;have aR:=bne_iff_ne.mpr c3;obtain rfl:=Option.some.inj H
 go_enter Try.func91,Try.ntmps91
 go_wp2_with (first|((with_reducible refine ky 2 rfl ?_);refine kS #[.int .i64 ab,.int .i64 ag] 59 ?_;intro al hg fo jS hb;have am:=dm (jS);have cG:=dm (kg:w.heap.size<=al);have cH:=dm (kg:w.heap.size<=al);replace HB:=jX HB hb;clear hb jS hg)|((with_reducible refine ky 3 rfl ?_);refine kS #[.int .i64 ah,.int .i64 aG] 59 ?_;intro ao hg dM jS hb;have bF:=dm (jS);have cI:=dm (kg:w.heap.size<=ao);have cJ:=dm (kg:w.heap.size<=ao);replace HB:=jX HB hb;have aK:=dm (yO:al≠ao);have aL:=dm (yP:ao≠al);replace am:=jU am hb;clear hb jS hg;have e6:=aK.out;have e7:=aL.out;have⟨eb,ec,ed,ee⟩:=ko (w:=dM) am;have⟨ef,eg,eh,ei⟩:=ko (w:=dM) bF))
 go_ret
 exact⟨lT,jR HB.out⟩
def nS.l0:Nat->List (S59)->List (S59)->Int->Option (Bool)
 |0,_,_,_=>none
 |k+1,x0,x1,x5=>if x5<(x0.length:Int) then(if 0<=x5 then(if x5<(x1.length:Int) then((ut.f ((jQ x0 x5).f0) ((jQ x0 x5).f1) ((jQ x1 x5).f0) ((jQ x1 x5).f1)).bind fun bY=>(if bY=true then(nS.l0 k x0 x1 (wrap64 (x5+1))) else(some false))) else(none)) else(none)) else(some true)
def nS.f (k:Nat) (l0:List (S59)) (l1:List (S59)):Option (Bool):=if(l0.length:Int)=(l1.length:Int) then(nS.l0 k l0 l1 0) else(some false)
def nS.T6:Bool×List (List Nat×List Nat):=(true,[([],[]),([],[]),([0,1],[0,1]),([2],[2]),([],[]),([],[]),([4,5],[4,5]),([6],[6]),([3,7],[3,7]),([8],[8])])
def nS.B6:List Nat:=[0,0,3,7,0,0,48,112,255,511]
theorem nS.Ec:mi .any (opsOf Try.f55 6)=nS.T6:=by kernel_rfl
theorem nS.AQ:nY nS.T6.2 nS.B6=true:=by kernel_rfl
theorem nS.calls (k:Nat) (A0:Option Addr) (c0:Nat) (l0:List (S59)) (A1:Option Addr) (c1:Nat) (l1:List (S59)) (r:Bool) (w:World) (ba:Kd.C k59 w A0 l0.length l0) (bd:l0.length<=c0) (hr1:Kd.C k59 w A1 l1.length l1) (cl:l1.length<=c1) (h:nS.f k l0 l1=some r):
  Calls Try.prog 55 #[.slice A0 l0.length c0,.slice A1 l1.length c1] w fun e w'=>e=.returned (.bool r)/\Below w.heap.size w w':=by
 have cn:=Try.underlying59;have bH:=dm ba;have df:=dm bd;clear ba bd;have cm:=dm hr1;have eN:=dm cl;clear hr1 cl;have HB:=dm (Below.refl w.heap.size w);unfold nS.f at h;have H:=h;clear h
 by_cases c3:(l0.length:Int)=(l1.length:Int);rotate_left
 ·rw[if_neg c3]at H;have aE:=beq_eq_false_iff_ne.mpr c3;have aR:=bne_iff_ne.mpr c3;have bM:(l0.length==l1.length)=false:=by first|simpa using c3|(simp at c3⊢;omega)
  obtain rfl:=Option.some.inj H
  go_enter Try.func55,Try.ntmps55
  go_wp2
  go_ret
  exact⟨lT,jR HB.out⟩
 rw[if_pos c3]at H;have aE:=beq_iff_eq.mpr c3;have aR:=bne_eq_false_iff_eq.mpr c3;have bM:(l0.length==l1.length)=true:=by first|simpa using c3|(simp at c3⊢;omega)
 clear c3;have H':=dm H;clear H
 go_enter Try.func55,Try.ntmps55
 go_wp2
 go_loopg [5] k (fun kq v5 w'=>∃ (aa:Int),v5=.int .i64 aa/\jP (nS.l0 kq l0 l1 aa=some r)/\jP (kq<=k)/\jP (Below w.heap.size w w'))
 case atStart=>exact⟨(0),(ku),H',⟨Nat.le_refl _⟩,⟨jR HB.out⟩⟩
 case round=>
  clear H';(try clear aE aR bM);obtain⟨aa,rfl,HA,bI,HB⟩:=hrel;cases gk with
  |zero=>exact absurd HA.out (by simp[nS.l0])
  |succ k1=>
   have H:=HA.out;clear HA;simp only [nS.l0]at H
   replace H:=lH H;rcases H with⟨bl,H⟩|⟨bl,H⟩
   ·skip
    obtain⟨d_,H⟩:=kX H
    obtain⟨co,H⟩:=kX H;obtain⟨bY,A7,H⟩:=kR H;(try dsimp only at H)
    rcases lV H with⟨h_,H_⟩|⟨h_,H_⟩<;> (subst h_;clear H;have H:=H_;clear H_)
    ·have H':=dm H;clear H;try go_wp2
     replace HB:=dm (mg HB.out);have bo:0<=(aa:Int):=jT;have bp:aa<(l0.length:Int):=jT;obtain⟨a9,cw,aq,au⟩:=l7 bH.out aa bo bp;have aW:=au;have aX:=aq;cases cw;replace aq:=j4 HB aq;replace au:=j4 HB au;replace bo:=eq_true bo;replace bp:=eq_true bp;have bq:0<=(aa:Int):=jT;have br:aa<(l1.length:Int):=jT;obtain⟨a_,cx,av,aw⟩:=l7 cm.out aa bq br;have aY:=aw;have aZ:=av;cases cx;replace av:=j4 HB av;replace aw:=j4 HB aw;replace bq:=eq_true bq;replace br:=eq_true br;refine nk 10 (S:=fun w'=>w'.cell? (a9.add ((aa).toNat*2))=some (.int .i64 ((jQ l0 aa).f0))/\w'.cell? ⟨(a9.add ((aa).toNat*2)).block,(a9.add ((aa).toNat*2)).off+1,none⟩=some (.int .i64 ((jQ l0 aa).f1))/\w'.cell? (a_.add ((aa).toNat*2))=some (.int .i64 ((jQ l1 aa).f0))/\w'.cell? ⟨(a_.add ((aa).toNat*2)).block,(a_.add ((aa).toNat*2)).off+1,none⟩=some (.int .i64 ((jQ l1 aa).f1))) [] ⟨(j4 HB aX),(j4 HB aW),(j4 HB aZ),(j4 HB aY)⟩ nS.Ec nS.AQ (fun hHeld HT_ HW_=>?_);generalize wr.drew=w9 at HB aq au av aw hHeld⊢;refine jW 0 17 1 ?_;refine jW 1 18 3 ?_;refine jW 2 19 7 ?_;refine jW 4 21 23 ?_;refine jW 5 22 55 ?_;refine jW 6 23 119 ?_;refine kL 3 20 127 ?_;refine kL 7 24 255 ?_;refine l6 8 25 511 (fun K hK=>?_);refine qy Try.func91 (ut.calls ((jQ l0 aa).f0) ((jQ l0 aa).f1) ((jQ l1 aa).f0) ((jQ l1 aa).f1) true _ A7.out) ?_;intro eM hb;replace HB:=jX HB hb;(try clear hb);refine hK.out _ _ ⟨(j4 HB aX),(j4 HB aW),(j4 HB aZ),(j4 HB aY)⟩ (fun hHeld=>?_);clear hK K;refine ll 25 ?_;refine jW 9 26 1023 ?_;refine mD (mV HT_.out (by kernel_rfl)) ?_;try go_wp2
     go_roundg k1
     case measure=>have:=bI.out;omega
     case rel=>exact⟨(wrap64 (aa+1)),(ku),H',⟨by have:=bI.out;omega⟩,⟨jR HB.out⟩⟩
    obtain rfl:=Option.some.inj H;try go_wp2
    replace HB:=dm (mg HB.out);have bo:0<=(aa:Int):=jT;have bp:aa<(l0.length:Int):=jT;obtain⟨a9,cw,aq,au⟩:=l7 bH.out aa bo bp;have aW:=au;have aX:=aq;cases cw;replace aq:=j4 HB aq;replace au:=j4 HB au;replace bo:=eq_true bo;replace bp:=eq_true bp;have bq:0<=(aa:Int):=jT;have br:aa<(l1.length:Int):=jT;obtain⟨a_,cx,av,aw⟩:=l7 cm.out aa bq br;have aY:=aw;have aZ:=av;cases cx;replace av:=j4 HB av;replace aw:=j4 HB aw;replace bq:=eq_true bq;replace br:=eq_true br;refine nk 10 (S:=fun w'=>w'.cell? (a9.add ((aa).toNat*2))=some (.int .i64 ((jQ l0 aa).f0))/\w'.cell? ⟨(a9.add ((aa).toNat*2)).block,(a9.add ((aa).toNat*2)).off+1,none⟩=some (.int .i64 ((jQ l0 aa).f1))/\w'.cell? (a_.add ((aa).toNat*2))=some (.int .i64 ((jQ l1 aa).f0))/\w'.cell? ⟨(a_.add ((aa).toNat*2)).block,(a_.add ((aa).toNat*2)).off+1,none⟩=some (.int .i64 ((jQ l1 aa).f1))) [] ⟨(j4 HB aX),(j4 HB aW),(j4 HB aZ),(j4 HB aY)⟩ nS.Ec nS.AQ (fun hHeld HT_ HW_=>?_);generalize wr.drew=aS at HB aq au av aw hHeld⊢;refine jW 0 17 1 ?_;refine jW 1 18 3 ?_;refine jW 2 19 7 ?_;refine jW 4 21 23 ?_;refine jW 5 22 55 ?_;refine jW 6 23 119 ?_;refine kL 3 20 127 ?_;refine kL 7 24 255 ?_;refine l6 8 25 511 (fun K hK=>?_);refine qy Try.func91 (ut.calls ((jQ l0 aa).f0) ((jQ l0 aa).f1) ((jQ l1 aa).f0) ((jQ l1 aa).f1) false _ A7.out) ?_;intro eO hb;replace HB:=jX HB hb;(try clear hb);refine hK.out _ _ ⟨(j4 HB aX),(j4 HB aW),(j4 HB aZ),(j4 HB aY)⟩ (fun hHeld=>?_);clear hK K;refine ll 25 ?_;refine jW 9 26 1023 ?_;refine mD (mV HT_.out (by kernel_rfl)) ?_;try go_wp2
    go_ret
    exact⟨lT,jR HB.out⟩
   obtain rfl:=Option.some.inj H
   go_wp2
   go_ret
   exact⟨lT,jR HB.out⟩
def tF.f (k:Nat) (ab:Int) (ac:List (S59)) (ah:Int) (aA:List (S59)):Option (Bool):=if ab=ah then((nS.f k ac aA).bind fun bG=>(if bG=true then(some true) else(some false))) else(some false)
theorem tF.calls (k:Nat) (ab:Int) (ai:Option Addr) (aj:Nat) (ac:List (S59)) (ah:Int) (bu:Option Addr) (bv:Nat) (aA:List (S59)) (r:Bool) (w:World) (aT:Kd.C k59 w ai ac.length ac) (aU:ac.length<=aj) (cL:Kd.C k59 w bu aA.length aA) (cM:aA.length<=bv) (h:tF.f k ab ac ah aA=some r):
  Calls Try.prog 20 #[.agg #[.int .i64 ab,.slice ai ac.length aj],.agg #[.int .i64 ah,.slice bu aA.length bv]] w fun e w'=>e=.returned (.bool r)/\Below w.heap.size w w':=by
 have dY:=Try.underlying31;have a4:=dm aT;have a5:=dm aU;clear aT aU;have cN:=dm cL;have cO:=dm cM;clear cL cM;have HB:=dm (Below.refl w.heap.size w);unfold tF.f at h;have H:=h;clear h
 by_cases c3:ab=ah
 ·rw[if_pos c3]at H;have aE:=beq_iff_eq.mpr c3;have aR:=bne_eq_false_iff_eq.mpr c3;clear c3;obtain⟨bG,A4,H⟩:=kR H;(try dsimp only at H)
  rcases lV H with⟨h_,H_⟩|⟨h_,H_⟩<;> (subst h_;clear H;have H:=H_;clear H_)
  ·obtain rfl:=Option.some.inj H
   go_enter Try.func20,Try.ntmps20
   go_wp2_with (first|((with_reducible refine ky 2 rfl ?_);refine kS #[.int .i64 ab,.slice ai ac.length aj] 31 ?_;intro ak hg w6 jS hb;have af:=dm (jS);have cP:=dm (kg:w.heap.size<=ak);have cQ:=dm (kg:w.heap.size<=ak);replace HB:=jX HB hb;clear hb jS hg)|((with_reducible refine ky 3 rfl ?_);refine kS #[.int .i64 ah,.slice bu aA.length bv] 31 ?_;intro ap hg w7 jS hb;have aD:=dm (jS);have cS:=dm (kg:w.heap.size<=ap);have cT:=dm (kg:w.heap.size<=ap);replace HB:=jX HB hb;have aM:=dm (yM:ak≠ap);have aN:=dm (yN:ap≠ak);replace af:=jU af hb;clear hb jS hg;have dR:=aM.out;have dS:=aN.out;have⟨ca,cd,ce,cf⟩:=ko (w:=w7) af;have⟨bN,bO,bP,bQ⟩:=ko (w:=w7) aD)|((with_reducible refine kQ 55 rfl ?_);refine nC 14 rfl Try.func55 (nS.calls k _ _ ac _ _ aA true _ (kv (kN a4.out HB.out)) a5.out (kv (kN cN.out HB.out)) cO.out A4.out) ?_;intro aS hb;replace af:=jU af hb;replace aD:=jU aD hb;replace HB:=jX HB hb;(try clear hb)))
   go_ret
   exact⟨lT,jR HB.out⟩
  obtain rfl:=Option.some.inj H
  go_enter Try.func20,Try.ntmps20
  go_wp2_with (first|((with_reducible refine ky 2 rfl ?_);refine kS #[.int .i64 ab,.slice ai ac.length aj] 31 ?_;intro ak hg eO jS hb;have af:=dm (jS);have cP:=dm (kg:w.heap.size<=ak);have cQ:=dm (kg:w.heap.size<=ak);replace HB:=jX HB hb;clear hb jS hg)|((with_reducible refine ky 3 rfl ?_);refine kS #[.int .i64 ah,.slice bu aA.length bv] 31 ?_;intro ap hg bT jS hb;have aD:=dm (jS);have cS:=dm (kg:w.heap.size<=ap);have cT:=dm (kg:w.heap.size<=ap);replace HB:=jX HB hb;have aM:=dm (yM:ak≠ap);have aN:=dm (yN:ap≠ak);replace af:=jU af hb;clear hb jS hg;have e8:=aM.out;have e9:=aN.out;have⟨ej,ek,el,em⟩:=ko (w:=bT) af;have⟨en,eo,ep,eq⟩:=ko (w:=bT) aD)|((with_reducible refine kQ 55 rfl ?_);refine nC 14 rfl Try.func55 (nS.calls k _ _ ac _ _ aA false _ (kv (kN a4.out HB.out)) a5.out (kv (kN cN.out HB.out)) cO.out A4.out) ?_;intro fp hb;replace af:=jU af hb;replace aD:=jU aD hb;replace HB:=jX HB hb;(try clear hb)))
  go_ret
  exact⟨lT,jR HB.out⟩
 rw[if_neg c3]at H;have aE:=beq_eq_false_iff_ne.mpr c3;have aR:=bne_iff_ne.mpr c3;obtain rfl:=Option.some.inj H
 go_enter Try.func20,Try.ntmps20
 go_wp2_with (first|((with_reducible refine ky 2 rfl ?_);refine kS #[.int .i64 ab,.slice ai ac.length aj] 31 ?_;intro ak hg fq jS hb;have af:=dm (jS);have cP:=dm (kg:w.heap.size<=ak);have cQ:=dm (kg:w.heap.size<=ak);replace HB:=jX HB hb;clear hb jS hg)|((with_reducible refine ky 3 rfl ?_);refine kS #[.int .i64 ah,.slice bu aA.length bv] 31 ?_;intro ap hg dN jS hb;have aD:=dm (jS);have cS:=dm (kg:w.heap.size<=ap);have cT:=dm (kg:w.heap.size<=ap);replace HB:=jX HB hb;have aM:=dm (yM:ak≠ap);have aN:=dm (yN:ap≠ak);replace af:=jU af hb;clear hb jS hg;have fa:=aM.out;have fb:=aN.out;have⟨es,et,eu,ev⟩:=ko (w:=dN) af;have⟨ew,ex,ey,ez⟩:=ko (w:=dN) aD))
 go_ret
 exact⟨lT,jR HB.out⟩
def oO.l0:Nat->List Int->List Int->Int->Option (Bool)
 |0,_,_,_=>none
 |k+1,x0,x1,x5=>if x5<(x0.length:Int) then(if 0<=x5 then(if x5<(x1.length:Int) then(if(rd x0 x5)=(rd x1 x5) then(oO.l0 k x0 x1 (wrap64 (x5+1))) else(some false)) else(none)) else(none)) else(some true)
def oO.f (k:Nat) (l0:List Int) (l1:List Int):Option (Bool):=if(l0.length:Int)=(l1.length:Int) then(oO.l0 k l0 l1 0) else(some false)
theorem oO.calls (k:Nat) (A0:Option Addr) (c0:Nat) (l0:List Int) (A1:Option Addr) (c1:Nat) (l1:List Int) (r:Bool) (w:World) (ba:Kd.C (Kd.int .i64) w A0 l0.length l0) (bd:l0.length<=c0) (hr1:Kd.C (Kd.int .i64) w A1 l1.length l1) (cl:l1.length<=c1) (h:oO.f k l0 l1=some r):
  Calls Try.prog 56 #[.slice A0 l0.length c0,.slice A1 l1.length c1] w fun e w'=>e=.returned (.bool r)/\kG w w':=by
 have bH:=dm ba;have df:=dm bd;clear ba bd;have cm:=dm hr1;have eN:=dm cl;clear hr1 cl;unfold oO.f at h;have H:=h;clear h
 by_cases c3:(l0.length:Int)=(l1.length:Int);rotate_left
 ·rw[if_neg c3]at H;have aE:=beq_eq_false_iff_ne.mpr c3;have aR:=bne_iff_ne.mpr c3;have bM:(l0.length==l1.length)=false:=by first|simpa using c3|(simp at c3⊢;omega)
  obtain rfl:=Option.some.inj H
  go_enter Try.func56,Try.ntmps56
  go_wp2
  repeat(go_quiet (fail);try go_wp2)
  go_ret
  exact⟨ku,by repeat(first|exact kG.refl _|apply kG.step)⟩
 rw[if_pos c3]at H;have aE:=beq_iff_eq.mpr c3;have aR:=bne_eq_false_iff_eq.mpr c3;have bM:(l0.length==l1.length)=true:=by first|simpa using c3|(simp at c3⊢;omega)
 clear c3;have H':=dm H;clear H
 go_enter Try.func56,Try.ntmps56
 go_wp2
 repeat(go_quiet (fail);try go_wp2)
 go_loopg [5] k (fun kq v5 w'=>∃ (aa:Int),v5=.int .i64 aa/\jP (oO.l0 kq l0 l1 aa=some r)/\jP (kq<=k)/\kG w w')
 case atStart=>exact⟨(0),(ku),H',⟨Nat.le_refl _⟩,by repeat(first|exact kG.refl _|apply kG.step)⟩
 case round=>
  clear H';(try clear aE aR bM);obtain⟨aa,rfl,HA,bI,⟨m1,rfl⟩⟩:=hrel;cases gk with
  |zero=>exact absurd HA.out (by simp[oO.l0])
  |succ k1=>
   have H:=HA.out;clear HA;simp only [oO.l0]at H
   replace H:=lH H;rcases H with⟨bl,H⟩|⟨bl,H⟩
   ·skip
    obtain⟨d_,H⟩:=kX H
    obtain⟨co,H⟩:=kX H
    by_cases c7:(rd l0 aa)=(rd l1 aa)
    ·rw[if_pos c7]at H;have dh:=beq_iff_eq.mpr c7;have ea:=bne_eq_false_iff_eq.mpr c7;clear c7;have H':=dm H;clear H;have bx:0<=(aa:Int):=jT;have bz:aa<(l0.length:Int):=jT;obtain⟨dH,cy,dd⟩:=kZ bH.out aa bx bz;cases cy;replace bx:=eq_true bx;replace bz:=eq_true bz;have bA:0<=(aa:Int):=jT;have bB:aa<(l1.length:Int):=jT;obtain⟨dI,cz,de⟩:=kZ cm.out aa bA bB;cases cz;replace bA:=eq_true bA;replace bB:=eq_true bB
     go_wp2
     repeat(go_quiet (fail);try go_wp2)
     go_roundg k1
     case measure=>have:=bI.out;omega
     case rel=>exact⟨(wrap64 (aa+1)),(ku),H',⟨by have:=bI.out;omega⟩,by repeat(first|exact kG.refl _|apply kG.step)⟩
    rw[if_neg c7]at H;have dh:=beq_eq_false_iff_ne.mpr c7;have ea:=bne_iff_ne.mpr c7;obtain rfl:=Option.some.inj H;have bx:0<=(aa:Int):=jT;have bz:aa<(l0.length:Int):=jT;obtain⟨dH,cy,dd⟩:=kZ bH.out aa bx bz;cases cy;replace bx:=eq_true bx;replace bz:=eq_true bz;have bA:0<=(aa:Int):=jT;have bB:aa<(l1.length:Int):=jT;obtain⟨dI,cz,de⟩:=kZ cm.out aa bA bB;cases cz;replace bA:=eq_true bA;replace bB:=eq_true bB
    go_wp2
    repeat(go_quiet (fail);try go_wp2)
    go_ret
    exact⟨ku,by repeat(first|exact kG.refl _|apply kG.step)⟩
   obtain rfl:=Option.some.inj H
   go_wp2
   repeat(go_quiet (fail);try go_wp2)
   go_ret
   exact⟨ku,by repeat(first|exact kG.refl _|apply kG.step)⟩
theorem yQ(h:p:=by rw[hg];exact Nat.ne_of_lt (lq (g:=ab) (o:=.cells #[.int .i64 ae,.int .i64 ao] 59 (0,0)) (jZ ac.out))):p:=h
theorem yR(h:p:=by rw[hg];exact Nat.ne_of_gt (lq (g:=ab) (o:=.cells #[.int .i64 ae,.int .i64 ao] 59 (0,0)) (jZ ac.out))):p:=h
def oD.l0:Nat->List (List Int)->List (List Int)->Int->Option (Bool)
 |0,_,_,_=>none
 |k+1,x0,x1,x5=>if x5<(x0.length:Int) then(if 0<=x5 then(if x5<(x1.length:Int) then((oO.f k (mQ x0 x5) (mQ x1 x5)).bind fun aC=>(if aC=true then(oD.l0 k x0 x1 (wrap64 (x5+1))) else(some false))) else(none)) else(none)) else(some true)
def oD.f (k:Nat) (l0:List (List Int)) (l1:List (List Int)):Option (Bool):=if(l0.length:Int)=(l1.length:Int) then(oD.l0 k l0 l1 0) else(some false)
theorem oD.calls (k:Nat) (A0:Option Addr) (c0:Nat) (l0:List (List Int)) (A1:Option Addr) (c1:Nat) (l1:List (List Int)) (r:Bool) (w:World) (aX:Kd.C (Kd.slice 3 (Kd.int .i64)) w A0 l0.length l0) (aY:l0.length<=c0) (hr1:Kd.C (Kd.slice 3 (Kd.int .i64)) w A1 l1.length l1) (aZ:l1.length<=c1) (h:oD.f k l0 l1=some r):
  Calls Try.prog 21 #[.slice A0 l0.length c0,.slice A1 l1.length c1] w fun e w'=>e=.returned (.bool r)/\kG w w':=by
 have a3:=dm aX;have bP:=dm aY;clear aX aY;have a4:=dm hr1;have bQ:=dm aZ;clear hr1 aZ;unfold oD.f at h;have H:=h;clear h
 by_cases c3:(l0.length:Int)=(l1.length:Int);rotate_left
 ·rw[if_neg c3]at H;have aD:=beq_eq_false_iff_ne.mpr c3;have aP:=bne_iff_ne.mpr c3;have aQ:(l0.length==l1.length)=false:=by first|simpa using c3|(simp at c3⊢;omega)
  obtain rfl:=Option.some.inj H
  go_enter Try.func21,Try.ntmps21
  go_wp2
  repeat(go_quiet (fail);try go_wp2)
  go_ret
  exact⟨ku,by repeat(first|exact kG.refl _|apply kG.step)⟩
 rw[if_pos c3]at H;have aD:=beq_iff_eq.mpr c3;have aP:=bne_eq_false_iff_eq.mpr c3;have aQ:(l0.length==l1.length)=true:=by first|simpa using c3|(simp at c3⊢;omega)
 clear c3;have H':=dm H;clear H
 go_enter Try.func21,Try.ntmps21
 go_wp2
 repeat(go_quiet (fail);try go_wp2)
 go_loopg [5] k (fun kq v5 w'=>∃ (aa:Int),v5=.int .i64 aa/\jP (oD.l0 kq l0 l1 aa=some r)/\jP (kq<=k)/\kG w w')
 case atStart=>exact⟨(0),(ku),H',⟨Nat.le_refl _⟩,by repeat(first|exact kG.refl _|apply kG.step)⟩
 case round=>
  clear H';(try clear aD aP aQ);obtain⟨aa,rfl,HA,a5,⟨m1,rfl⟩⟩:=hrel;cases gk with
  |zero=>exact absurd HA.out (by simp[oD.l0])
  |succ k1=>
   have H:=HA.out;clear HA;simp only [oD.l0]at H
   replace H:=lH H;rcases H with⟨aF,H⟩|⟨aF,H⟩
   ·skip
    obtain⟨bK,H⟩:=kX H
    obtain⟨bL,H⟩:=kX H;obtain⟨aC,A7,H⟩:=kR H;(try dsimp only at H)
    rcases lV H with⟨h_,H_⟩|⟨h_,H_⟩<;> (subst h_;clear H;have H:=H_;clear H_)
    ·have H':=dm H;clear H;have ax:0<=(aa:Int):=jT;have ay:aa<(l0.length:Int):=jT;obtain⟨aV,aR,aS,aG,aN,ap,aq⟩:=uF a3.out aa ax ay;cases aG;have ah:=dm aq;have ai:=dm ap;clear aq ap;replace ax:=eq_true ax;replace ay:=eq_true ay;have az:0<=(aa:Int):=jT;have aA:aa<(l1.length:Int):=jT;obtain⟨aW,aT,aU,aH,aO,au,av⟩:=uF a4.out aa az aA;cases aH;have aj:=dm av;have ak:=dm au;clear av au;replace az:=eq_true az;replace aA:=eq_true aA
     go_wp2_with (first|(go_at_call 56;refine(oO.calls k1 _ _ (mQ l0 aa) _ _ (mQ l1 aa) true _ (kv ah.out) ai.out (kv aj.out) ak.out A7.out).mono ?_;rintro e w' ⟨rfl,⟨nd,rfl⟩⟩;(try first|exact⟨rfl,_,World.drewN_drewN _ _ _⟩|exact⟨rfl,_,Eq.trans (World.drewN_drewN _ _ _) (congrArg (World.drewN _) (Nat.add_assoc _ _ _))⟩)))
     repeat(go_quiet (first|(go_at_call 56;(with_reducible refine(oO.calls k1 _ _ (mQ l0 aa) _ _ (mQ l1 aa) true _ ?lu ?lv ?oH ?oI A7.out).mono ?_);(case lu=>exact kv ah.out);(case lv=>exact ai.out);(case oH=>exact kv aj.out);(case oI=>exact ak.out);rintro e w' ⟨rfl,⟨nd,rfl⟩⟩;(try first|exact⟨rfl,_,World.drewN_drewN _ _ _⟩|exact⟨rfl,_,Eq.trans (World.drewN_drewN _ _ _) (congrArg (World.drewN _) (Nat.add_assoc _ _ _))⟩)));try go_wp2_with (first|(go_at_call 56;(with_reducible refine(oO.calls k1 _ _ (mQ l0 aa) _ _ (mQ l1 aa) true _ ?lu ?lv ?oH ?oI A7.out).mono ?_);(case lu=>exact kv ah.out);(case lv=>exact ai.out);(case oH=>exact kv aj.out);(case oI=>exact ak.out);rintro e w' ⟨rfl,⟨nd,rfl⟩⟩;(try first|exact⟨rfl,_,World.drewN_drewN _ _ _⟩|exact⟨rfl,_,Eq.trans (World.drewN_drewN _ _ _) (congrArg (World.drewN _) (Nat.add_assoc _ _ _))⟩))))
     go_roundg k1
     case measure=>have:=a5.out;omega
     case rel=>exact⟨(wrap64 (aa+1)),(ku),H',⟨by have:=a5.out;omega⟩,by repeat(first|exact kG.refl _|apply kG.step)⟩
    obtain rfl:=Option.some.inj H;have ax:0<=(aa:Int):=jT;have ay:aa<(l0.length:Int):=jT;obtain⟨aV,aR,aS,aG,aN,ap,aq⟩:=uF a3.out aa ax ay;cases aG;have ah:=dm aq;have ai:=dm ap;clear aq ap;replace ax:=eq_true ax;replace ay:=eq_true ay;have az:0<=(aa:Int):=jT;have aA:aa<(l1.length:Int):=jT;obtain⟨aW,aT,aU,aH,aO,au,av⟩:=uF a4.out aa az aA;cases aH;have aj:=dm av;have ak:=dm au;clear av au;replace az:=eq_true az;replace aA:=eq_true aA
    go_wp2_with (first|(go_at_call 56;refine(oO.calls k1 _ _ (mQ l0 aa) _ _ (mQ l1 aa) false _ (kv ah.out) ai.out (kv aj.out) ak.out A7.out).mono ?_;rintro e w' ⟨rfl,⟨nd,rfl⟩⟩;(try first|exact⟨rfl,_,World.drewN_drewN _ _ _⟩|exact⟨rfl,_,Eq.trans (World.drewN_drewN _ _ _) (congrArg (World.drewN _) (Nat.add_assoc _ _ _))⟩)))
    repeat(go_quiet (first|(go_at_call 56;(with_reducible refine(oO.calls k1 _ _ (mQ l0 aa) _ _ (mQ l1 aa) false _ ?lu ?lv ?oH ?oI A7.out).mono ?_);(case lu=>exact kv ah.out);(case lv=>exact ai.out);(case oH=>exact kv aj.out);(case oI=>exact ak.out);rintro e w' ⟨rfl,⟨nd,rfl⟩⟩;(try first|exact⟨rfl,_,World.drewN_drewN _ _ _⟩|exact⟨rfl,_,Eq.trans (World.drewN_drewN _ _ _) (congrArg (World.drewN _) (Nat.add_assoc _ _ _))⟩)));try go_wp2_with (first|(go_at_call 56;(with_reducible refine(oO.calls k1 _ _ (mQ l0 aa) _ _ (mQ l1 aa) false _ ?lu ?lv ?oH ?oI A7.out).mono ?_);(case lu=>exact kv ah.out);(case lv=>exact ai.out);(case oH=>exact kv aj.out);(case oI=>exact ak.out);rintro e w' ⟨rfl,⟨nd,rfl⟩⟩;(try first|exact⟨rfl,_,World.drewN_drewN _ _ _⟩|exact⟨rfl,_,Eq.trans (World.drewN_drewN _ _ _) (congrArg (World.drewN _) (Nat.add_assoc _ _ _))⟩))))
    go_ret
    exact⟨ku,by repeat(first|exact kG.refl _|apply kG.step)⟩
   obtain rfl:=Option.some.inj H
   go_wp2
   repeat(go_quiet (fail);try go_wp2)
   go_ret
   exact⟨ku,by repeat(first|exact kG.refl _|apply kG.step)⟩
def oV.f (a0:Int) (a1:Int) (a2:Int):Option (Bool):=if a0>=a1 then(some (decide (a0<=a2))) else(some false)
theorem oV.calls {a0:Int}{a1:Int}{a2:Int}{r:Bool}{w:World}(h:oV.f a0 a1 a2=some r):
  Calls Try.prog 75 #[.int .i64 a0,.int .i64 a1,.int .i64 a2] w fun e w'=>e=.returned (.bool r)/\kG w w':=by
 unfold oV.f at h;have H:=h;clear h
 replace H:=lH H;rcases H with⟨aF,H⟩|⟨aF,H⟩
 ·obtain rfl:=Option.some.inj H
  go_enter Try.func75,Try.ntmps75
  go_wp2
  go_ret
  exact⟨ku,by repeat(first|exact kG.refl _|apply kG.step)⟩
 obtain rfl:=Option.some.inj H
 go_enter Try.func75,Try.ntmps75
 go_wp2
 go_ret
 exact⟨ku,by repeat(first|exact kG.refl _|apply kG.step)⟩
def sP.f (ae:Int) (ao:Int) (af:Int) (aw:Int):Option (Bool):=if ae<af then(some true) else(if ae=af then(some (decide (ao<aw))) else(some false))
theorem sP.calls {ae:Int}{ao:Int}{af:Int}{aw:Int}{r:Bool}{w:World}(h:sP.f ae ao af aw=some r):
  Calls Try.prog 76 #[.agg #[.int .i64 ae,.int .i64 ao],.agg #[.int .i64 af,.int .i64 aw]] w fun e w'=>e=.returned (.bool r)/\Below w.heap.size w w':=by
 have bM:=Try.underlying59;have HB:=dm (Below.refl w.heap.size w);unfold sP.f at h;have H:=h;clear h
 replace H:=lH H;rcases H with⟨aD,H⟩|⟨aD,H⟩
 ·obtain rfl:=Option.some.inj H
  go_enter Try.func76,Try.ntmps76
  go_wp2_with (first|((with_reducible refine ky 2 rfl ?_);refine kS #[.int .i64 ae,.int .i64 ao] 59 ?_;intro ab hg w4 jS hb;have ac:=dm (jS);have aI:=dm (kg:w.heap.size<=ab);have aK:=dm (kg:w.heap.size<=ab);replace HB:=jX HB hb;clear hb jS hg)|((with_reducible refine ky 3 rfl ?_);refine kS #[.int .i64 af,.int .i64 aw] 59 ?_;intro ag hg w5 jS hb;have aB:=dm (jS);have aL:=dm (kg:w.heap.size<=ag);have aM:=dm (kg:w.heap.size<=ag);replace HB:=jX HB hb;have al:=dm (yQ:ab≠ag);have am:=dm (yR:ag≠ab);replace ac:=jU ac hb;clear hb jS hg;have bN:=al.out;have bO:=am.out;have⟨bx,bz,bA,bB⟩:=ko (w:=w5) ac;have⟨bC,bD,bE,bF⟩:=ko (w:=w5) aB))
  go_ret
  exact⟨lT,jR HB.out⟩
 skip
 by_cases c9:ae=af
 ·rw[if_pos c9]at H;have a8:=beq_iff_eq.mpr c9;have a9:=bne_eq_false_iff_eq.mpr c9;clear c9;obtain rfl:=Option.some.inj H
  go_enter Try.func76,Try.ntmps76
  go_wp2_with (first|((with_reducible refine ky 2 rfl ?_);refine kS #[.int .i64 ae,.int .i64 ao] 59 ?_;intro ab hg bR jS hb;have ac:=dm (jS);have aI:=dm (kg:w.heap.size<=ab);have aK:=dm (kg:w.heap.size<=ab);replace HB:=jX HB hb;clear hb jS hg)|((with_reducible refine ky 3 rfl ?_);refine kS #[.int .i64 af,.int .i64 aw] 59 ?_;intro ag hg a6 jS hb;have aB:=dm (jS);have aL:=dm (kg:w.heap.size<=ag);have aM:=dm (kg:w.heap.size<=ag);replace HB:=jX HB hb;have al:=dm (yQ:ab≠ag);have am:=dm (yR:ag≠ab);replace ac:=jU ac hb;clear hb jS hg;have bG:=al.out;have bH:=am.out;have⟨a_,ba,bd,bf⟩:=ko (w:=a6) ac;have⟨bh,bj,bk,bl⟩:=ko (w:=a6) aB))
  go_ret
  exact⟨lT,jR HB.out⟩
 rw[if_neg c9]at H;have a8:=beq_eq_false_iff_ne.mpr c9;have a9:=bne_iff_ne.mpr c9;obtain rfl:=Option.some.inj H
 go_enter Try.func76,Try.ntmps76
 go_wp2_with (first|((with_reducible refine ky 2 rfl ?_);refine kS #[.int .i64 ae,.int .i64 ao] 59 ?_;intro ab hg bS jS hb;have ac:=dm (jS);have aI:=dm (kg:w.heap.size<=ab);have aK:=dm (kg:w.heap.size<=ab);replace HB:=jX HB hb;clear hb jS hg)|((with_reducible refine ky 3 rfl ?_);refine kS #[.int .i64 af,.int .i64 aw] 59 ?_;intro ag hg a7 jS hb;have aB:=dm (jS);have aL:=dm (kg:w.heap.size<=ag);have aM:=dm (kg:w.heap.size<=ag);replace HB:=jX HB hb;have al:=dm (yQ:ab≠ag);have am:=dm (yR:ag≠ab);replace ac:=jU ac hb;clear hb jS hg;have bI:=al.out;have bJ:=am.out;have⟨bm,bn,bo,bp⟩:=ko (w:=a7) ac;have⟨bq,br,bu,bv⟩:=ko (w:=a7) aB))
 go_ret
 exact⟨lT,jR HB.out⟩
theorem rz(h:p:=by exact lI af.out):p:=h
theorem rA(h:p:=by exact lI ac.out):p:=h
theorem Br(h:p:=by(try simp only [List.map_toArray,List.map_cons,List.map_nil]);first|done|(simp only [aH];rfl)|rfl|(simp only [List.length_drop,List.length_take];rfl)):p:=h
theorem vE(h:p:=by rw[hg];exact Nat.ne_of_lt (lq (g:=ah) (o:=.cells #[.int .i64 ag,.slice (some aj) aa.length ao] 31 (0,0)) (jZ ac.out))):p:=h
theorem vF(h:p:=by rw[hg];exact Nat.ne_of_gt (lq (g:=ah) (o:=.cells #[.int .i64 ag,.slice (some aj) aa.length ao] 31 (0,0)) (jZ ac.out))):p:=h
theorem lg(h:p:=by kernel_rfl):p:=h
mutual
def lG.j0:Nat->Bool->Int->List (S59)->Option (Bool)
 |0,_,_,_=>none
 |k+1,cO,aF,ap=>if cO=true then(some false) else(lG.l0 k 0 aF ap)
def lG.l0:Nat->Int->Int->List (S59)->Option (Bool)
 |0,_,_,_=>none
 |k+1,x3,aF,ap=>if x3<(ap.length:Int) then(if 0<=x3 then((oV.f ((jQ ap x3).f0) 0 (wrap64 (aF - 1))).bind fun a5=>(if a5=true then((oV.f ((jQ ap x3).f1) (wrap64 (((jQ ap x3).f0)+1)) (wrap64 (aF - 1))).bind fun aL=>(if aL=true then(if x3>0 then(if 0<=(wrap64 (x3 - 1)) then(if(wrap64 (x3 - 1))<(ap.length:Int) then((sP.f ((jQ ap (wrap64 (x3 - 1))).f0) ((jQ ap (wrap64 (x3 - 1))).f1) ((jQ ap x3).f0) ((jQ ap x3).f1)).bind fun aB=>(if aB=true then(lG.l0 k (wrap64 (x3+1)) aF ap) else(some false))) else(none)) else(none)) else(lG.l0 k (wrap64 (x3+1)) aF ap)) else(some false))) else(some false))) else(none)) else(some true)
end
def lG.f (k:Nat) (ag:Int) (aa:List (S59)):Option (Bool):=(oV.f ag 0 8).bind fun aV=>(if aV=true then(lG.j0 k (decide ((aa.length:Int)>64)) ag aa) else(lG.j0 k true ag aa))
def lG.T7:Bool×List (List Nat×List Nat):=(true,[([],[]),([0],[0]),([],[]),([2],[2]),([3],[3]),([1,4],[1,4]),([5],[5]),([6,5],[6]),([7],[7]),([8,7],[7,8]),([7],[7]),([10,7],[7,10]),([11,7],[7,11]),([7],[7]),([13,7],[7,13]),([14,7],[7,14]),([9,12,15,7,7],[7,9,12,15]),([16,7],[7,16]),([7,17],[7,17]),([18,16],[18]),([19],[19]),([20,19],[19,20]),([21,19,19],[19,21]),([22],[22]),([23,22],[22,23]),([22],[22]),([25,22],[22,25]),([24,26,22],[22,24,26]),([27,22],[22,27]),([22],[22]),([28,29,22,22],[22,28,29]),([30,22],[22,30]),([22,31,19],[19,22,31]),([19,32],[19,32])])
def lG.B7:List Nat:=[0,1,0,4,12,31,63,127,255,511,255,1279,3327,255,8447,24831,65535,131071,262143,524287,1048575,2097151,4194303,8388607,16777215,8388607,41943039,134217727,268435455,8388607,1073741823,2147483647,4294967295,8589934591]
theorem lG.rH:mi .any (opsOf Try.f32 7)=lG.T7:=by kernel_rfl
theorem lG.ry:nY lG.T7.2 lG.B7=true:=by kernel_rfl
theorem lG.calls {k:Nat}{ag:Int}{aE:Option Addr}{ao:Nat}{aa:List (S59)}{r:Bool}{w:World}(aR:Kd.C k59 w aE aa.length aa)(aS:aa.length<=ao)(h:lG.f k ag aa=some r):
  Calls Try.prog 32 #[.agg #[.int .i64 ag,.slice aE aa.length ao]] w fun e w'=>e=.returned (.bool r)/\Below w.heap.size w w':=by
 have bP:=Try.underlying31;have bQ:=Try.underlying59;have aC:=dm aR;have a6:=dm aS;clear aR aS;have HB:=dm (Below.refl w.heap.size w);unfold lG.f at h;have H:=h;clear h;have bC:=dm H;clear H
 go_enter Try.func32,Try.ntmps32
 go_upto_region 1 with(first|((with_reducible refine ky 1 rfl ?_);(try(refine mZ (by rfl) ?_;dsimp only));refine qc 1 #[.int .i64 ag,.slice aE aa.length ao] 31 ?_;intro ah hg w3 jS hb;have ac:=dm (jS);have dl:=dm (kg:w.heap.size<=ah);have dn:=dm (kg:w.heap.size<=ah);replace HB:=jX HB hb;clear hb jS hg))
 (try simp only [Act.put,List.setIfInBounds_toArray,List.set_cons_zero,List.set_cons_succ])
 go_cut [14] (fun cP wc=>∃ (kq:Nat) (aX:Bool),cP=.bool aX/\jP (lG.j0 kq aX ag aa=some r)/\jP (kq<=k)/\jP (wc.heap[ah]? =some (.cells #[.int .i64 ag,(.slice aE aa.length ao)] 31 (0,0)))/\jP (Below w.heap.size w wc))
 case first=>
  have H:=bC.out;clear bC;obtain⟨aV,A4,H⟩:=kR H;(try dsimp only at H)
  rcases lV H with⟨h_,H_⟩|⟨h_,H_⟩<;> (subst h_;clear H;have H:=H_;clear H_)
  ·have H':=dm H;clear H;have⟨cQ,cS,cT,cU⟩:=ko (w:=w3) ac
   go_wp2_with (first|((with_reducible refine kQ 75 rfl ?_);refine lL 7 rfl Try.func75 (oV.calls A4.out) ?_;rintro e w' ⟨rfl,⟨nd,rfl⟩⟩;refine⟨_,rfl,?_⟩))
   go_meet
   case rel=>exact⟨_,(decide ((aa.length:Int)>64)),(ku),H',⟨by first|omega|exact Nat.le_refl _⟩,⟨jZ ac.out⟩,⟨jR HB.out⟩⟩
  have H':=dm H;clear H;have⟨a9,a_,ba,bd⟩:=ko (w:=w3) ac
  go_wp2_with (first|((with_reducible refine kQ 75 rfl ?_);refine lL 7 rfl Try.func75 (oV.calls A4.out) ?_;rintro e w' ⟨rfl,⟨nd,rfl⟩⟩;refine⟨_,rfl,?_⟩))
  go_meet
  case rel=>exact⟨_,(true),(ku),H',⟨by first|omega|exact Nat.le_refl _⟩,⟨jZ ac.out⟩,⟨jR HB.out⟩⟩
 case rest=>
  clear bC;obtain⟨kq,aX,rfl,HA,bq,ac,HB⟩:=hcut;cases kq with
  |zero=>exact absurd HA.out (by simp[lG.j0])
  |succ bD=>
   have H:=HA.out;clear HA;simp only [lG.j0]at H
   rcases lV H with⟨h_,H_⟩|⟨h_,H_⟩<;> (subst h_;clear H;have H:=H_;clear H_)
   ·obtain rfl:=Option.some.inj H
    go_wp2
    go_ret
    exact⟨lT,jR HB.out⟩
   have H':=dm H;clear H
   go_wp2
   go_loopg [3] bD (fun kq v3 w'=>∃ (ab:Int),v3=.int .i64 ab/\jP (lG.l0 kq ab ag aa=some r)/\jP (kq<=bD)/\jP (w'.heap[ah]? =some (.cells #[.int .i64 ag,(.slice aE aa.length ao)] 31 (0,0)))/\jP (Below w.heap.size w w'))
   case atStart=>exact⟨(0),(ku),H',⟨Nat.le_refl _⟩,⟨jZ ac.out⟩,⟨jR HB.out⟩⟩
   case round=>
    clear H';(try clear c8);obtain⟨ab,rfl,HA,br,ac,HB⟩:=hrel;cases gk with
    |zero=>exact absurd HA.out (by simp[lG.l0])
    |succ k2=>
     have H:=HA.out;clear HA;simp only [lG.l0]at H
     replace H:=lH H;rcases H with⟨bR,H⟩|⟨bR,H⟩
     ·skip
      obtain⟨dq,H⟩:=kX H;obtain⟨a5,a3,H⟩:=kR H;(try dsimp only at H)
      rcases lV H with⟨h_,H_⟩|⟨h_,H_⟩<;> (subst h_;clear H;have H:=H_;clear H_)
      ·obtain⟨aL,bf,H⟩:=kR H;(try dsimp only at H)
       rcases lV H with⟨h_,H_⟩|⟨h_,H_⟩<;> (subst h_;clear H;have H:=H_;clear H_)
       ·skip
        replace H:=lH H;rcases H with⟨bE,H⟩|⟨bE,H⟩
        ·obtain⟨ai,aH⟩:∃j_:Int,(wrap64 (ab - 1))=j_:=⟨_,rfl⟩;replace H:(if 0<=(ai) then(if(ai)<(aa.length:Int) then((sP.f ((jQ aa (ai)).f0) ((jQ aa (ai)).f1) ((jQ aa ab).f0) ((jQ aa ab).f1)).bind fun aB=>(if aB=true then(lG.l0 k2 (wrap64 (ab+1)) ag aa) else(some false))) else(none)) else(none))=some r:=by first|(rw[aH]at H;exact H)|(simp only [aH]at H⊢;exact H)
         (try rw[aH]at a3);(try rw[aH]at bf);have cW:(IntKind.i64.wrap (ab - 1))=ai:=(mh _).trans aH
         obtain⟨dr,H⟩:=kX H
         obtain⟨dt,H⟩:=kX H;obtain⟨aB,bK,H⟩:=kR H;(try dsimp only at H)
         rcases lV H with⟨h_,H_⟩|⟨h_,H_⟩<;> (subst h_;clear H;have H:=H_;clear H_)
         ·have H':=dm H;clear H;have⟨bU,bV,bW,bX⟩:=ko (w:=wr) ac;have av:0<=(ab:Int):=jT;have aw:ab<(aa.length:Int):=jT;obtain⟨aj,aI,al,am⟩:=l7 aC.out ab av aw;cases aI;replace al:=j4 HB al;replace am:=j4 HB am;replace av:=eq_true av;replace aw:=eq_true aw;try go_wp2_with (first|((with_reducible refine ky 4 rfl ?_);(try(refine mZ (by rfl) ?_;dsimp only));refine qc 4 #[.int .i64 0,.int .i64 0] 59 ?_;intro ae hg bh jS hb;have af:=dm (jS);have aY:=dm (kg:w.heap.size<=ae);have aZ:=dm (kg:w.heap.size<=ae);replace HB:=jX HB hb;have ak:=dm (vE:ah≠ae);have aq:=dm (vF:ae≠ah);replace ac:=jU ac hb;clear hb jS hg;have du:=aq.out;have dv:=ak.out;have⟨bY,bZ,b3,b4⟩:=ko (w:=bh) af))
          have n0:jP (((bh.setCell ⟨ae,0,none⟩ (.int .i64 ((jQ aa ab).f0))).setCell ⟨ae,1,none⟩ (.int .i64 ((jQ aa ab).f1))).heap[ah]? =some (.cells #[.int .i64 ag,.slice (some aj) aa.length ao] 31 (0,0))):=⟨rA⟩;have n1:jP (((bh.setCell ⟨ae,0,none⟩ (.int .i64 ((jQ aa ab).f0))).setCell ⟨ae,1,none⟩ (.int .i64 ((jQ aa ab).f1))).heap[ae]? =some (.cells #[.int .i64 ((jQ aa ab).f0),.int .i64 ((jQ aa ab).f1)] 59 (0,0))):=⟨rz⟩;have n2:jP (Below w.heap.size w ((bh.setCell ⟨ae,0,none⟩ (.int .i64 ((jQ aa ab).f0))).setCell ⟨ae,1,none⟩ (.int .i64 ((jQ aa ab).f1)))):=⟨jR HB.out⟩;(try clear ac af HB);generalize((bh.setCell ⟨ae,0,none⟩ (.int .i64 ((jQ aa ab).f0))).setCell ⟨ae,1,none⟩ (.int .i64 ((jQ aa ab).f1)))=cX at n0 n1 n2⊢;revert n0 n1 n2;intro ac af HB;replace ac:=dm (kU ac.out);replace af:=dm (kU af.out);replace HB:=dm (mg HB.out);have aN:0<=((ai):Int):=jT;have aO:(ai)<(aa.length:Int):=jT;obtain⟨a7,bn,ax,ay⟩:=l7 aC.out (ai) aN aO;have az:=ay;have aA:=ax;obtain rfl:aj=a7:=(by injection bn);replace ax:=j4 HB ax;replace ay:=j4 HB ay;replace aN:=eq_true aN;replace aO:=eq_true aO;refine nk 34 (S:=fun w'=>w'.cell? ⟨ae,0,none⟩=some (.int .i64 ((jQ aa ab).f0))/\w'.cell? ⟨ae,1,none⟩=some (.int .i64 ((jQ aa ab).f1))/\w'.cell? ⟨ah,0,none⟩=some (.int .i64 ag)/\w'.cell? ⟨ah,1,none⟩=some (.slice (some aj) aa.length ao)/\w'.cell? (aj.add (((ai)).toNat*2))=some (.int .i64 ((jQ aa (ai)).f0))/\w'.cell? ⟨(aj.add (((ai)).toNat*2)).block,(aj.add (((ai)).toNat*2)).off+1,none⟩=some (.int .i64 ((jQ aa (ai)).f1))) [] ⟨jY af 0,jY af 1,jY ac 0,jY ac 1,(j4 HB aA),(j4 HB az)⟩ lG.rH lG.ry (fun hHeld HT_ HW_=>?_);generalize cX.drew=dF at ac af HB ax ay hHeld⊢;refine jW 0 27 1 ?_;refine jW 2 29 5 ?_;refine kL 1 28 7 ?_;refine kL 3 30 15 ?_;refine jW 4 31 31 ?_;refine l6 5 32 63 (fun K hK=>?_);refine oz Try.func75 (oV.calls a3.out) ?_;rintro e w' ⟨rfl,⟨nd,rfl⟩⟩;refine⟨_,rfl,?_⟩;refine hK.out _ _ ⟨jY af 0,jY af 1,jY ac 0,jY ac 1,(j4 HB aA),(j4 HB az)⟩ (fun hHeld=>?_);clear hK K;refine ll 32 ?_;refine jW 6 33 127 ?_;refine jW 7 34 255 ?_;refine jW 8 35 511 ?_;refine jW 10 37 1535 ?_;refine jW 13 40 9727 ?_;refine kL 9 36 10239 ?_;refine kL 11 38 12287 ?_;refine jW 12 39 16383 ?_;refine kL 14 41 32767 ?_;refine jW 15 42 65535 ?_;refine l6 16 43 131071 (fun K hK=>?_);refine oz Try.func75 (oV.calls bf.out) ?_;rintro e w' ⟨rfl,⟨nd,rfl⟩⟩;refine⟨_,rfl,?_⟩;refine hK.out _ _ ⟨jY af 0,jY af 1,jY ac 0,jY ac 1,(j4 HB aA),(j4 HB az)⟩ (fun hHeld=>?_);clear hK K;refine ll 43 ?_;refine jW 17 44 262143 ?_;refine jW 18 45 524287 ?_;refine jW 19 46 1048575 ?_;refine jW 20 47 2097151 ?_;refine jW 21 48 4194303 ?_;refine jW 22 49 8388607 ?_;refine jW 23 50 16777215 ?_;refine jW 25 52 50331647 ?_;refine jW 26 53 117440511 ?_;refine kL 24 51 134217727 ?_;refine jW 27 54 268435455 ?_;refine kL 28 55 536870911 ?_;refine kL 29 56 1073741823 ?_;refine l6 30 57 2147483647 (fun K hK=>?_);refine qd Try.func76 (lg) rfl #[.agg #[.int .i64 ((jQ aa (ai)).f0),.int .i64 ((jQ aa (ai)).f1)],.agg #[.int .i64 ((jQ aa ab).f0),.int .i64 ((jQ aa ab).f1)]] (by rfl) rfl rfl (Br) ?_;refine(sP.calls bK.out).mono ?_;rintro e dG ⟨rfl,hb⟩;refine⟨_,rfl,?_⟩;replace ac:=jU ac hb;replace af:=jU af hb;replace HB:=jX HB hb;(try clear hb);refine hK.out _ _ ⟨jY af 0,jY af 1,jY ac 0,jY ac 1,(j4 HB aA),(j4 HB az)⟩ (fun hHeld=>?_);clear hK K;refine ll 57 ?_;refine jW 31 58 4294967295 ?_;refine jW 32 59 8589934591 ?_;refine jW 33 60 17179869183 ?_;refine mD (mV HT_.out (lg)) ?_;try go_wp2
          go_roundg k2
          case measure=>have:=bq.out;have:=br.out;omega
          case rel=>exact⟨(wrap64 (ab+1)),(ku),H',⟨by have:=bq.out;have:=br.out;omega⟩,⟨jZ ac.out⟩,⟨jR HB.out⟩⟩
         obtain rfl:=Option.some.inj H;have⟨b5,b6,b7,b8⟩:=ko (w:=wr) ac;have av:0<=(ab:Int):=jT;have aw:ab<(aa.length:Int):=jT;obtain⟨aj,aI,al,am⟩:=l7 aC.out ab av aw;cases aI;replace al:=j4 HB al;replace am:=j4 HB am;replace av:=eq_true av;replace aw:=eq_true aw;try go_wp2_with (first|((with_reducible refine ky 4 rfl ?_);(try(refine mZ (by rfl) ?_;dsimp only));refine qc 4 #[.int .i64 0,.int .i64 0] 59 ?_;intro ae hg bj jS hb;have af:=dm (jS);have aY:=dm (kg:w.heap.size<=ae);have aZ:=dm (kg:w.heap.size<=ae);replace HB:=jX HB hb;have ak:=dm (vE:ah≠ae);have aq:=dm (vF:ae≠ah);replace ac:=jU ac hb;clear hb jS hg;have dw:=aq.out;have dx:=ak.out;have⟨b9,b_,ca,cd⟩:=ko (w:=bj) af))
         have n0:jP (((bj.setCell ⟨ae,0,none⟩ (.int .i64 ((jQ aa ab).f0))).setCell ⟨ae,1,none⟩ (.int .i64 ((jQ aa ab).f1))).heap[ah]? =some (.cells #[.int .i64 ag,.slice (some aj) aa.length ao] 31 (0,0))):=⟨rA⟩;have n1:jP (((bj.setCell ⟨ae,0,none⟩ (.int .i64 ((jQ aa ab).f0))).setCell ⟨ae,1,none⟩ (.int .i64 ((jQ aa ab).f1))).heap[ae]? =some (.cells #[.int .i64 ((jQ aa ab).f0),.int .i64 ((jQ aa ab).f1)] 59 (0,0))):=⟨rz⟩;have n2:jP (Below w.heap.size w ((bj.setCell ⟨ae,0,none⟩ (.int .i64 ((jQ aa ab).f0))).setCell ⟨ae,1,none⟩ (.int .i64 ((jQ aa ab).f1)))):=⟨jR HB.out⟩;(try clear ac af HB);generalize((bj.setCell ⟨ae,0,none⟩ (.int .i64 ((jQ aa ab).f0))).setCell ⟨ae,1,none⟩ (.int .i64 ((jQ aa ab).f1)))=cY at n0 n1 n2⊢;revert n0 n1 n2;intro ac af HB;replace ac:=dm (kU ac.out);replace af:=dm (kU af.out);replace HB:=dm (mg HB.out);have aN:0<=((ai):Int):=jT;have aO:(ai)<(aa.length:Int):=jT;obtain⟨a7,bn,ax,ay⟩:=l7 aC.out (ai) aN aO;have az:=ay;have aA:=ax;obtain rfl:aj=a7:=(by injection bn);replace ax:=j4 HB ax;replace ay:=j4 HB ay;replace aN:=eq_true aN;replace aO:=eq_true aO;refine nk 34 (S:=fun w'=>w'.cell? ⟨ae,0,none⟩=some (.int .i64 ((jQ aa ab).f0))/\w'.cell? ⟨ae,1,none⟩=some (.int .i64 ((jQ aa ab).f1))/\w'.cell? ⟨ah,0,none⟩=some (.int .i64 ag)/\w'.cell? ⟨ah,1,none⟩=some (.slice (some aj) aa.length ao)/\w'.cell? (aj.add (((ai)).toNat*2))=some (.int .i64 ((jQ aa (ai)).f0))/\w'.cell? ⟨(aj.add (((ai)).toNat*2)).block,(aj.add (((ai)).toNat*2)).off+1,none⟩=some (.int .i64 ((jQ aa (ai)).f1))) [] ⟨jY af 0,jY af 1,jY ac 0,jY ac 1,(j4 HB aA),(j4 HB az)⟩ lG.rH lG.ry (fun hHeld HT_ HW_=>?_);generalize cY.drew=dH at ac af HB ax ay hHeld⊢;refine jW 0 27 1 ?_;refine jW 2 29 5 ?_;refine kL 1 28 7 ?_;refine kL 3 30 15 ?_;refine jW 4 31 31 ?_;refine l6 5 32 63 (fun K hK=>?_);refine oz Try.func75 (oV.calls a3.out) ?_;rintro e w' ⟨rfl,⟨nd,rfl⟩⟩;refine⟨_,rfl,?_⟩;refine hK.out _ _ ⟨jY af 0,jY af 1,jY ac 0,jY ac 1,(j4 HB aA),(j4 HB az)⟩ (fun hHeld=>?_);clear hK K;refine ll 32 ?_;refine jW 6 33 127 ?_;refine jW 7 34 255 ?_;refine jW 8 35 511 ?_;refine jW 10 37 1535 ?_;refine jW 13 40 9727 ?_;refine kL 9 36 10239 ?_;refine kL 11 38 12287 ?_;refine jW 12 39 16383 ?_;refine kL 14 41 32767 ?_;refine jW 15 42 65535 ?_;refine l6 16 43 131071 (fun K hK=>?_);refine oz Try.func75 (oV.calls bf.out) ?_;rintro e w' ⟨rfl,⟨nd,rfl⟩⟩;refine⟨_,rfl,?_⟩;refine hK.out _ _ ⟨jY af 0,jY af 1,jY ac 0,jY ac 1,(j4 HB aA),(j4 HB az)⟩ (fun hHeld=>?_);clear hK K;refine ll 43 ?_;refine jW 17 44 262143 ?_;refine jW 18 45 524287 ?_;refine jW 19 46 1048575 ?_;refine jW 20 47 2097151 ?_;refine jW 21 48 4194303 ?_;refine jW 22 49 8388607 ?_;refine jW 23 50 16777215 ?_;refine jW 25 52 50331647 ?_;refine jW 26 53 117440511 ?_;refine kL 24 51 134217727 ?_;refine jW 27 54 268435455 ?_;refine kL 28 55 536870911 ?_;refine kL 29 56 1073741823 ?_;refine l6 30 57 2147483647 (fun K hK=>?_);refine qd Try.func76 (lg) rfl #[.agg #[.int .i64 ((jQ aa (ai)).f0),.int .i64 ((jQ aa (ai)).f1)],.agg #[.int .i64 ((jQ aa ab).f0),.int .i64 ((jQ aa ab).f1)]] (by rfl) rfl rfl (Br) ?_;refine(sP.calls bK.out).mono ?_;rintro e dI ⟨rfl,hb⟩;refine⟨_,rfl,?_⟩;replace ac:=jU ac hb;replace af:=jU af hb;replace HB:=jX HB hb;(try clear hb);refine hK.out _ _ ⟨jY af 0,jY af 1,jY ac 0,jY ac 1,(j4 HB aA),(j4 HB az)⟩ (fun hHeld=>?_);clear hK K;refine ll 57 ?_;refine jW 31 58 4294967295 ?_;refine jW 32 59 8589934591 ?_;refine jW 33 60 17179869183 ?_;refine mD (mV HT_.out (lg)) ?_;try go_wp2
         go_ret
         exact⟨by first|rfl|(simp[qL,qM]<;>rfl)|(simp only [←aH];first|rfl|(simp[qL,qM]<;>rfl))|(simp[*,qL,qM]<;>rfl),jR HB.out⟩
        have H':=dm H;clear H;have⟨ce,cf,cg,ch⟩:=ko (w:=wr) ac;have av:0<=(ab:Int):=jT;have aw:ab<(aa.length:Int):=jT;obtain⟨aj,aI,al,am⟩:=l7 aC.out ab av aw;cases aI;replace al:=j4 HB al;replace am:=j4 HB am;replace av:=eq_true av;replace aw:=eq_true aw;try go_wp2_with (first|((with_reducible refine ky 4 rfl ?_);(try(refine mZ (by rfl) ?_;dsimp only));refine qc 4 #[.int .i64 0,.int .i64 0] 59 ?_;intro ae hg bk jS hb;have af:=dm (jS);have aY:=dm (kg:w.heap.size<=ae);have aZ:=dm (kg:w.heap.size<=ae);replace HB:=jX HB hb;have ak:=dm (vE:ah≠ae);have aq:=dm (vF:ae≠ah);replace ac:=jU ac hb;clear hb jS hg;have dy:=aq.out;have dz:=ak.out;have⟨ci,cj,ck,cl⟩:=ko (w:=bk) af))
        have n0:jP (((bk.setCell ⟨ae,0,none⟩ (.int .i64 ((jQ aa ab).f0))).setCell ⟨ae,1,none⟩ (.int .i64 ((jQ aa ab).f1))).heap[ah]? =some (.cells #[.int .i64 ag,.slice (some aj) aa.length ao] 31 (0,0))):=⟨rA⟩;have n1:jP (((bk.setCell ⟨ae,0,none⟩ (.int .i64 ((jQ aa ab).f0))).setCell ⟨ae,1,none⟩ (.int .i64 ((jQ aa ab).f1))).heap[ae]? =some (.cells #[.int .i64 ((jQ aa ab).f0),.int .i64 ((jQ aa ab).f1)] 59 (0,0))):=⟨rz⟩;have n2:jP (Below w.heap.size w ((bk.setCell ⟨ae,0,none⟩ (.int .i64 ((jQ aa ab).f0))).setCell ⟨ae,1,none⟩ (.int .i64 ((jQ aa ab).f1)))):=⟨jR HB.out⟩;(try clear ac af HB);generalize((bk.setCell ⟨ae,0,none⟩ (.int .i64 ((jQ aa ab).f0))).setCell ⟨ae,1,none⟩ (.int .i64 ((jQ aa ab).f1)))=cZ at n0 n1 n2⊢;revert n0 n1 n2;intro ac af HB;replace ac:=dm (kU ac.out);replace af:=dm (kU af.out);replace HB:=dm (mg HB.out);refine nk 34 (S:=fun w'=>w'.cell? ⟨ae,0,none⟩=some (.int .i64 ((jQ aa ab).f0))/\w'.cell? ⟨ae,1,none⟩=some (.int .i64 ((jQ aa ab).f1))/\w'.cell? ⟨ah,0,none⟩=some (.int .i64 ag)/\w'.cell? ⟨ah,1,none⟩=some (.slice (some aj) aa.length ao)) [] ⟨jY af 0,jY af 1,jY ac 0,jY ac 1⟩ lG.rH lG.ry (fun hHeld HT_ HW_=>?_);generalize cZ.drew=dJ at ac af HB hHeld⊢;refine jW 0 27 1 ?_;refine jW 2 29 5 ?_;refine kL 1 28 7 ?_;refine kL 3 30 15 ?_;refine jW 4 31 31 ?_;refine l6 5 32 63 (fun K hK=>?_);refine oz Try.func75 (oV.calls a3.out) ?_;rintro e w' ⟨rfl,⟨nd,rfl⟩⟩;refine⟨_,rfl,?_⟩;refine hK.out _ _ ⟨jY af 0,jY af 1,jY ac 0,jY ac 1⟩ (fun hHeld=>?_);clear hK K;refine ll 32 ?_;refine jW 6 33 127 ?_;refine jW 7 34 255 ?_;refine jW 8 35 511 ?_;refine jW 10 37 1535 ?_;refine jW 13 40 9727 ?_;refine kL 9 36 10239 ?_;refine kL 11 38 12287 ?_;refine jW 12 39 16383 ?_;refine kL 14 41 32767 ?_;refine jW 15 42 65535 ?_;refine l6 16 43 131071 (fun K hK=>?_);refine oz Try.func75 (oV.calls bf.out) ?_;rintro e w' ⟨rfl,⟨nd,rfl⟩⟩;refine⟨_,rfl,?_⟩;refine hK.out _ _ ⟨jY af 0,jY af 1,jY ac 0,jY ac 1⟩ (fun hHeld=>?_);clear hK K;refine ll 43 ?_;refine jW 17 44 262143 ?_;refine jW 18 45 524287 ?_;refine jW 19 46 1048575 ?_;refine jW 20 47 2097151 ?_;refine jW 21 48 4194303 ?_;refine jW 22 49 8388607 ?_;refine l5 23 50 16777215 ?_;refine l5 24 51 33554431 ?_;refine l5 25 52 67108863 ?_;refine l5 26 53 134217727 ?_;refine l5 27 54 268435455 ?_;refine l5 28 55 536870911 ?_;refine l5 29 56 1073741823 ?_;refine l5 30 57 2147483647 ?_;refine l5 31 58 4294967295 ?_;refine jW 32 59 8589934591 ?_;refine jW 33 60 17179869183 ?_;refine mD (mV HT_.out (lg)) ?_;try go_wp2
        go_roundg k2
        case measure=>have:=bq.out;have:=br.out;omega
        case rel=>exact⟨(wrap64 (ab+1)),(ku),H',⟨by have:=bq.out;have:=br.out;omega⟩,⟨jZ ac.out⟩,⟨jR HB.out⟩⟩
       obtain rfl:=Option.some.inj H;have⟨cm,cn,co,cp⟩:=ko (w:=wr) ac;have av:0<=(ab:Int):=jT;have aw:ab<(aa.length:Int):=jT;obtain⟨aj,aI,al,am⟩:=l7 aC.out ab av aw;cases aI;replace al:=j4 HB al;replace am:=j4 HB am;replace av:=eq_true av;replace aw:=eq_true aw;try go_wp2_with (first|((with_reducible refine ky 4 rfl ?_);(try(refine mZ (by rfl) ?_;dsimp only));refine qc 4 #[.int .i64 0,.int .i64 0] 59 ?_;intro ae hg bl jS hb;have af:=dm (jS);have aY:=dm (kg:w.heap.size<=ae);have aZ:=dm (kg:w.heap.size<=ae);replace HB:=jX HB hb;have ak:=dm (vE:ah≠ae);have aq:=dm (vF:ae≠ah);replace ac:=jU ac hb;clear hb jS hg;have dA:=aq.out;have dB:=ak.out;have⟨cq,cr,ct,cu⟩:=ko (w:=bl) af))
       have n0:jP (((bl.setCell ⟨ae,0,none⟩ (.int .i64 ((jQ aa ab).f0))).setCell ⟨ae,1,none⟩ (.int .i64 ((jQ aa ab).f1))).heap[ah]? =some (.cells #[.int .i64 ag,.slice (some aj) aa.length ao] 31 (0,0))):=⟨rA⟩;have n1:jP (((bl.setCell ⟨ae,0,none⟩ (.int .i64 ((jQ aa ab).f0))).setCell ⟨ae,1,none⟩ (.int .i64 ((jQ aa ab).f1))).heap[ae]? =some (.cells #[.int .i64 ((jQ aa ab).f0),.int .i64 ((jQ aa ab).f1)] 59 (0,0))):=⟨rz⟩;have n2:jP (Below w.heap.size w ((bl.setCell ⟨ae,0,none⟩ (.int .i64 ((jQ aa ab).f0))).setCell ⟨ae,1,none⟩ (.int .i64 ((jQ aa ab).f1)))):=⟨jR HB.out⟩;(try clear ac af HB);generalize((bl.setCell ⟨ae,0,none⟩ (.int .i64 ((jQ aa ab).f0))).setCell ⟨ae,1,none⟩ (.int .i64 ((jQ aa ab).f1)))=c_ at n0 n1 n2⊢;revert n0 n1 n2;intro ac af HB;replace ac:=dm (kU ac.out);replace af:=dm (kU af.out);replace HB:=dm (mg HB.out);refine nk 34 (S:=fun w'=>w'.cell? ⟨ae,0,none⟩=some (.int .i64 ((jQ aa ab).f0))/\w'.cell? ⟨ae,1,none⟩=some (.int .i64 ((jQ aa ab).f1))/\w'.cell? ⟨ah,0,none⟩=some (.int .i64 ag)/\w'.cell? ⟨ah,1,none⟩=some (.slice (some aj) aa.length ao)) [] ⟨jY af 0,jY af 1,jY ac 0,jY ac 1⟩ lG.rH lG.ry (fun hHeld HT_ HW_=>?_);generalize c_.drew=dK at ac af HB hHeld⊢;refine jW 0 27 1 ?_;refine jW 2 29 5 ?_;refine kL 1 28 7 ?_;refine kL 3 30 15 ?_;refine jW 4 31 31 ?_;refine l6 5 32 63 (fun K hK=>?_);refine oz Try.func75 (oV.calls a3.out) ?_;rintro e w' ⟨rfl,⟨nd,rfl⟩⟩;refine⟨_,rfl,?_⟩;refine hK.out _ _ ⟨jY af 0,jY af 1,jY ac 0,jY ac 1⟩ (fun hHeld=>?_);clear hK K;refine ll 32 ?_;refine jW 6 33 127 ?_;refine jW 7 34 255 ?_;refine jW 8 35 511 ?_;refine jW 10 37 1535 ?_;refine jW 13 40 9727 ?_;refine kL 9 36 10239 ?_;refine kL 11 38 12287 ?_;refine jW 12 39 16383 ?_;refine kL 14 41 32767 ?_;refine jW 15 42 65535 ?_;refine l6 16 43 131071 (fun K hK=>?_);refine oz Try.func75 (oV.calls bf.out) ?_;rintro e w' ⟨rfl,⟨nd,rfl⟩⟩;refine⟨_,rfl,?_⟩;refine hK.out _ _ ⟨jY af 0,jY af 1,jY ac 0,jY ac 1⟩ (fun hHeld=>?_);clear hK K;refine ll 43 ?_;refine jW 17 44 262143 ?_;refine jW 18 45 524287 ?_;refine jW 19 46 1048575 ?_;refine l5 20 47 2097151 ?_;refine l5 21 48 4194303 ?_;refine l5 22 49 8388607 ?_;refine l5 23 50 16777215 ?_;refine l5 24 51 33554431 ?_;refine l5 25 52 67108863 ?_;refine l5 26 53 134217727 ?_;refine l5 27 54 268435455 ?_;refine l5 28 55 536870911 ?_;refine l5 29 56 1073741823 ?_;refine l5 30 57 2147483647 ?_;refine l5 31 58 4294967295 ?_;refine l5 32 59 8589934591 ?_;refine jW 33 60 17179869183 ?_;refine mD (mV HT_.out (lg)) ?_;try go_wp2
       go_ret
       exact⟨lT,jR HB.out⟩
      obtain rfl:=Option.some.inj H;have⟨cv,cw,cx,cy⟩:=ko (w:=wr) ac;have av:0<=(ab:Int):=jT;have aw:ab<(aa.length:Int):=jT;obtain⟨aj,aI,al,am⟩:=l7 aC.out ab av aw;cases aI;replace al:=j4 HB al;replace am:=j4 HB am;replace av:=eq_true av;replace aw:=eq_true aw;try go_wp2_with (first|((with_reducible refine ky 4 rfl ?_);(try(refine mZ (by rfl) ?_;dsimp only));refine qc 4 #[.int .i64 0,.int .i64 0] 59 ?_;intro ae hg bm jS hb;have af:=dm (jS);have aY:=dm (kg:w.heap.size<=ae);have aZ:=dm (kg:w.heap.size<=ae);replace HB:=jX HB hb;have ak:=dm (vE:ah≠ae);have aq:=dm (vF:ae≠ah);replace ac:=jU ac hb;clear hb jS hg;have dC:=aq.out;have dD:=ak.out;have⟨cz,cA,cD,cE⟩:=ko (w:=bm) af))
      have n0:jP (((bm.setCell ⟨ae,0,none⟩ (.int .i64 ((jQ aa ab).f0))).setCell ⟨ae,1,none⟩ (.int .i64 ((jQ aa ab).f1))).heap[ah]? =some (.cells #[.int .i64 ag,.slice (some aj) aa.length ao] 31 (0,0))):=⟨rA⟩;have n1:jP (((bm.setCell ⟨ae,0,none⟩ (.int .i64 ((jQ aa ab).f0))).setCell ⟨ae,1,none⟩ (.int .i64 ((jQ aa ab).f1))).heap[ae]? =some (.cells #[.int .i64 ((jQ aa ab).f0),.int .i64 ((jQ aa ab).f1)] 59 (0,0))):=⟨rz⟩;have n2:jP (Below w.heap.size w ((bm.setCell ⟨ae,0,none⟩ (.int .i64 ((jQ aa ab).f0))).setCell ⟨ae,1,none⟩ (.int .i64 ((jQ aa ab).f1)))):=⟨jR HB.out⟩;(try clear ac af HB);generalize((bm.setCell ⟨ae,0,none⟩ (.int .i64 ((jQ aa ab).f0))).setCell ⟨ae,1,none⟩ (.int .i64 ((jQ aa ab).f1)))=db at n0 n1 n2⊢;revert n0 n1 n2;intro ac af HB;replace ac:=dm (kU ac.out);replace af:=dm (kU af.out);replace HB:=dm (mg HB.out);refine nk 34 (S:=fun w'=>w'.cell? ⟨ae,0,none⟩=some (.int .i64 ((jQ aa ab).f0))/\w'.cell? ⟨ae,1,none⟩=some (.int .i64 ((jQ aa ab).f1))/\w'.cell? ⟨ah,0,none⟩=some (.int .i64 ag)/\w'.cell? ⟨ah,1,none⟩=some (.slice (some aj) aa.length ao)) [] ⟨jY af 0,jY af 1,jY ac 0,jY ac 1⟩ lG.rH lG.ry (fun hHeld HT_ HW_=>?_);generalize db.drew=dL at ac af HB hHeld⊢;refine jW 0 27 1 ?_;refine jW 2 29 5 ?_;refine kL 1 28 7 ?_;refine kL 3 30 15 ?_;refine jW 4 31 31 ?_;refine l6 5 32 63 (fun K hK=>?_);refine oz Try.func75 (oV.calls a3.out) ?_;rintro e w' ⟨rfl,⟨nd,rfl⟩⟩;refine⟨_,rfl,?_⟩;refine hK.out _ _ ⟨jY af 0,jY af 1,jY ac 0,jY ac 1⟩ (fun hHeld=>?_);clear hK K;refine ll 32 ?_;refine jW 6 33 127 ?_;refine jW 7 34 255 ?_;refine l5 8 35 511 ?_;refine l5 9 36 1023 ?_;refine l5 10 37 2047 ?_;refine l5 11 38 4095 ?_;refine l5 12 39 8191 ?_;refine l5 13 40 16383 ?_;refine l5 14 41 32767 ?_;refine l5 15 42 65535 ?_;refine l5 16 43 131071 ?_;refine l5 17 44 262143 ?_;refine jW 18 45 524287 ?_;refine jW 19 46 1048575 ?_;refine l5 20 47 2097151 ?_;refine l5 21 48 4194303 ?_;refine l5 22 49 8388607 ?_;refine l5 23 50 16777215 ?_;refine l5 24 51 33554431 ?_;refine l5 25 52 67108863 ?_;refine l5 26 53 134217727 ?_;refine l5 27 54 268435455 ?_;refine l5 28 55 536870911 ?_;refine l5 29 56 1073741823 ?_;refine l5 30 57 2147483647 ?_;refine l5 31 58 4294967295 ?_;refine l5 32 59 8589934591 ?_;refine jW 33 60 17179869183 ?_;refine mD (mV HT_.out (lg)) ?_;try go_wp2
      go_ret
      exact⟨lT,jR HB.out⟩
     obtain rfl:=Option.some.inj H;have⟨cF,cG,cH,cI⟩:=ko (w:=wr) ac
     go_wp2
     go_ret
     exact⟨lT,jR HB.out⟩
def qA.f (a0:Int) (a1:Int):Option (Int×Int):=if a0<a1 then(some (a0,a1)) else(some (a1,a0))
theorem qA.calls {a0:Int}{a1:Int}{r1:Int}{r2:Int}{w:World}(h:qA.f a0 a1=some (r1,r2)):
  Calls Try.prog 46 #[.int .i64 a0,.int .i64 a1] w fun e w'=>e=.returned (.agg #[.int .i64 r1,.int .i64 r2])/\Below w.heap.size w w':=by
 have bQ:=Try.underlying59;have HB:=dm (Below.refl w.heap.size w);unfold qA.f at h;have H:=h;clear h
 replace H:=lH H;rcases H with⟨bo,H⟩|⟨bo,H⟩
 ·simp only [Option.some.injEq,Prod.mk.injEq]at H;obtain⟨rfl,rfl⟩:=H
  go_enter Try.func46,Try.ntmps46
  go_wp2_with (first|((with_reducible refine ky 4 rfl ?_);refine kS #[.int .i64 0,.int .i64 0] 59 ?_;intro aK hg w4 jS hb;have aT:=dm (jS);have bF:=dm (kg:w.heap.size<=aK);have bG:=dm (kg:w.heap.size<=aK);replace HB:=jX HB hb;clear hb jS hg;have⟨dc,dd,de,df⟩:=ko (w:=w4) aT))
  refine bodyPost_ret (results_cell_row rfl _ _ aK 59 #[.int .i64 a0,.int .i64 a1] (0,0) _ rfl (lI aT.out) Try.underlying59 rfl (lg)) rfl ?_;exact⟨lT,jR HB.out⟩
 simp only [Option.some.injEq,Prod.mk.injEq]at H;obtain⟨rfl,rfl⟩:=H
 go_enter Try.func46,Try.ntmps46
 go_wp2_with (first|((with_reducible refine ky 4 rfl ?_);refine kS #[.int .i64 0,.int .i64 0] 59 ?_;intro aK hg w6 jS hb;have aT:=dm (jS);have bF:=dm (kg:w.heap.size<=aK);have bG:=dm (kg:w.heap.size<=aK);replace HB:=jX HB hb;clear hb jS hg;have⟨a9,a_,ba,bd⟩:=ko (w:=w6) aT))
 refine bodyPost_ret (results_cell_row rfl _ _ aK 59 #[.int .i64 a1,.int .i64 a0] (0,0) _ rfl (lI aT.out) Try.underlying59 rfl (lg)) rfl ?_;exact⟨lT,jR HB.out⟩
def ni.l0:Nat->List Int->Int->Int->Option (Bool)
 |0,_,_,_=>none
 |k+1,x0,x1,x5=>if x5<(x0.length:Int) then(if 0<=x5 then(if(rd x0 x5)=x1 then(some true) else(ni.l0 k x0 x1 (wrap64 (x5+1)))) else(none)) else(some false)
def ni.f (k:Nat) (l0:List Int) (a1:Int):Option (Bool):=ni.l0 k l0 a1 0
theorem ni.calls {k:Nat}{A0:Option Addr}{c0:Nat}{l0:List Int}{a1:Int}{r:Bool}{w:World}(bL:Kd.C (Kd.int .i64) w A0 l0.length l0)(bM:l0.length<=c0)(h:ni.f k l0 a1=some r):
  Calls Try.prog 47 #[.slice A0 l0.length c0,.int .i64 a1] w fun e w'=>e=.returned (.bool r)/\kG w w':=by
 have bN:=dm bL;have dM:=dm bM;clear bL bM;unfold ni.f at h;have H:=h;clear h;have H':=dm H;clear H
 go_enter Try.func47,Try.ntmps47
 go_wp2
 go_loopg [5] k (fun kq v5 w'=>∃ (au:Int),v5=.int .i64 au/\jP (ni.l0 kq l0 a1 au=some r)/\jP (kq<=k)/\kG w w')
 case atStart=>exact⟨(0),(ku),H',⟨Nat.le_refl _⟩,by repeat(first|exact kG.refl _|apply kG.step)⟩
 case round=>
  clear H';try clear p2
  obtain⟨au,rfl,HA,bO,⟨m1,rfl⟩⟩:=hrel;cases gk with
  |zero=>exact absurd HA.out (by simp[ni.l0])
  |succ k1=>
   have H:=HA.out;clear HA;simp only [ni.l0]at H
   replace H:=lH H;rcases H with⟨bo,H⟩|⟨bo,H⟩
   ·skip
    obtain⟨dE,H⟩:=kX H
    by_cases c5:(rd l0 au)=a1
    ·rw[if_pos c5]at H;have bS:=beq_iff_eq.mpr c5;have bT:=bne_eq_false_iff_eq.mpr c5;clear c5;obtain rfl:=Option.some.inj H;have aP:0<=(au:Int):=jT;have aQ:au<(l0.length:Int):=jT;obtain⟨bH,bp,bB⟩:=kZ bN.out au aP aQ;cases bp;replace aP:=eq_true aP;replace aQ:=eq_true aQ
     go_wp2
     go_ret
     exact⟨ku,by repeat(first|exact kG.refl _|apply kG.step)⟩
    rw[if_neg c5]at H;have bS:=beq_eq_false_iff_ne.mpr c5;have bT:=bne_iff_ne.mpr c5;have H':=dm H;clear H;have aP:0<=(au:Int):=jT;have aQ:au<(l0.length:Int):=jT;obtain⟨bH,bp,bB⟩:=kZ bN.out au aP aQ;cases bp;replace aP:=eq_true aP;replace aQ:=eq_true aQ
    go_wp2
    go_roundg k1
    case measure=>have:=bO.out;omega
    case rel=>exact⟨(wrap64 (au+1)),(ku),H',⟨by have:=bO.out;omega⟩,by repeat(first|exact kG.refl _|apply kG.step)⟩
   obtain rfl:=Option.some.inj H
   go_wp2
   go_ret
   exact⟨ku,by repeat(first|exact kG.refl _|apply kG.step)⟩
def om.f (k:Nat) (ag:Int) (aa:List (S59)) (a1:Int):Option (Bool):=(lG.f k ag aa).bind fun aW=>(if aW=true then((oV.f a1 0 (wrap64 (ag - 1))).bind fun aG=>(some aG)) else(some false))
theorem om.calls {k:Nat}{ag:Int}{aE:Option Addr}{ao:Nat}{aa:List (S59)}{a1:Int}{r:Bool}{w:World}(aR:Kd.C k59 w aE aa.length aa)(aS:aa.length<=ao)(h:om.f k ag aa a1=some r):
  Calls Try.prog 85 #[.agg #[.int .i64 ag,.slice aE aa.length ao],.int .i64 a1] w fun e w'=>e=.returned (.bool r)/\Below w.heap.size w w':=by
 have bP:=Try.underlying31;have aC:=dm aR;have a6:=dm aS;clear aR aS;have HB:=dm (Below.refl w.heap.size w);unfold om.f at h;have H:=h;clear h;obtain⟨aW,A3,H⟩:=kR H;(try dsimp only at H)
 rcases lV H with⟨h_,H_⟩|⟨h_,H_⟩<;> (subst h_;clear H;have H:=H_;clear H_)
 ·obtain⟨aG,A5,H⟩:=kR H;(try dsimp only at H);obtain rfl:=Option.some.inj H
  go_enter Try.func85,Try.ntmps85
  go_wp2_with (first|((with_reducible refine ky 2 rfl ?_);refine kS #[.int .i64 ag,.slice aE aa.length ao] 31 ?_;intro aU hg w6 jS hb;have aD:=dm (jS);have bI:=dm (kg:w.heap.size<=aU);have bJ:=dm (kg:w.heap.size<=aU);replace HB:=jX HB hb;clear hb jS hg;have⟨a9,a_,ba,bd⟩:=ko (w:=w6) aD)|((with_reducible refine kQ 32 rfl ?_);refine nC 6 rfl Try.func32 (lG.calls (kv (kN aC.out HB.out)) a6.out A3.out) ?_;intro w8 hb;replace aD:=jU aD hb;replace HB:=jX HB hb;(try clear hb);have⟨dg,dh,di,dj⟩:=ko (w:=w8) aD)|(go_at_call 75;refine(oV.calls A5.out).mono ?_;rintro e w' ⟨rfl,⟨nd,rfl⟩⟩))
  go_ret
  exact⟨lT,jR HB.out⟩
 obtain rfl:=Option.some.inj H
 go_enter Try.func85,Try.ntmps85
 go_wp2_with (first|((with_reducible refine ky 2 rfl ?_);refine kS #[.int .i64 ag,.slice aE aa.length ao] 31 ?_;intro aU hg dk jS hb;have aD:=dm (jS);have bI:=dm (kg:w.heap.size<=aU);have bJ:=dm (kg:w.heap.size<=aU);replace HB:=jX HB hb;clear hb jS hg;have⟨cJ,cL,cM,cN⟩:=ko (w:=dk) aD)|((with_reducible refine kQ 32 rfl ?_);refine nC 6 rfl Try.func32 (lG.calls (kv (kN aC.out HB.out)) a6.out A3.out) ?_;intro dN hb;replace aD:=jU aD hb;replace HB:=jX HB hb;(try clear hb)))
 go_ret
 exact⟨lT,jR HB.out⟩
theorem y8 (d:Nat) (w:World) (x0 y0:Int) (x1 y1:Int):
  (Op.equalIn (d+2) 59 (.agg #[.int .i64 x0,.int .i64 x1]) (.agg #[.int .i64 y0,.int .i64 y1])).run Try.prog w=.ok (x0==y0&&(x1==y1)) w:=by
 refine Gn Try.underlying59 (by kernel_rfl) ?_;refine Gv (by rfl) (by go_simp;rfl) (by go_simp;rfl) (by go_simp) ?_;exact Gw (by rfl) (by go_simp;rfl) (by go_simp;rfl) (by go_simp)
theorem yF(h:p:=by(try simp only [au]);(try simp only [aw]);(with_reducible repeat(first|refine o8 ?_ _|refine kU ?_|refine nQ ?_ _));exact ac.out):p:=h
theorem yG(h:p:=by(try simp only [au]);(try simp only [aw]);(with_reducible repeat(first|apply kI|apply kJ|apply kw));exact ai.out):p:=h
theorem vG(h:p:=by(with_reducible repeat(first|apply qP|apply qQ|apply qB));exact am.out):p:=h
attribute [local go_sem high] y8
def nK.l0:Nat->Int->Int->Int->Int->List (S59)->Option (Bool)
 |0,_,_,_,_,_=>none
 |k+1,x1,x2,x7,cI,a6=>if x7<(a6.length:Int) then(if 0<=x7 then((qA.f x1 x2).bind fun cl=>(if(((jQ a6 x7).f0)==cl.1&&(((jQ a6 x7).f1)==cl.2))=true then(some true) else(nK.l0 k x1 x2 (wrap64 (x7+1)) cI a6))) else(none)) else(some false)
def nK.f (k:Nat) (ab:Int) (aa:List (S59)) (a1:Int) (a2:Int):Option (Bool):=nK.l0 k a1 a2 0 ab aa
def nK.T4:Bool×List (List Nat×List Nat):=(true,[([],[]),([0],[0]),([],[]),([1,2],[1,2]),([3],[3]),([],[]),([],[]),([5,6],[5,6]),([4,7],[4,7])])
def nK.B4:List Nat:=[0,1,0,7,15,0,0,96,255]
theorem nK.ww:mi .any (opsOf Try.f113 4)=nK.T4:=by kernel_rfl
theorem nK.vz:nY nK.T4.2 nK.B4=true:=by kernel_rfl
theorem nK.calls {k:Nat}{ab:Int}{ap:Option Addr}{ao:Nat}{aa:List (S59)}{a1:Int}{a2:Int}{r:Bool}{w:World}(aT:Kd.C k59 w ap aa.length aa)(aU:aa.length<=ao)(h:nK.f k ab aa a1 a2=some r):
  Calls Try.prog 113 #[.agg #[.int .i64 ab,.slice ap aa.length ao],.int .i64 a1,.int .i64 a2] w fun e w'=>e=.returned (.bool r)/\Below w.heap.size w w':=by
 have cU:=Try.underlying31;have eM:=Try.underlying59;have aH:=dm aT;have aZ:=dm aU;clear aT aU;have HB:=dm (Below.refl w.heap.size w);unfold nK.f at h;have H:=h;clear h;have H':=dm H;clear H
 go_enter Try.func113,Try.ntmps113
 go_wp2_with (first|((with_reducible refine ky 3 rfl ?_);refine kS #[.int .i64 ab,.slice ap aa.length ao] 31 ?_;intro a4 hg w4 jS hb;have aj:=dm (jS);have eB:=dm (kg:w.heap.size<=a4);have eC:=dm (kg:w.heap.size<=a4);replace HB:=jX HB hb;clear hb jS hg))
 go_loopg [7] k (fun kq v7 w'=>∃ (ah:Int),v7=.int .i64 ah/\jP (nK.l0 kq a1 a2 ah ab aa=some r)/\jP (kq<=k)/\jP (w'.heap[a4]? =some (.cells #[.int .i64 ab,(.slice ap aa.length ao)] 31 (0,0)))/\jP (Below w.heap.size w w'))
 case atStart=>exact⟨(0),(ku),H',⟨Nat.le_refl _⟩,⟨jZ aj.out⟩,⟨jR HB.out⟩⟩
 case round=>
  clear H';obtain⟨ah,rfl,HA,aV,aj,HB⟩:=hrel;cases gk with
  |zero=>exact absurd HA.out (by simp[nK.l0])
  |succ k1=>
   have H:=HA.out;clear HA;simp only [nK.l0]at H
   replace H:=lH H;rcases H with⟨b6,H⟩|⟨b6,H⟩
   ·skip
    obtain⟨bN,H⟩:=kX H;obtain⟨⟨aQ,aR⟩,A7,H⟩:=kR H;(try dsimp only at H)
    by_cases c8:(((jQ aa ah).f0)==aQ&&(((jQ aa ah).f1)==aR))=true
    ·rw[if_pos c8]at H;have b7:(((jQ aa ah).f0)==aQ&&(((jQ aa ah).f1)==aR))=true:=c8;(try(have dN:decide (((jQ aa ah).f0)=aQ&&(((jQ aa ah).f1)==aR))=true:=by simpa using c8));(try(have dO:(((jQ aa ah).f0)==aQ&&(((jQ aa ah).f1)==aR))=true:=by simpa using c8));clear c8;obtain rfl:=Option.some.inj H;have⟨ep,eq,es,et⟩:=ko (w:=wr) aj;try go_wp2
     replace aj:=dm (kU aj.out);replace HB:=dm (mg HB.out);have a9:0<=(ah:Int):=jT;have a_:ah<(aa.length:Int):=jT;obtain⟨aI,b8,az,aA⟩:=l7 aH.out ah a9 a_;have aW:=aA;have aX:=az;cases b8;replace az:=j4 HB az;replace aA:=j4 HB aA;replace a9:=eq_true a9;replace a_:=eq_true a_;refine nk 9 (S:=fun w'=>w'.cell? ⟨a4,0,none⟩=some (.int .i64 ab)/\w'.cell? ⟨a4,1,none⟩=some (.slice (some aI) aa.length ao)/\w'.cell? (aI.add ((ah).toNat*2))=some (.int .i64 ((jQ aa ah).f0))/\w'.cell? ⟨(aI.add ((ah).toNat*2)).block,(aI.add ((ah).toNat*2)).off+1,none⟩=some (.int .i64 ((jQ aa ah).f1))) [] ⟨jY aj 0,jY aj 1,(j4 HB aX),(j4 HB aW)⟩ nK.ww nK.vz (fun hHeld HT_ HW_=>?_);generalize wr.drew=dH at aj HB az aA hHeld⊢;refine jW 0 15 1 ?_;refine jW 2 17 5 ?_;refine jW 5 20 37 ?_;refine jW 6 21 101 ?_;refine kL 1 16 103 ?_;refine jW 3 18 111 ?_;refine kL 4 19 127 ?_;refine l6 7 22 255 (fun K hK=>?_);refine qy Try.func46 (qA.calls A7.out) ?_;intro eu hb;replace aj:=jU aj hb;replace HB:=jX HB hb;(try clear hb);refine hK.out _ _ ⟨jY aj 0,jY aj 1,(j4 HB aX),(j4 HB aW)⟩ (fun hHeld=>?_);clear hK K;refine ll 22 ?_;refine jW 8 23 511 ?_;refine mD (mV HT_.out (by kernel_rfl)) ?_;try go_wp2
     go_ret
     exact⟨mW,jR HB.out⟩
    rw[if_neg c8]at H;have b7:(((jQ aa ah).f0)==aQ&&(((jQ aa ah).f1)==aR))=false:=by simpa using c8
    (try(have dN:decide (((jQ aa ah).f0)=aQ&&(((jQ aa ah).f1)==aR))=false:=by simpa using c8));(try(have dO:(((jQ aa ah).f0)==aQ&&(((jQ aa ah).f1)==aR))=false:=by simpa using c8));(try(have eN:¬ (((jQ aa ah).f0)=aQ&&(((jQ aa ah).f1)==aR)):=by simpa using c8));clear c8;have H':=dm H;clear H;have⟨eb,ec,ed,ee⟩:=ko (w:=wr) aj;try go_wp2
    replace aj:=dm (kU aj.out);replace HB:=dm (mg HB.out);have a9:0<=(ah:Int):=jT;have a_:ah<(aa.length:Int):=jT;obtain⟨aI,b8,az,aA⟩:=l7 aH.out ah a9 a_;have aW:=aA;have aX:=az;cases b8;replace az:=j4 HB az;replace aA:=j4 HB aA;replace a9:=eq_true a9;replace a_:=eq_true a_;refine nk 9 (S:=fun w'=>w'.cell? ⟨a4,0,none⟩=some (.int .i64 ab)/\w'.cell? ⟨a4,1,none⟩=some (.slice (some aI) aa.length ao)/\w'.cell? (aI.add ((ah).toNat*2))=some (.int .i64 ((jQ aa ah).f0))/\w'.cell? ⟨(aI.add ((ah).toNat*2)).block,(aI.add ((ah).toNat*2)).off+1,none⟩=some (.int .i64 ((jQ aa ah).f1))) [] ⟨jY aj 0,jY aj 1,(j4 HB aX),(j4 HB aW)⟩ nK.ww nK.vz (fun hHeld HT_ HW_=>?_);generalize wr.drew=e5 at aj HB az aA hHeld⊢;refine jW 0 15 1 ?_;refine jW 2 17 5 ?_;refine jW 5 20 37 ?_;refine jW 6 21 101 ?_;refine kL 1 16 103 ?_;refine jW 3 18 111 ?_;refine kL 4 19 127 ?_;refine l6 7 22 255 (fun K hK=>?_);refine qy Try.func46 (qA.calls A7.out) ?_;intro cm hb;replace aj:=jU aj hb;replace HB:=jX HB hb;(try clear hb);refine hK.out _ _ ⟨jY aj 0,jY aj 1,(j4 HB aX),(j4 HB aW)⟩ (fun hHeld=>?_);clear hK K;refine ll 22 ?_;refine jW 8 23 511 ?_;refine mD (mV HT_.out (by kernel_rfl)) ?_;try go_wp2
    go_roundg k1
    case measure=>have:=aV.out;omega
    case rel=>exact⟨(wrap64 (ah+1)),(ku),H',⟨by have:=aV.out;omega⟩,⟨jZ aj.out⟩,⟨jR HB.out⟩⟩
   obtain rfl:=Option.some.inj H;have⟨cJ,cL,cM,cN⟩:=ko (w:=wr) aj
   go_wp2
   go_ret
   exact⟨mW,jR HB.out⟩
def nI.l0:Nat->Int->List Int->Int->Int->List (S59)->Option (List Int)
 |0,_,_,_,_,_=>none
 |k+1,x1,x5,x6,a7,bv=>if x6<a7 then((nK.f k a7 bv x1 x6).bind fun bO=>(if bO=true then(if x5.length<17592186044416 then(nI.l0 k x1 (x5++[x6]) (wrap64 (x6+1)) a7 bv) else(none)) else(nI.l0 k x1 x5 (wrap64 (x6+1)) a7 bv))) else(some x5)
def nI.f (k:Nat) (ab:Int) (aa:List (S59)) (a1:Int):Option (List Int):=nI.l0 k a1 (([]:List Int)) 0 ab aa
theorem nI.calls {k:Nat}{ab:Int}{ap:Option Addr}{ao:Nat}{aa:List (S59)}{a1:Int}{r:List Int}{w:World}(aT:Kd.C k59 w ap aa.length aa)(aU:aa.length<=ao)(h:nI.f k ab aa a1=some r):
  Calls Try.prog 94 #[.agg #[.int .i64 ab,.slice ap aa.length ao],.int .i64 a1] w fun e w'=>∃bZ:Value,e=.returned (bZ)/\Kd.R (Kd.int .i64) 3 w' w.heap.size (fun _=>True) bZ r/\Below w.heap.size w w':=by
 have cU:=Try.underlying31;have aH:=dm aT;have aZ:=dm aU;clear aT aU;have HB:=dm (Below.refl w.heap.size w);unfold nI.f at h;have H:=h;clear h;obtain⟨cW,bk⟩:∃y_:List Int,y_=(([]:List Int)):=⟨_,rfl⟩;replace H:(nI.l0 k a1 cW 0 ab aa)=some r:=lC bk H
 have cn:=dm bk;clear bk;have H':=dm H;clear H
 go_enter Try.func94,Try.ntmps94
 go_wp2_with (first|((with_reducible refine ky 2 rfl ?_);refine kS #[.int .i64 ab,.slice ap aa.length ao] 31 ?_;intro bP hg w3 jS hb;have al:=dm (jS);have eD:=dm (kg:w.heap.size<=bP);have eE:=dm (kg:w.heap.size<=bP);replace HB:=jX HB hb;clear hb jS hg)|((with_reducible refine ky 7 rfl ?_);refine og (Kd.int .i64) rfl 3 ([]:List Int) [] (kF.none _ _) ?_;intro eO w4 b3 hb hg_ kV;clear hg_ kV;(first|rw[←cn.out]at b3|(simp only [Int.reduceToNat]at b3;rw[←cn.out]at b3));have di:=dm (kP b3 (kC (jR HB.out)));replace al:=jU al hb;replace HB:=jX HB hb;clear hb b3))
 go_loopg [5,6] k (fun kq v5 v6 w'=>∃ (aq:List Int) (af:Int),v6=.int .i64 af/\jP (nI.l0 kq a1 aq af ab aa=some r)/\jP (kq<=k)/\jP (Kd.R (Kd.int .i64) 3 w' w.heap.size (fun _=>True) v5 aq)/\jP (w'.heap[bP]? =some (.cells #[.int .i64 ab,(.slice ap aa.length ao)] 31 (0,0)))/\jP (Below w.heap.size w w'))
 case atStart=>exact⟨(cW),(0),(ku),H',⟨Nat.le_refl _⟩,⟨jV di.out⟩,⟨jZ al.out⟩,⟨jR HB.out⟩⟩
 case round=>
  clear H';try clear p2
  obtain⟨aq,af,rfl,HA,aV,ai,al,HB⟩:=hrel;cases gk with
  |zero=>exact absurd HA.out (by simp[nI.l0])
  |succ k1=>
   have H:=HA.out;clear HA;simp only [nI.l0]at H
   replace H:=lH H;rcases H with⟨bN,H⟩|⟨bN,H⟩
   ·obtain⟨bO,A7,H⟩:=kR H;(try dsimp only at H)
    rcases lV H with⟨h_,H_⟩|⟨h_,H_⟩<;> (subst h_;clear H;have H:=H_;clear H_)
    ·skip
     obtain⟨c9,H⟩:=mH H;have dP:=dm c9;clear c9;obtain⟨cX,bl⟩:∃y_:List Int,y_=(aq++[af]):=⟨_,rfl⟩;replace H:(nI.l0 k1 a1 cX (wrap64 (af+1)) ab aa)=some r:=lC bl H
     have dj:=dm bl;clear bl;have H':=dm H;clear H;have⟨ef,eg,eh,ei⟩:=ko (w:=wr) al
     go_wp2_with (first|((with_reducible refine kQ 113 rfl ?_);refine nC 17 rfl Try.func113 (nK.calls (kv (kN aH.out HB.out)) aZ.out A7.out) ?_;intro eu hb;replace ai:=kD ai hb;replace al:=jU al hb;replace HB:=jX HB hb;(try clear hb))|((with_reducible refine oh (b:=.append) (xs:= #[.tmp 18,.tmp 20]) rfl ?_);at_builtin;refine pg (Kd.int .i64) (w0:=w) w.heap.size rfl (.tmp 18) (.tmp 20) 45 3 (.int .i64 0) 8 rfl Try.underlying45 info3 rfl (by decide) (by omega) u5 aq af [.int .i64 af] (fun _=>True) (fun _=>False) rfl rfl ?aP (fun _ hk=>hk.elim) ?aF ?aO ?aB ?aS ?aL ?_;(case aP=>exact rfl);(case aB=>exact(jR HB.out));(case aF=>exact(fun _ _=>trivial));(case aO=>exact(jV ai.out));(case aS=>exact(kC (jR HB.out)));(case aL=>have:=dP.out;omega);intro eP dI ho hb hg hat;rw[←dj.out]at ho;have n0:=lY al hg (lS ai.out al.out (by decide));have n1:=dm (hb);have n2:=dm (ho);clear al HB ai;revert n0 n1 n2;intro al HB dk;clear ho hb hg hat))
     go_roundg k1
     case measure=>have:=aV.out;omega
     case rel=>exact⟨(cX),(wrap64 (af+1)),(ku),H',⟨by have:=aV.out;omega⟩,⟨jV dk.out⟩,⟨jZ al.out⟩,⟨jR HB.out⟩⟩
    have H':=dm H;clear H;have⟨bF,bG,bH,bI⟩:=ko (w:=wr) al
    go_wp2_with (first|((with_reducible refine kQ 113 rfl ?_);refine nC 17 rfl Try.func113 (nK.calls (kv (kN aH.out HB.out)) aZ.out A7.out) ?_;intro cm hb;replace ai:=kD ai hb;replace al:=jU al hb;replace HB:=jX HB hb;(try clear hb)))
    go_roundg k1
    case measure=>have:=aV.out;omega
    case rel=>exact⟨(aq),(wrap64 (af+1)),(ku),H',⟨by have:=aV.out;omega⟩,⟨jV ai.out⟩,⟨jZ al.out⟩,⟨jR HB.out⟩⟩
   obtain rfl:=Option.some.inj H;have⟨cJ,cL,cM,cN⟩:=ko (w:=wr) al
   go_wp2
   go_ret
   exact⟨_,mW,jV ai.out,jR HB.out⟩
mutual
def mU.l0:Nat->List Bool->List Int->Int->List (S59)->Option (List Bool)
 |0,_,_,_,_=>none
 |k+1,x5,x6,aM,aN=>if(x6.length:Int)>0 then(if 0<(x6.length:Int) then((nI.f k aM aN (rd x6 0)).bind fun ag=>(if 1<=(x6.length:Int) then(mU.l1 k x5 (x6.drop (1:Int).toNat) ag 0 aM aN) else(none))) else(none)) else(some x5)
def mU.l1:Nat->List Bool->List Int->List Int->Int->Int->List (S59)->Option (List Bool)
 |0,_,_,_,_,_,_=>none
 |k+1,x5,x6,x7,x8,aM,aN=>if x8<(x7.length:Int) then(if 0<=x8 then(if 0<=(rd x7 x8) then(if(rd x7 x8)<(x5.length:Int) then(if(lW false x5 (rd x7 x8)=true) then(mU.l1 k x5 x6 x7 (wrap64 (x8+1)) aM aN) else(if x6.length<17592186044416 then(mU.l1 k (x5.set ((rd x7 x8):Int).toNat true) (x6++[rd x7 x8]) x7 (wrap64 (x8+1)) aM aN) else(none))) else(none)) else(none)) else(none)) else(mU.l0 k x5 x6 aM aN)
end
def mU.f (k:Nat) (ab:Int) (aa:List (S59)) (a1:Int):Option (List Bool):=(om.f k ab aa a1).bind fun bx=>(if bx=true then(if 0<=ab then(if(ab:Int).toNat<=281474976710656 then((some (List.replicate (ab:Int).toNat false:List Bool)).bind fun av=>(if 0<=a1 then(if a1<(av.length:Int) then(mU.l0 k (av.set (a1:Int).toNat true) (([a1]:List Int)) ab aa) else(none)) else(none))) else(none)) else(none)) else(some (([]:List Bool))))
theorem mU.calls {k:Nat}{ab:Int}{ap:Option Addr}{ao:Nat}{aa:List (S59)}{a1:Int}{r:List Bool}{w:World}(aT:Kd.C k59 w ap aa.length aa)(aU:aa.length<=ao)(h:mU.f k ab aa a1=some r):
  Calls Try.prog 115 #[.agg #[.int .i64 ab,.slice ap aa.length ao],.int .i64 a1] w fun e w'=>∃bZ:Value,e=.returned (bZ)/\Kd.R Kd.bool 4 w' w.heap.size (fun _=>True) bZ r/\Below w.heap.size w w':=by
 have cU:=Try.underlying31;have aH:=dm aT;have aZ:=dm aU;clear aT aU;have HB:=dm (Below.refl w.heap.size w);unfold mU.f at h;have H:=h;clear h;obtain⟨bx,A3,H⟩:=kR H;(try dsimp only at H)
 rcases lV H with⟨h_,H_⟩|⟨h_,H_⟩<;> (subst h_;clear H;have H:=H_;clear H_)
 ·skip
  obtain⟨c5,H⟩:=mH H;have b6:=eq_true c5;have dQ:=decide_eq_true c5;clear c5
  obtain⟨c6,H⟩:=mH H;have bN:=eq_true c6;have dR:=decide_eq_true c6;clear c6;obtain⟨av,bm⟩:∃y_:List Bool,y_=(List.replicate (ab:Int).toNat false):=⟨_,rfl⟩;replace H:(if 0<=a1 then(if a1<(av.length:Int) then(mU.l0 k (av.set (a1:Int).toNat true) (([a1]:List Int)) ab aa) else(none)) else(none))=some r:=lC bm H
  have co:=dm bm;clear bm
  obtain⟨dS,H⟩:=kX H
  obtain⟨b7,H⟩:=kX H;obtain⟨bQ,bn⟩:∃y_:List Bool,y_=(av.set (a1:Int).toNat true):=⟨_,rfl⟩;replace H:(mU.l0 k bQ (([a1]:List Int)) ab aa)=some r:=lC bn H
  have dl:=dm bn;clear bn;obtain⟨cY,bo⟩:∃y_:List Int,y_=(([a1]:List Int)):=⟨_,rfl⟩;replace H:(mU.l0 k bQ cY ab aa)=some r:=lC bo H
  have cp:=dm bo;clear bo;have H':=dm H;clear H
  go_enter Try.func115,Try.ntmps115
  go_wp2_with (first|((with_reducible refine ky 2 rfl ?_);refine kS #[.int .i64 ab,.slice ap aa.length ao] 31 ?_;intro aK hg dH jS hb;have ac:=dm (jS);have dn:=dm (kg:w.heap.size<=aK);have dq:=dm (kg:w.heap.size<=aK);replace HB:=jX HB hb;clear hb jS hg;have⟨cO,cP,cQ,cS⟩:=ko (w:=dH) ac)|((with_reducible refine kQ 85 rfl ?_);refine nC 11 rfl Try.func85 (om.calls (kv (kN aH.out HB.out)) aZ.out A3.out) ?_;intro dI hb;replace ac:=jU ac hb;replace HB:=jX HB hb;(try clear hb);have⟨bF,bG,bH,bI⟩:=ko (w:=dI) ac)|((with_reducible refine ky 16 rfl ?_);refine xZ Kd.bool _ 4 rfl (N:=16) rfl 54 _ _ rfl ab rfl rfl Try.underlying54 (.bool false) 1 C_ rfl (by decide) (by omega) false (ok:=fun _=>True) (okp:=fun _=>True) rfl (fun _ hk=>hk) trivial jT (Nat.le_trans (Nat.mul_le_mul_right _ (of_decide_eq_true (AC):ab.toNat<=281474976710656)) (by omega)) (Below.refl _ _) (Nat.le_refl _) ?_;intro eQ cm bB hb hg_ kV;clear hg_ kV;(first|rw[←co.out]at bB|(simp only [Int.reduceToNat]at bB;rw[←co.out]at bB));have aE:=dm (kP bB (kC (jR HB.out)));replace ac:=jU ac hb;replace HB:=jX HB hb;clear hb bB;have p9:0<=(a1:Int):=jT;have q9:(a1:Int)<((av.length:Int):Int):=jT;obtain⟨a5,bJ,dJ,dK,ev,e6,dL⟩:=sQ aE.out (by omega);(first|cases dJ|(injection dJ with ea_ en_ ec_;(first|subst ea_|(injection ea_ with ea_;subst ea_));subst ec_;clear en_));have dM:=dm dK;have e7:=dm dL;clear dK ev dL;obtain⟨dr,eF⟩:=qR false aE.out (a1:Int) p9 q9;replace p9:=eq_true p9;replace q9:=eq_true q9;obtain⟨eG,eH⟩:=qR false aE.out (a1:Int) jT jT;have b9:=uD aE.out (a1:Int) true)|((with_reducible refine rT (t:=4) (p:=19) rfl ?_);refine sj (t:=4) (p:=19) (v:= ?vo_w17) (w1:=(cm.setCell ⟨a5,(a1:Int).toNat,none⟩ (.bool true))) ?hg ?ho ?hn ?hr ?_;(case ho=>rfl);(case hg=>rfl);(case hn=>rfl);(case hr=>first|(go_simp;done)|(go_simp;rfl));intro cZ hw;have hg:cm.grownBy cZ (some a5):=(by rw[hw];exact b9.2);have hp_:Kd.R Kd.bool 4 cZ w.heap.size (fun _=>True) (.slice (some ⟨a5,0,none⟩) av.length bJ) bQ:=(by rw[hw,dl.out];exact b9.1);clear b9;replace ac:=lY ac hg (lS aE.out ac.out (by decide));replace aE:=dm (hp_);replace HB:=dm ((by rw[hw];exact ou (HB.out) dM.out:Below w.heap.size w cZ));clear hg hw hp_)|((with_reducible refine ky 21 rfl ?_);refine og (Kd.int .i64) rfl 3 ([a1]:List Int) [.int .i64 a1] (kF.one (show Kd.M (Kd.int .i64) _ _ _ a1 [.int .i64 a1] from rfl) (kF.none _ _)) ?_;intro eR e8 bC hb hg_ kV;clear hg_ kV;(first|rw[←cp.out]at bC|(simp only [Int.reduceToNat]at bC;rw[←cp.out]at bC));replace aE:=kD aE hb;have dt:=dm (kP bC (kC (jR HB.out)));replace ac:=jU ac hb;replace HB:=jX HB hb;clear hb bC))
  go_loopg [6] k (fun kq v6 w'=>∃ (aq:List Bool) (af:List Int),jP (mU.l0 kq aq af ab aa=some r)/\jP (kq<=k)/\jP (Kd.R Kd.bool 4 w' w.heap.size (fun _=>True) (.slice (some ⟨a5,0,none⟩) av.length bJ) aq)/\jP (Kd.Q (Kd.int .i64) 3 w' w.heap.size (fun _=>True) v6 af)/\jP (w'.heap[aK]? =some (.cells #[.int .i64 ab,(.slice ap aa.length ao)] 31 (0,0)))/\jP (Below w.heap.size w w'))
  case atStart=>exact⟨(bQ),(cY),H',⟨Nat.le_refl _⟩,⟨jV aE.out⟩,⟨xU (jV dt.out)⟩,⟨jZ ac.out⟩,⟨jR HB.out⟩⟩
  case round=>
   clear H';(try clear c4 b6 dQ bN dR dS b7 p9 q9 cO cP bF bG cQ cS bH bI dr);obtain⟨aq,af,HA,aV,ai,am,ac,HB⟩:=hrel;have au:=(kr ai.out).1;rw[au]at ai;(try simp only [au]);(try simp only [au]at ac);(try simp only [au]at am);cases gk with
   |zero=>exact absurd HA.out (by simp[mU.l0])
   |succ k1=>
    have H:=HA.out;clear HA;simp only [mU.l0]at H
    by_cases bK:(af.length:Int)>0;rotate_left
    ·rw[if_neg bK]at H;have cq:=decide_eq_false bK;have cr:decide (0<af.length)=false:=decide_eq_false (by omega);clear bK;obtain rfl:=Option.some.inj H;obtain⟨e2,e3,d_,_⟩:=wI am.out;subst d_
     go_wp2
     go_ret
     exact⟨_,mW,jV ai.out,jR HB.out⟩
    rw[if_pos bK]at H;have cq:=decide_eq_true bK;have cr:decide (0<af.length)=true:=decide_eq_true (by omega);clear bK
    obtain⟨ct,H⟩:=mH H;have du:=decide_eq_true ct;have dv:decide (0<af.length)=true:=decide_eq_true (by omega);clear ct;obtain⟨ag,ew,H⟩:=kR H;(try dsimp only at H)
    obtain⟨b5,H⟩:=mH H;have dw:=eq_true b5;have dx:=decide_eq_true b5;clear b5;obtain⟨ba,bp⟩:∃y_:List Int,y_=(af.drop (1:Int).toNat):=⟨_,rfl⟩;replace H:(mU.l1 k1 aq ba ag 0 ab aa)=some r:=lC bp H
    have cu:=dm bp;clear bp;have H':=dm H;clear H;obtain⟨eS,bR,dT,_⟩:=wI am.out;subst dT;try go_wp2
    replace ai:=dm (kw ai.out);replace am:=dm (qB am.out);replace ac:=dm (kU ac.out);replace HB:=dm (mg HB.out);have bS:0<=(0:Int):=(by omega);have bT:0<(af.length:Int):=jT;obtain⟨a8,dU,aY⟩:=kZ (xV am.out).2.2 0 bS bT;cases dU;have eI:(0<af.length)=True:=eq_true (by omega);(try rw[show((0:Int)).toNat=0 from rfl]at aY);(try rw[Addr.add_zero']at aY);replace bS:=eq_true bS;replace bT:=eq_true bT;refine tY (n:=6) (S:=fun w'=>w'.cell? ⟨aK,0,none⟩=some (.int .i64 ab)/\w'.cell? ⟨aK,1,none⟩=some (.slice ap aa.length ao)/\w'.cell? a8=some (.int .i64 (rd af 0))) (ds:=[]) (lJ 6 0) (by kernel_rfl) rfl (by kernel_rfl) ⟨jY ac 0,jY ac 1,aY⟩ (fun hHeld=>?_);generalize wr.drew=e9 at ai am ac HB aY hHeld⊢;refine jW 1 26 2 ?_;refine jW 2 27 6 ?_;refine kL 0 25 7 ?_;refine kL 3 28 15 ?_;refine pE (i:=4) (N:=some 29) (lJ 6 31) rfl rfl (by kernel_rfl) (by decide) (fun K hK=>?_);refine oz Try.func94 (nI.calls (kv (kN aH.out HB.out)) aZ.out ew.out) ?_;rintro e ex ⟨bU,rfl,c_,hb⟩;have dV:=(hb.cell (World.block_lt_of_cell? _ _ (hHeld.2.2))).trans (hHeld.2.2);refine⟨_,rfl,?_⟩;replace ai:=kD ai hb;have bz:=dm (kP (lF c_ (Aa (vG))) (kC (jR HB.out)));replace am:=dm (z_ (vG) (pR c_) hb);replace ac:=jU ac hb;replace HB:=jX HB hb;(try clear hb fa hk hi c_);refine hK.out _ _ ⟨jY ac 0,jY ac 1,dV⟩ (fun hHeld=>?_);clear hK K;refine ll 29 ?_;refine jW 5 7 63 ?_;refine mD (by kernel_rfl) ?_;have n_:=dm (sw (ok':=(fun k_=>some k_≠(bU:Value).ownBlock)) am.out (fun k_ hk=>hk.2));clear am;have am:=n_;clear n_;have cv:(1:Int)<=((af.length:Int):Int):=jT;obtain⟨eT,cw,_,cx,_⟩:=info_parts info3;have db:=CG (P:=Try.prog) 45 3 .i64 Try.underlying45 cw 1 cx (some a8) af.length bR 1 (by omega) cv;have bD:=z8 (k:=(1:Int).toNat) am.out (by omega);obtain⟨dc,bV⟩:∃A1,A1=(if bR=(1:Int).toNat then(some a8) else((some a8):Option Addr).map (·.add ((1:Int).toNat*1))):=⟨_,rfl⟩;obtain⟨cy,ca⟩:∃c1,c1=bR - (1:Int).toNat:=⟨_,rfl⟩;have cd:ba.length=af.length - (1:Int).toNat:=(by rw[cu.out,List.length_drop]);rw[←cu.out]at bD;rw[←cd,←bV,←ca]at db;replace bD:Kd.Q (Kd.int .i64) 3 ex w.heap.size (fun k_=>some k_≠(bU:Value).ownBlock) (.slice dc ba.length cy) ba:=(by rw[bV,ca,cd];exact bD);have dW:jP ((Value.slice dc ba.length cy).ownBlock=(.slice (some a8) af.length bR:Value).ownBlock):=⟨by rw[bV];split<;> (cases((some a8):Option Addr)<;>rfl)⟩;clear cd cw cx am bV ca;have dy:=dm bD;clear bD;replace cv:=eq_true cv;have n_:=dm (kz (ok':=fun k_=>(True/\some k_≠(.slice dc ba.length cy:Value).ownBlock)) bz.out (fun k_ hk=>⟨trivial,(by rw[dW.out];exact hk.2)⟩));clear bz;have bz:=n_;clear n_;try go_wp2
    go_loopg [6,8] k1 (fun kq v6 v8 w'=>∃ (ax:List Bool) (aD:List Int) (ae:Int),v8=.int .i64 ae/\jP (mU.l1 kq ax aD ag ae ab aa=some r)/\jP (kq<=k1)/\jP (Kd.R Kd.bool 4 w' w.heap.size (fun _=>True) (.slice (some ⟨a5,0,none⟩) aq.length bJ) ax)/\jP (Kd.Q (Kd.int .i64) 3 w' w.heap.size (fun k_=>some k_≠(bU:Value).ownBlock) v6 aD)/\jP (Kd.R (Kd.int .i64) 3 w' w.heap.size (fun k_=>some k_≠(v6:Value).ownBlock) bU ag)/\jP (w'.heap[aK]? =some (.cells #[.int .i64 ab,(.slice ap aa.length ao)] 31 (0,0)))/\jP (Below w.heap.size w w'))
    case atStart=>exact⟨(aq),(ba),(0),(ku),H',⟨Nat.le_refl _⟩,⟨by(try simp only [au]);(with_reducible repeat(first|apply kI|apply kJ|apply kw));exact ai.out⟩,⟨by(try simp only [au]);(with_reducible repeat(first|apply qP|apply qQ|apply qB));exact dy.out⟩,⟨by(try simp only [au]);(with_reducible repeat(first|apply kI|apply kJ|apply kw));exact kz bz.out (fun _ hk=>hk.2)⟩,⟨by(try simp only [au]);(with_reducible repeat(first|refine o8 ?_ _|refine kU ?_|refine nQ ?_ _));exact ac.out⟩,⟨jR HB.out⟩⟩
    case round=>
     clear H';(try clear c1 cq cr du dv dw dx cy cv aY bS bT);obtain⟨ax,aD,ae,rfl,HA,bL,ai,am,ay,ac,HB⟩:=hrel;have aw:=(kr ai.out).1;rw[aw]at ai;(try simp only [aw]);(try simp only [aw]at ac);(try simp only [aw]at am);(try simp only [aw]at ay);cases gk with
     |zero=>exact absurd HA.out (by simp[mU.l1])
     |succ k2=>
      have H:=HA.out;clear HA;simp only [mU.l1]at H
      replace H:=lH H;rcases H with⟨dz,H⟩|⟨dz,H⟩
      ·skip
       obtain⟨eJ,H⟩:=kX H
       obtain⟨eK,H⟩:=kX H
       obtain⟨eL,H⟩:=kX H;obtain⟨dd,bW⟩:∃b_:Bool,b_=(lW false ax (rd ag ae)):=⟨_,rfl⟩;replace H:(if(dd=true) then(mU.l1 k2 ax aD ag (wrap64 (ae+1)) ab aa) else(if aD.length<17592186044416 then(mU.l1 k2 (ax.set ((rd ag ae):Int).toNat true) (aD++[rd ag ae]) ag (wrap64 (ae+1)) ab aa) else(none)))=some r:=by rw[←bW]at H;exact H
       have cE:=dm bW;clear bW
       by_cases cF:(dd=true)
       ·subst cF;rw[if_pos rfl]at H;(try dsimp only at H);have H':=dm H;clear H;obtain⟨eU,eV,dX⟩:=kK ay.out;subst dX;have bd:0<=(ae:Int):=jT;have bf:ae<(ag.length:Int):=jT;obtain⟨bA,ce,cT⟩:=kZ (kr ay.out).2.2 ae bd bf;cases ce;replace bd:=eq_true bd;replace bf:=eq_true bf;have bh:0<=((rd ag ae):Int):=jT;have bj:(rd ag ae)<(ax.length:Int):=jT;obtain⟨bX,cf,aC⟩:=ui (kr ai.out).2.2 (rd ag ae) bh bj;(try rw[←cE.out]at aC);obtain rfl:(⟨a5,0,none⟩:Addr)=bX:=(by injection cf);(first|simp only [add_plain]at aC|simp only [qU]at aC|simp only [Addr.add,Nat.zero_add]at aC|skip);replace bh:=eq_true bh;replace bj:=eq_true bj
        go_wp2;(try simp only [←aw])
        go_roundg k2
        case measure=>have:=aV.out;have:=bL.out;omega
        case rel=>exact⟨(ax),(aD),(wrap64 (ae+1)),(ku),H',⟨by have:=aV.out;have:=bL.out;omega⟩,⟨yG⟩,⟨by(try simp only [au]);(try simp only [aw]);(with_reducible repeat(first|apply qP|apply qQ|apply qB));exact am.out⟩,⟨by(try simp only [au]);(try simp only [aw]);(with_reducible repeat(first|apply kI|apply kJ|apply kw));exact ay.out⟩,⟨yF⟩,⟨jR HB.out⟩⟩
       replace cF:=Bool.eq_false_iff.mpr cF;subst cF;rw[if_neg Bool.false_ne_true]at H;(try dsimp only at H);obtain⟨bY,bq⟩:∃y_:List Bool,y_=(ax.set ((rd ag ae):Int).toNat true):=⟨_,rfl⟩;replace H:(if aD.length<17592186044416 then(mU.l1 k2 bY (aD++[rd ag ae]) ag (wrap64 (ae+1)) ab aa) else(none))=some r:=lC bq H
       have dA:=dm bq;clear bq
       obtain⟨cG,H⟩:=mH H;have dB:=dm cG;clear cG;obtain⟨de,br⟩:∃y_:List Int,y_=(aD++[rd ag ae]):=⟨_,rfl⟩;replace H:(mU.l1 k2 bY de ag (wrap64 (ae+1)) ab aa)=some r:=lC br H
       have dC:=dm br;clear br;have H':=dm H;clear H;obtain⟨eW,dY,dZ⟩:=kK ay.out;subst dZ;have bd:0<=(ae:Int):=jT;have bf:ae<(ag.length:Int):=jT;obtain⟨bA,ce,cT⟩:=kZ (kr ay.out).2.2 ae bd bf;cases ce;replace bd:=eq_true bd;replace bf:=eq_true bf;have bh:0<=((rd ag ae):Int):=jT;have bj:(rd ag ae)<(ax.length:Int):=jT;obtain⟨bX,cf,aC⟩:=ui (kr ai.out).2.2 (rd ag ae) bh bj;(try rw[←cE.out]at aC);obtain rfl:(⟨a5,0,none⟩:Addr)=bX:=(by injection cf);(first|simp only [add_plain]at aC|simp only [qU]at aC|simp only [Addr.add,Nat.zero_add]at aC|skip);replace bh:=eq_true bh;replace bj:=eq_true bj;have cg:0<=(ae:Int):=jT;have ch:ae<(ag.length:Int):=jT;obtain⟨dD,d7,ej⟩:=kZ (kr ay.out).2.2 ae cg ch;obtain rfl:bA=dD:=(by injection d7);replace cg:=eq_true cg;replace ch:=eq_true ch;have df:0<=((rd ag ae):Int):=jT;have dg:((rd ag ae):Int)<((ax.length:Int):Int):=jT;obtain⟨ey,ez⟩:=qR false ai.out ((rd ag ae):Int) df dg;replace df:=eq_true df;replace dg:=eq_true dg;have ci:=uD ai.out ((rd ag ae):Int) true
       go_wp2_with (first|((with_reducible refine rT (t:=4) (p:=51) rfl ?_);refine sj (t:=4) (p:=51) (v:= ?vo_w39) (w1:=(wr.setCell ⟨a5,((rd ag ae):Int).toNat,none⟩ (.bool true))) ?hg ?ho ?hn ?hr ?_;(case ho=>rfl);(case hg=>rfl);(case hn=>rfl);(case hr=>first|(go_simp;done)|(go_simp;rfl));intro dh hw;have hg:wr.grownBy dh (some a5):=(by rw[hw];exact ci.2);have hp_:Kd.R Kd.bool 4 dh w.heap.size (fun _=>True) (.slice (some ⟨a5,0,none⟩) ax.length bJ) bY:=(by rw[hw,dA.out];exact ci.1);clear ci;replace am:=dm (ED (v:=(.slice (some ⟨a5,0,none⟩) ax.length bJ)) (vG) (nV ai.out) (by decide) hg);replace ay:=dm (nU (v:=(.slice (some ⟨a5,0,none⟩) ax.length bJ)) (jV ay.out) (nV ai.out) (by decide) hg);replace ac:=lY ac hg (lS ai.out ac.out (by decide));replace ai:=dm (hp_);replace HB:=dm ((by rw[hw];exact ou (HB.out) dM.out:Below w.heap.size w dh));clear hg hw hp_;have cj:0<=(ae:Int):=jT;have ck:ae<(ag.length:Int):=jT;obtain⟨dE,d8,ek⟩:=kZ (kr ay.out).2.2 ae cj ck;obtain rfl:bA=dE:=(by injection d8);replace cj:=eq_true cj;replace ck:=eq_true ck)|((with_reducible refine oh (b:=.append) (xs:= #[.tmp 52,.tmp 57]) rfl ?_);at_builtin;refine zZ (Kd.int .i64) (w0:=w) w.heap.size rfl (.tmp 52) (.tmp 57) 45 3 (.int .i64 0) 8 rfl Try.underlying45 info3 rfl (by decide) (by omega) u6 aD (rd ag ae) [.int .i64 (rd ag ae)] (fun k_=>some k_≠(.slice (some bA) ag.length dY:Value).ownBlock) (fun _=>False) rfl rfl ?aP (fun _ hk=>hk.elim) ?aF ?aO ?aB ?aS ?aL ?_;(case aP=>exact rfl);(case aB=>exact(jR HB.out));(case aF=>exact(fun k_ hk=>Kd.fresh' (kT (jV ay.out)) k_ hk));(case aO=>exact(vG));(case aS=>exact(kC (jR HB.out)));(case aL=>have:=dB.out;omega);intro eX fb ho hb hg hat;rw[←dC.out]at ho;have n0:=dm (nU (jV ai.out) (EF (vG)) (by decide) hg);have n1:=dm (nP (ok:=(fun _=>True)) (by(with_reducible repeat(first|apply kI|apply kJ|apply kw));exact kz ay.out (fun _ hk=>⟨trivial,hk⟩)) hg hat);have n2:=lY ac hg (Ac am.out ac.out (by decide));have n3:=dm (hb);have n4:=dm (ho);clear ai ay ac HB am;revert n0 n1 n2 n3 n4;intro ai ay ac HB dF;clear ho hb hg hat))
       (try simp only [←aw])
       go_roundg k2
       case measure=>have:=aV.out;have:=bL.out;omega
       case rel=>exact⟨(bY),(de),(wrap64 (ae+1)),(ku),H',⟨by have:=aV.out;have:=bL.out;omega⟩,⟨yG⟩,⟨by(try simp only [au]);(try simp only [aw]);(with_reducible repeat(first|apply qP|apply qQ|apply qB));exact dF.out⟩,⟨by(try simp only [au]);(try simp only [aw]);(with_reducible repeat(first|apply kI|apply kJ|apply kw));exact kz ay.out (fun _ hk=>hk.2)⟩,⟨yF⟩,⟨jR HB.out⟩⟩
      have H':=dm H;clear H;obtain⟨eY,eZ,d9⟩:=kK ay.out;subst d9
      go_wp2;(try simp only [←au,←aw])
      go_roundg k2
      case measure=>have:=aV.out;have:=bL.out;omega
      case rel=>exact⟨(ax),(aD),H',⟨by have:=aV.out;have:=bL.out;omega⟩,⟨yG⟩,⟨by(try simp only [au]);(try simp only [aw]);(with_reducible repeat(first|apply qP|apply qQ|apply qB));exact sw am.out (fun _ hk=>trivial)⟩,⟨yF⟩,⟨jR HB.out⟩⟩
 obtain⟨ea,bu⟩:∃y_:List Bool,y_=(([]:List Bool)):=⟨_,rfl⟩;replace H:(some ea)=some r:=lC bu H
 have cH:=dm bu;clear bu;obtain rfl:=Option.some.inj H
 go_enter Try.func115,Try.ntmps115
 go_wp2_with (first|((with_reducible refine ky 2 rfl ?_);refine kS #[.int .i64 ab,.slice ap aa.length ao] 31 ?_;intro aK hg eA jS hb;have ac:=dm (jS);have dn:=dm (kg:w.heap.size<=aK);have dq:=dm (kg:w.heap.size<=aK);replace HB:=jX HB hb;clear hb jS hg;have⟨el,em,en,eo⟩:=ko (w:=eA) ac)|((with_reducible refine kQ 85 rfl ?_);refine nC 11 rfl Try.func85 (om.calls (kv (kN aH.out HB.out)) aZ.out A3.out) ?_;intro fc hb;replace ac:=jU ac hb;replace HB:=jX HB hb;(try clear hb))|((with_reducible refine ky 13 rfl ?_);refine og Kd.bool rfl 4 ([]:List Bool) [] (kF.none _ _) ?_;intro e4 fd bE hb hg_ kV;clear hg_ kV;(first|rw[←cH.out]at bE|(simp only [Int.reduceToNat]at bE;rw[←cH.out]at bE));have dG:=dm (kP bE (kC (jR HB.out)));replace ac:=jU ac hb;replace HB:=jX HB hb;clear hb bE))
 go_ret
 exact⟨_,mW,jV dG.out,jR HB.out⟩
theorem yH(h:p:=by rw[hg];exact Nat.ne_of_lt (lq (g:=ao) (o:=.cells #[.int .i64 ab,.slice ak aa.length ai] 31 (0,0)) (jZ ac.out))):p:=h
theorem yI(h:p:=by rw[hg];exact Nat.ne_of_gt (lq (g:=ao) (o:=.cells #[.int .i64 ab,.slice ak aa.length ai] 31 (0,0)) (jZ ac.out))):p:=h
attribute [local go_sem high] y8
mutual
def nH.l0:Nat->List Int->Int->Int->List (S59)->Option (List Int)
 |0,_,_,_,_=>none
 |k+1,x3,x4,a4,a7=>if x4<a4 then((mU.f k a4 a7 x4).bind fun aU=>(nH.l1 k x3 x4 aU 0 a4 a7)) else(some x3)
def nH.l1:Nat->List Int->Int->List Bool->Int->Int->List (S59)->Option (List Int)
 |0,_,_,_,_,_,_=>none
 |k+1,x3,x4,x5,x6,a4,a7=>if 0<=x6 then(if x6<(x5.length:Int) then(if lW false x5 x6=true then(if x3.length<17592186044416 then(nH.l0 k (x3++[x6]) (wrap64 (x4+1)) a4 a7) else(none)) else(nH.l1 k x3 x4 x5 (wrap64 (x6+1)) a4 a7)) else(none)) else(none)
end
def nH.f (k:Nat) (ab:Int) (aa:List (S59)):Option (List Int):=(some (([]:List Int):List Int)).bind fun aV=>((lG.f k ab aa).bind fun ba=>(if ba=true then(nH.l0 k aV 0 ab aa) else(some aV)))
theorem nH.calls {k:Nat}{ab:Int}{ak:Option Addr}{ai:Nat}{aa:List (S59)}{r:List Int}{w:World}(aQ:Kd.C k59 w ak aa.length aa)(aR:aa.length<=ai)(h:nH.f k ab aa=some r):
  Calls Try.prog 92 #[.agg #[.int .i64 ab,.slice ak aa.length ai]] w fun e w'=>∃dw:Value,e=.returned (dw)/\Kd.R (Kd.int .i64) 3 w' w.heap.size (fun _=>True) dw r/\Below w.heap.size w w':=by
 have b7:=Try.underlying31;have aw:=dm aQ;have aA:=dm aR;clear aQ aR;have HB:=dm (Below.refl w.heap.size w);unfold nH.f at h;have H:=h;clear h;obtain⟨aV,bA⟩:∃y_:List Int,y_=(([]:List Int)):=⟨_,rfl⟩;replace H:((lG.f k ab aa).bind fun ba=>(if ba=true then(nH.l0 k aV 0 ab aa) else(some aV)))=some r:=lC bA H
 have bQ:=dm bA;clear bA;obtain⟨ba,A2,H⟩:=kR H;(try dsimp only at H)
 rcases lV H with⟨h_,H_⟩|⟨h_,H_⟩<;> (subst h_;clear H;have H:=H_;clear H_)
 ·have H':=dm H;clear H
  go_enter Try.func92,Try.ntmps92
  go_wp2_with (first|((with_reducible refine ky 1 rfl ?_);refine kS #[.int .i64 ab,.slice ak aa.length ai] 31 ?_;intro a_ hg w4 jS hb;have aj:=dm (jS);have cS:=dm (kg:w.heap.size<=a_);have cT:=dm (kg:w.heap.size<=a_);replace HB:=jX HB hb;clear hb jS hg)|((with_reducible refine ky 7 rfl ?_);refine og (Kd.int .i64) rfl 3 ([]:List Int) [] (kF.none _ _) ?_;intro dB w5 bY hb hg_ kV;clear hg_ kV;(first|rw[←bQ.out]at bY|(simp only [Int.reduceToNat]at bY;rw[←bQ.out]at bY));have aZ:=dm (kP bY (kC (jR HB.out)));replace aj:=jU aj hb;replace HB:=jX HB hb;clear hb bY;have⟨cu,cv,cw,cx⟩:=ko (w:=w5) aj)|((with_reducible refine kQ 32 rfl ?_);refine nC 9 rfl Try.func32 (lG.calls (kv (kN aw.out HB.out)) aA.out A2.out) ?_;intro w8 hb;replace aZ:=kD aZ hb;replace aj:=jU aj hb;replace HB:=jX HB hb;(try clear hb)))
  go_loopg [3,4] k (fun kq v3 v4 w'=>∃ (aH:List Int) (aq:Int),v4=.int .i64 aq/\jP (nH.l0 kq aH aq ab aa=some r)/\jP (kq<=k)/\jP (Kd.R (Kd.int .i64) 3 w' w.heap.size (fun _=>True) v3 aH)/\jP (w'.heap[a_]? =some (.cells #[.int .i64 ab,(.slice ak aa.length ai)] 31 (0,0)))/\jP (Below w.heap.size w w'))
  case atStart=>exact⟨(aV),(0),(ku),H',⟨Nat.le_refl _⟩,⟨jV aZ.out⟩,⟨jZ aj.out⟩,⟨jR HB.out⟩⟩
  case round=>
   clear H';(try clear c3 cu cv cw cx);obtain⟨aH,aq,rfl,HA,a5,az,aj,HB⟩:=hrel;cases gk with
   |zero=>exact absurd HA.out (by simp[nH.l0])
   |succ k1=>
    have H:=HA.out;clear HA;simp only [nH.l0]at H
    replace H:=lH H;rcases H with⟨cy,H⟩|⟨cy,H⟩
    ·obtain⟨aU,eI,H⟩:=kR H;(try dsimp only at H);have H':=dm H;clear H;have⟨bF,bG,bH,bI⟩:=ko (w:=wr) aj
     go_wp2_with (first|((with_reducible refine kQ 115 rfl ?_);refine lL 20 rfl Try.func115 (mU.calls (kv (kN aw.out HB.out)) aA.out eI.out) ?_;rintro e cf ⟨dC,rfl,bZ,hb⟩;refine⟨_,rfl,?_⟩;replace az:=kD az hb;have cU:=dm (kP bZ (kC (jR HB.out)));replace aj:=jU aj hb;replace HB:=jX HB hb;(try clear hb bZ)))
     go_loopg [6] k1 (fun kq v6 w'=>∃ (au:Int),v6=.int .i64 au/\jP (nH.l1 kq aH aq aU au ab aa=some r)/\jP (kq<=k1)/\jP (Kd.R (Kd.int .i64) 3 w' w.heap.size (fun _=>True) u3 aH)/\jP (Kd.R Kd.bool 4 w' w.heap.size (fun _=>True) dC aU)/\jP (w'.heap[a_]? =some (.cells #[.int .i64 ab,(.slice ak aa.length ai)] 31 (0,0)))/\jP (Below w.heap.size w w'))
     case atStart=>exact⟨(0),(ku),H',⟨Nat.le_refl _⟩,⟨jV az.out⟩,⟨jV cU.out⟩,⟨jZ aj.out⟩,⟨jR HB.out⟩⟩
     case round=>
      clear H';(try clear cy bF bG bH bI);obtain⟨au,rfl,HA,cg,az,bf,aj,HB⟩:=hrel;cases gk with
      |zero=>exact absurd HA.out (by simp[nH.l1])
      |succ k2=>
       have H:=HA.out;clear HA;simp only [nH.l1]at H
       obtain⟨eV,H⟩:=kX H
       obtain⟨eW,H⟩:=kX H;obtain⟨cz,bV⟩:∃b_:Bool,b_=(lW false aU au):=⟨_,rfl⟩;replace H:(if cz=true then(if aH.length<17592186044416 then(nH.l0 k2 (aH++[au]) (wrap64 (aq+1)) ab aa) else(none)) else(nH.l1 k2 aH aq aU (wrap64 (au+1)) ab aa))=some r:=by rw[←bV]at H;exact H
       have cj:=dm bV;clear bV
       rcases lV H with⟨h_,H_⟩|⟨h_,H_⟩<;> (subst h_;clear H;have H:=H_;clear H_)
       ·skip
        obtain⟨bB,H⟩:=mH H;have cW:=dm bB;clear bB;obtain⟨cA,bC⟩:∃y_:List Int,y_=(aH++[au]):=⟨_,rfl⟩;replace H:(nH.l0 k2 cA (wrap64 (aq+1)) ab aa)=some r:=lC bC H
        have cX:=dm bC;clear bC;have H':=dm H;clear H;obtain⟨fq,ft,dD⟩:=kK bf.out;subst dD;have bq:0<=(au:Int):=jT;have br:au<(aU.length:Int):=jT;obtain⟨cY,b8,bJ⟩:=ui (kr bf.out).2.2 au bq br;(try rw[←cj.out]at bJ);cases b8;replace bq:=eq_true bq;replace br:=eq_true br
        go_wp2_with (first|((with_reducible refine oh (b:=.append) (xs:= #[.tmp 28,.tmp 30]) rfl ?_);at_builtin;refine pg (Kd.int .i64) (w0:=w) w.heap.size rfl (.tmp 28) (.tmp 30) 45 3 (.int .i64 0) 8 rfl Try.underlying45 info3 rfl (by decide) (by omega) u3 aH au [.int .i64 au] (fun _=>True) (fun _=>False) rfl rfl ?aP (fun _ hk=>hk.elim) ?aF ?aO ?aB ?aS ?aL ?_;(case aP=>exact rfl);(case aB=>exact(jR HB.out));(case aF=>exact(fun _ _=>trivial));(case aO=>exact(jV az.out));(case aS=>exact(kC (jR HB.out)));(case aL=>have:=cW.out;omega);intro fu fI ho hb hg hat;rw[←cX.out]at ho;have n0:=dm (nU (jV bf.out) (nV (jV az.out)) (by decide) hg);have n1:=lY aj hg (lS az.out aj.out (by decide));have n2:=dm (hb);have n3:=dm (ho);clear bf aj HB az;revert n0 n1 n2 n3;intro bf aj HB cZ;clear ho hb hg hat))
        go_roundg k2
        case measure=>have:=a5.out;have:=cg.out;omega
        case rel=>exact⟨(cA),(wrap64 (aq+1)),(ku),H',⟨by have:=a5.out;have:=cg.out;omega⟩,⟨jV cZ.out⟩,⟨jZ aj.out⟩,⟨jR HB.out⟩⟩
       have H':=dm H;clear H;obtain⟨fv,fw,dE⟩:=kK bf.out;subst dE;have bq:0<=(au:Int):=jT;have br:au<(aU.length:Int):=jT;obtain⟨cY,b8,bJ⟩:=ui (kr bf.out).2.2 au bq br;(try rw[←cj.out]at bJ);cases b8;replace bq:=eq_true bq;replace br:=eq_true br
       go_wp2
       go_roundg k2
       case measure=>have:=a5.out;have:=cg.out;omega
       case rel=>exact⟨(wrap64 (au+1)),(ku),H',⟨by have:=a5.out;have:=cg.out;omega⟩,⟨jV az.out⟩,⟨jV bf.out⟩,⟨jZ aj.out⟩,⟨jR HB.out⟩⟩
    obtain rfl:=Option.some.inj H;have⟨dL,dM,dN,dO⟩:=ko (w:=wr) aj
    go_wp2
    go_ret
    exact⟨_,mW,jV az.out,jR HB.out⟩
 obtain rfl:=Option.some.inj H
 go_enter Try.func92,Try.ntmps92
 go_wp2_with (first|((with_reducible refine ky 1 rfl ?_);refine kS #[.int .i64 ab,.slice ak aa.length ai] 31 ?_;intro a_ hg fJ jS hb;have aj:=dm (jS);have cS:=dm (kg:w.heap.size<=a_);have cT:=dm (kg:w.heap.size<=a_);replace HB:=jX HB hb;clear hb jS hg)|((with_reducible refine ky 7 rfl ?_);refine og (Kd.int .i64) rfl 3 ([]:List Int) [] (kF.none _ _) ?_;intro dB eJ bR hb hg_ kV;clear hg_ kV;(first|rw[←bQ.out]at bR|(simp only [Int.reduceToNat]at bR;rw[←bQ.out]at bR));have aZ:=dm (kP bR (kC (jR HB.out)));replace aj:=jU aj hb;replace HB:=jX HB hb;clear hb bR;have⟨dP,dQ,dR,dS⟩:=ko (w:=eJ) aj)|((with_reducible refine kQ 32 rfl ?_);refine nC 9 rfl Try.func32 (lG.calls (kv (kN aw.out HB.out)) aA.out A2.out) ?_;intro eK hb;replace aZ:=kD aZ hb;replace aj:=jU aj hb;replace HB:=jX HB hb;(try clear hb)))
 go_ret
 exact⟨_,mW,jV aZ.out,jR HB.out⟩
def nJ.l0:Nat->List Int->Int->Int->Option (Int)
 |0,_,_,_=>none
 |k+1,x3,x4,x5=>if x5<(x3.length:Int) then(if 0<=x5 then(if(rd x3 x5)=x5 then(nJ.l0 k x3 (wrap64 (x4+1)) (wrap64 (x5+1))) else(nJ.l0 k x3 x4 (wrap64 (x5+1)))) else(none)) else(some x4)
def nJ.f (k:Nat) (ab:Int) (aa:List (S59)):Option (Int):=(lG.f k ab aa).bind fun bK=>(if bK=true then((nH.f k ab aa).bind fun av=>(nJ.l0 k av 0 0)) else(some (-1)))
theorem nJ.calls {k:Nat}{ab:Int}{ak:Option Addr}{ai:Nat}{aa:List (S59)}{r:Int}{w:World}(aQ:Kd.C k59 w ak aa.length aa)(aR:aa.length<=ai)(h:nJ.f k ab aa=some r):
  Calls Try.prog 57 #[.agg #[.int .i64 ab,.slice ak aa.length ai]] w fun e w'=>e=.returned (.int .i64 r)/\Below w.heap.size w w':=by
 have b7:=Try.underlying31;have aw:=dm aQ;have aA:=dm aR;clear aQ aR;have HB:=dm (Below.refl w.heap.size w);unfold nJ.f at h;have H:=h;clear h;obtain⟨bK,A2,H⟩:=kR H;(try dsimp only at H)
 rcases lV H with⟨h_,H_⟩|⟨h_,H_⟩<;> (subst h_;clear H;have H:=H_;clear H_)
 ·obtain⟨av,A4,H⟩:=kR H;(try dsimp only at H);have H':=dm H;clear H
  go_enter Try.func57,Try.ntmps57
  go_wp2_with (first|((with_reducible refine ky 1 rfl ?_);refine kS #[.int .i64 ab,.slice ak aa.length ai] 31 ?_;intro bk hg w5 jS hb;have ax:=dm (jS);have c_:=dm (kg:w.heap.size<=bk);have db:=dm (kg:w.heap.size<=bk);replace HB:=jX HB hb;clear hb jS hg;have⟨cD,cE,cF,cG⟩:=ko (w:=w5) ax)|((with_reducible refine kQ 32 rfl ?_);refine nC 7 rfl Try.func32 (lG.calls (kv (kN aw.out HB.out)) aA.out A2.out) ?_;intro w7 hb;replace ax:=jU ax hb;replace HB:=jX HB hb;(try clear hb);have⟨b3,b4,b5,b6⟩:=ko (w:=w7) ax)|((with_reducible refine kQ 92 rfl ?_);refine lL 10 rfl Try.func92 (nH.calls (kv (kN aw.out HB.out)) aA.out A4.out) ?_;rintro e w9 ⟨dF,rfl,bZ,hb⟩;refine⟨_,rfl,?_⟩;have dc:=dm (kP bZ (kC (jR HB.out)));replace ax:=jU ax hb;replace HB:=jX HB hb;(try clear hb bZ)))
  go_loopg [4,5] k (fun kq v4 v5 w'=>∃ (aq:Int) (am:Int),v4=.int .i64 aq/\v5=.int .i64 am/\jP (nJ.l0 kq av aq am=some r)/\jP (kq<=k)/\jP (Kd.R (Kd.int .i64) 3 w' w.heap.size (fun _=>True) dF av)/\jP (w'.heap[bk]? =some (.cells #[.int .i64 ab,(.slice ak aa.length ai)] 31 (0,0)))/\jP (Below w.heap.size w w'))
  case atStart=>exact⟨(0),(0),(ku),(ku),H',⟨Nat.le_refl _⟩,⟨jV dc.out⟩,⟨jZ ax.out⟩,⟨jR HB.out⟩⟩
  case round=>
   clear H';(try clear c3 cD cE b3 b4 cF cG b5 b6);obtain⟨aq,am,rfl,rfl,HA,a5,az,ax,HB⟩:=hrel;cases gk with
   |zero=>exact absurd HA.out (by simp[nJ.l0])
   |succ k1=>
    have H:=HA.out;clear HA;simp only [nJ.l0]at H
    replace H:=lH H;rcases H with⟨dd,H⟩|⟨dd,H⟩
    ·skip
     obtain⟨eX,H⟩:=kX H
     by_cases bS:(rd av am)=am
     ·rw[if_pos bS]at H;have de:=beq_iff_eq.mpr bS;have df:=bne_eq_false_iff_eq.mpr bS;clear bS;have H':=dm H;clear H;obtain⟨fx,fy,dG⟩:=kK az.out;subst dG;have bu:0<=(am:Int):=jT;have bv:am<(av.length:Int):=jT;obtain⟨dg,b9,co⟩:=kZ (kr az.out).2.2 am bu bv;cases b9;replace bu:=eq_true bu;replace bv:=eq_true bv
      go_wp2
      go_roundg k1
      case measure=>have:=a5.out;omega
      case rel=>exact⟨(wrap64 (aq+1)),(wrap64 (am+1)),(ku),(ku),H',⟨by have:=a5.out;omega⟩,⟨jV az.out⟩,⟨jZ ax.out⟩,⟨jR HB.out⟩⟩
     rw[if_neg bS]at H;have de:=beq_eq_false_iff_ne.mpr bS;have df:=bne_iff_ne.mpr bS;have H':=dm H;clear H;obtain⟨fz,fA,dH⟩:=kK az.out;subst dH;have bu:0<=(am:Int):=jT;have bv:am<(av.length:Int):=jT;obtain⟨dg,b9,co⟩:=kZ (kr az.out).2.2 am bu bv;cases b9;replace bu:=eq_true bu;replace bv:=eq_true bv
     go_wp2
     go_roundg k1
     case measure=>have:=a5.out;omega
     case rel=>exact⟨(aq),(wrap64 (am+1)),(ku),(ku),H',⟨by have:=a5.out;omega⟩,⟨jV az.out⟩,⟨jZ ax.out⟩,⟨jR HB.out⟩⟩
    obtain rfl:=Option.some.inj H;obtain⟨fB,fC,dI⟩:=kK az.out;subst dI
    go_wp2
    go_ret
    exact⟨lT,jR HB.out⟩
 obtain rfl:=Option.some.inj H
 go_enter Try.func57,Try.ntmps57
 go_wp2_with (first|((with_reducible refine ky 1 rfl ?_);refine kS #[.int .i64 ab,.slice ak aa.length ai] 31 ?_;intro bk hg eL jS hb;have ax:=dm (jS);have c_:=dm (kg:w.heap.size<=bk);have db:=dm (kg:w.heap.size<=bk);replace HB:=jX HB hb;clear hb jS hg;have⟨dT,dU,dV,dW⟩:=ko (w:=eL) ax)|((with_reducible refine kQ 32 rfl ?_);refine nC 7 rfl Try.func32 (lG.calls (kv (kN aw.out HB.out)) aA.out A2.out) ?_;intro fK hb;replace ax:=jU ax hb;replace HB:=jX HB hb;(try clear hb)))
 go_ret
 exact⟨lT,jR HB.out⟩
def tV.f (k:Nat) (ab:Int) (aa:List (S59)) (a1:Int) (a2:Int):Option (Bool):=(lG.f k ab aa).bind fun bL=>(if bL=true then((nK.f k ab aa a1 a2).bind fun a6=>(some a6)) else(some false))
theorem tV.calls {k:Nat}{ab:Int}{ak:Option Addr}{ai:Nat}{aa:List (S59)}{a1:Int}{a2:Int}{r:Bool}{w:World}(aQ:Kd.C k59 w ak aa.length aa)(aR:aa.length<=ai)(h:tV.f k ab aa a1 a2=some r):
  Calls Try.prog 86 #[.agg #[.int .i64 ab,.slice ak aa.length ai],.int .i64 a1,.int .i64 a2] w fun e w'=>e=.returned (.bool r)/\Below w.heap.size w w':=by
 have b7:=Try.underlying31;have aw:=dm aQ;have aA:=dm aR;clear aQ aR;have HB:=dm (Below.refl w.heap.size w);unfold tV.f at h;have H:=h;clear h;obtain⟨bL,A4,H⟩:=kR H;(try dsimp only at H)
 rcases lV H with⟨h_,H_⟩|⟨h_,H_⟩<;> (subst h_;clear H;have H:=H_;clear H_)
 ·obtain⟨a6,A6,H⟩:=kR H;(try dsimp only at H);obtain rfl:=Option.some.inj H
  go_enter Try.func86,Try.ntmps86
  go_wp2_with (first|((with_reducible refine ky 3 rfl ?_);refine kS #[.int .i64 ab,.slice ak aa.length ai] 31 ?_;intro bD hg w7 jS hb;have aD:=dm (jS);have dh:=dm (kg:w.heap.size<=bD);have di:=dm (kg:w.heap.size<=bD);replace HB:=jX HB hb;clear hb jS hg;have⟨b3,b4,b5,b6⟩:=ko (w:=w7) aD)|((with_reducible refine kQ 32 rfl ?_);refine nC 8 rfl Try.func32 (lG.calls (kv (kN aw.out HB.out)) aA.out A4.out) ?_;intro w9 hb;replace aD:=jU aD hb;replace HB:=jX HB hb;(try clear hb);have⟨dX,dY,dZ,d7⟩:=ko (w:=w9) aD)|(go_at_call 113;refine(nK.calls (kv (kN aw.out HB.out)) aA.out A6.out).mono ?_;rintro e fL ⟨rfl,hb⟩;replace aD:=jU aD hb;replace HB:=jX HB hb;(try clear hb)))
  go_ret
  exact⟨lT,jR HB.out⟩
 obtain rfl:=Option.some.inj H
 go_enter Try.func86,Try.ntmps86
 go_wp2_with (first|((with_reducible refine ky 3 rfl ?_);refine kS #[.int .i64 ab,.slice ak aa.length ai] 31 ?_;intro bD hg cf jS hb;have aD:=dm (jS);have dh:=dm (kg:w.heap.size<=bD);have di:=dm (kg:w.heap.size<=bD);replace HB:=jX HB hb;clear hb jS hg;have⟨d8,d9,d_,ea⟩:=ko (w:=cf) aD)|((with_reducible refine kQ 32 rfl ?_);refine nC 8 rfl Try.func32 (lG.calls (kv (kN aw.out HB.out)) aA.out A4.out) ?_;intro fM hb;replace aD:=jU aD hb;replace HB:=jX HB hb;(try clear hb)))
 go_ret
 exact⟨lT,jR HB.out⟩
def mf.l0:Nat->Int->Int->Int->Int->List (S59)->Int->List (S59)->Option (Int× (List (S59))×Bool)
 |0,_,_,_,_,_,_,_=>none
 |k+1,x1,x2,x9,bT,aW,bM,bl=>if x9<(aW.length:Int) then(if 0<=x9 then((qA.f x1 x2).bind fun cl=>(if(!(((jQ aW x9).f0)==cl.1)||(!(((jQ aW x9).f1)==cl.2)))=true then(if bl.length<8796093022208 then(mf.l0 k x1 x2 (wrap64 (x9+1)) bT aW bM (bl++[(⟨(jQ aW x9).f0,(jQ aW x9).f1⟩:S59)])) else(none)) else(mf.l0 k x1 x2 (wrap64 (x9+1)) bT aW bM bl))) else(none)) else(some (bM,bl,true))
def mf.f (k:Nat) (ab:Int) (aa:List (S59)) (a1:Int) (a2:Int):Option (Int× (List (S59))×Bool):=(tV.f k ab aa a1 a2).bind fun bN=>(if bN=true then(mf.l0 k a1 a2 0 ab aa ab ([]:List (S59))) else(some (0,([]:List (S59)),false)))
def mf.T7:Bool×List (List Nat×List Nat):=(true,[([],[]),([0],[0]),([],[]),([1,2],[1,2]),([3],[3]),([],[]),([],[]),([5,6],[5,6]),([4,7],[4,7])])
def mf.B7:List Nat:=[0,1,0,7,15,0,0,96,255]
theorem mf.rH:mi .any (opsOf Try.f95 7)=mf.T7:=by kernel_rfl
theorem mf.ry:nY mf.T7.2 mf.B7=true:=by kernel_rfl
def mf.T8:Bool×List (List Nat×List Nat):=(true,[([],[]),([0],[0]),([],[]),([2],[2]),([],[]),([3,4],[3,4]),([5],[5]),([6],[6]),([1,7],[1,7]),([0,1,2,3,4,5,6,7,8],[]),([9,8,8,0,1,2,3,4,5,6,7,8],[8,9])])
def mf.B8:List Nat:=[0,1,0,4,0,28,60,124,255,511,1023]
theorem mf.wz:mi .any (opsOf Try.f95 8)=mf.T8:=by kernel_rfl
theorem mf.vC:nY mf.T8.2 mf.B8=true:=by kernel_rfl
theorem mf.calls {k:Nat}{ab:Int}{ak:Option Addr}{ai:Nat}{aa:List (S59)}{a1:Int}{a2:Int}{r1:Int}{r2:List (S59)}{r3:Bool}{w:World}(aQ:Kd.C k59 w ak aa.length aa)(aR:aa.length<=ai)(h:mf.f k ab aa a1 a2=some (r1,r2,r3)):
  Calls Try.prog 95 #[.agg #[.int .i64 ab,.slice ak aa.length ai],.int .i64 a1,.int .i64 a2] w fun e w'=>∃dx:Value,e=.returned (.tuple #[.agg #[.int .i64 r1,dx],.bool r3])/\Kd.R k59 59 w' w.heap.size (fun _=>True) dx r2/\Below w.heap.size w w':=by
 have b7:=Try.underlying31;have fD:=Try.underlying59;have aw:=dm aQ;have aA:=dm aR;clear aQ aR;have HB:=dm (Below.refl w.heap.size w);unfold mf.f at h;have H:=h;clear h;obtain⟨bN,A4,H⟩:=kR H;(try dsimp only at H)
 rcases lV H with⟨h_,H_⟩|⟨h_,H_⟩<;> (subst h_;clear H;have H:=H_;clear H_)
 ·have H':=dm H;clear H
  go_enter Try.func95,Try.ntmps95
  go_wp2_with (first|((with_reducible refine ky 3 rfl ?_);refine kS #[.int .i64 ab,.slice ak aa.length ai] 31 ?_;intro ao hg w6 jS hb;have ac:=dm (jS);have dj:=dm (kg:w.heap.size<=ao);have dk:=dm (kg:w.heap.size<=ao);replace HB:=jX HB hb;clear hb jS hg)|((with_reducible refine ky 6 rfl ?_);refine kS #[.int .i64 0,.slice none 0 0] 31 ?_;intro ap hg w7 jS hb;have ag:=dm (jS);have dl:=dm (kg:w.heap.size<=ap);have dn:=dm (kg:w.heap.size<=ap);replace HB:=jX HB hb;have aI:=dm (yH:ao≠ap);have aK:=dm (yI:ap≠ao);replace ac:=jU ac hb;clear hb jS hg;have fE:=aI.out;have fF:=aK.out;have⟨cH,cI,cJ,cL⟩:=ko (w:=w7) ac)|((with_reducible refine kQ 86 rfl ?_);refine nC 13 rfl Try.func86 (tV.calls (kv (kN aw.out HB.out)) aA.out A4.out) ?_;intro eM hb;replace ac:=jU ac hb;replace ag:=jU ag hb;replace HB:=jX HB hb;(try clear hb);have⟨bF,bG,bH,bI⟩:=ko (w:=eM) ac)|((with_reducible refine ky 8 rfl ?_);refine kS #[.int .i64 0,.slice none 0 0] 31 ?_;intro aT hg cf jS hb;have ah:=dm (jS);have eY:=dm (kg:w.heap.size<=aT);have eZ:=dm (kg:w.heap.size<=aT);replace HB:=jX HB hb;have ay:=dm (yH:ao≠aT);have aY:=dm (yI:aT≠ao);replace ac:=jU ac hb;have aM:=dm ((by rw[hg];exact Nat.ne_of_lt (lq (g:=ap) (o:=.cells #[.int .i64 0,.slice none 0 0] 31 (0,0)) (jZ ag.out)):ap≠aT));have bj:=dm ((by rw[hg];exact Nat.ne_of_gt (lq (g:=ap) (o:=.cells #[.int .i64 0,.slice none 0 0] 31 (0,0)) (jZ ag.out)):aT≠ap));replace ag:=jU ag hb;clear hb jS hg;have e2:=aY.out;have e3:=ay.out;have e4:=bj.out;have e5:=aM.out;have⟨cp,cq,cr,ct⟩:=ko (w:=cf) ah))
  go_loopg [9] k (fun kq v9 w'=>∃ (af:Int) (al:List (S59)) (aN:Value),v9=.int .i64 af/\jP (mf.l0 kq a1 a2 af ab aa ab al=some (r1,r2,r3))/\jP (kq<=k)/\jP (Kd.R k59 59 w' w.heap.size (fun _=>True) aN al)/\jP (w'.heap[ao]? =some (.cells #[.int .i64 ab,(.slice ak aa.length ai)] 31 (0,0)))/\jP (w'.heap[ap]? =some (.cells #[.int .i64 0,(.slice none 0 0)] 31 (0,0)))/\jP (w'.heap[aT]? =some (.cells #[.int .i64 ab,aN] 31 (0,0)))/\jP (Below w.heap.size w w'))
  case atStart=>exact⟨(0),(([]:List (S59))),(.slice none 0 0),(ku),H',⟨Nat.le_refl _⟩,⟨by first|exact sS _ _ _ _ _|exact wF _ _ _ _ _|exact wT _ _ _ _ _|exact wH _ _ _ _ _|exact wR _ _ _ _ _⟩,⟨lI ac.out⟩,⟨lI ag.out⟩,⟨lI ah.out⟩,⟨jR HB.out⟩⟩
  case round=>
   clear H';(try clear c5 bF bG cp cq cH cI bH bI cr ct cJ cL);obtain⟨af,al,aN,rfl,HA,a5,ae,ac,ag,ah,HB⟩:=hrel;cases gk with
   |zero=>exact absurd HA.out (by simp[mf.l0])
   |succ k1=>
    have H:=HA.out;clear HA;simp only [mf.l0]at H
    replace H:=lH H;rcases H with⟨dq,H⟩|⟨dq,H⟩
    ·skip
     obtain⟨e6,H⟩:=kX H;obtain⟨⟨bO,bP⟩,dy,H⟩:=kR H;(try dsimp only at H)
     by_cases bU:(!(((jQ aa af).f0)==bO)||(!(((jQ aa af).f1)==bP)))=true
     ·rw[if_pos bU]at H;have dr:(!(((jQ aa af).f0)==bO)||(!(((jQ aa af).f1)==bP)))=true:=bU;clear bU
      obtain⟨cm,H⟩:=mH H;have dt:=dm cm;clear cm;obtain⟨bW,bE⟩:∃y_:List (S59),y_=(al++[(⟨(jQ aa af).f0,(jQ aa af).f1⟩:S59)]):=⟨_,rfl⟩;replace H:(mf.l0 k1 a1 a2 (wrap64 (af+1)) ab aa ab bW)=some (r1,r2,r3):=lC bE H
      have du:=dm bE;clear bE;have H':=dm H;clear H;have e7:=aI.out;have e8:=aK.out;have e9:=ay.out;have fa:=aY.out;have⟨eb,ec,ed,ee⟩:=ko (w:=wr) ac;try go_wp2
      replace ae:=dm (kw ae.out);replace ac:=dm (kU ac.out);replace ag:=dm (kU ag.out);replace ah:=dm (kU ah.out);replace HB:=dm (mg HB.out);have bx:0<=(af:Int):=jT;have bz:af<(aa.length:Int):=jT;obtain⟨aC,ca,aE,aG⟩:=l7 aw.out af bx bz;have a8:=aG;have a9:=aE;cases ca;replace aE:=j4 HB aE;replace aG:=j4 HB aG;replace bx:=eq_true bx;replace bz:=eq_true bz;refine nk 9 (S:=fun w'=>w'.cell? ⟨ao,0,none⟩=some (.int .i64 ab)/\w'.cell? ⟨ao,1,none⟩=some (.slice (some aC) aa.length ai)/\w'.cell? (aC.add ((af).toNat*2))=some (.int .i64 ((jQ aa af).f0))/\w'.cell? ⟨(aC.add ((af).toNat*2)).block,(aC.add ((af).toNat*2)).off+1,none⟩=some (.int .i64 ((jQ aa af).f1))) [] ⟨jY ac 0,jY ac 1,(j4 HB a9),(j4 HB a8)⟩ mf.rH mf.ry (fun hHeld HT_ HW_=>?_);generalize wr.drew=fN at ae ac ag ah HB aE aG hHeld⊢;refine jW 0 26 1 ?_;refine jW 2 28 5 ?_;refine jW 5 31 37 ?_;refine jW 6 32 101 ?_;refine kL 1 27 103 ?_;refine jW 3 29 111 ?_;refine kL 4 30 127 ?_;refine l6 7 33 255 (fun K hK=>?_);refine qy Try.func46 (qA.calls dy.out) ?_;intro eN hb;replace ae:=kD ae hb;replace ac:=jU ac hb;replace ag:=jU ag hb;replace ah:=jU ah hb;replace HB:=jX HB hb;(try clear hb eO hk hi);refine hK.out _ _ ⟨jY ac 0,jY ac 1,(j4 HB a9),(j4 HB a8)⟩ (fun hHeld=>?_);clear hK K;refine ll 33 ?_;refine jW 8 34 511 ?_;refine mD (mV HT_.out (lg)) ?_;try go_wp2
      replace ae:=dm (kw ae.out);replace ac:=dm (kU ac.out);replace ag:=dm (kU ag.out);replace ah:=dm (kU ah.out);replace HB:=dm (mg HB.out);have cd:0<=(af:Int):=jT;have ce:af<(aa.length:Int):=jT;obtain⟨dv,dJ,bm,bn⟩:=l7 aw.out af cd ce;have bo:=bn;have bp:=bm;obtain rfl:aC=dv:=(by injection dJ);replace bm:=j4 HB bm;replace bn:=j4 HB bn;replace cd:=eq_true cd;replace ce:=eq_true ce;refine nk 11 (S:=fun w'=>w'.cell? ⟨aT,0,none⟩=some (.int .i64 ab)/\w'.cell? ⟨aT,1,none⟩=some (aN)/\w'.cell? ⟨ao,0,none⟩=some (.int .i64 ab)/\w'.cell? ⟨ao,1,none⟩=some (.slice (some aC) aa.length ai)/\w'.cell? (aC.add ((af).toNat*2))=some (.int .i64 ((jQ aa af).f0))/\w'.cell? ⟨(aC.add ((af).toNat*2)).block,(aC.add ((af).toNat*2)).off+1,none⟩=some (.int .i64 ((jQ aa af).f1))) [10] ⟨jY ah 0,jY ah 1,jY ac 0,jY ac 1,(j4 HB bp),(j4 HB bo)⟩ mf.wz mf.vC (fun hHeld HT_ HW_=>?_);generalize eN.drew=eK at ae ac ag ah HB bm bn hHeld⊢;refine jW 0 35 1 ?_;refine jW 2 37 5 ?_;refine jW 4 39 21 ?_;refine kL 1 36 23 ?_;refine kL 3 38 31 ?_;refine jW 5 40 63 ?_;refine kL 6 41 127 ?_;refine l6 7 42 255 (fun K hK=>?_);refine xN (w1:= ?_) (v:= ?_) (by rfl) rfl ?_ ?_;rotate_left 2
      ·go_simp
       constructor
       ·rfl
       rfl
      refine hK.out _ _ ⟨(mq (nQ ah.out _) 0).trans rfl,(mq (nQ ah.out _) 1).trans rfl,(mq (nQ ac.out _) 0).trans rfl,(mq (nQ ac.out _) 1).trans rfl,(World.cell?_alloc_lt _ _ _ (World.block_lt_of_cell? _ _ ((j4 HB bp)))).trans ((j4 HB bp)),(World.cell?_alloc_lt _ _ _ (World.block_lt_of_cell? _ _ ((j4 HB bo)))).trans ((j4 HB bo))⟩ (fun hHeld=>?_);clear hK K;refine ll 42 ?_;refine l6 8 43 511 (fun K hK=>?_);refine wJ k59 (w0:=w) w.heap.size (by rfl) (.tmp 36) (.tmp 42) 29 59 (.agg #[(.int .i64 0),(.int .i64 0)]) 16 rfl Try.underlying29 sH rfl (by decide) (by omega) aN al (⟨(jQ aa af).f0,(jQ aa af).f1⟩:S59) [.int .i64 ((jQ aa af).f0),.int .i64 ((jQ aa af).f1)] (fun _=>True) (fun _=>False) rfl rfl ?aP (fun _ hk=>hk.elim) ?aF ?aO ?aB ?aS ?aL ?_;(case aP=>exact qg _ _ _ (⟨(jQ aa af).f0,(jQ aa af).f1⟩:S59));(case aB=>exact(jR HB.out));(case aF=>exact(fun _ _=>trivial));(case aO=>exact(jV ae.out));(case aS=>exact(kC (jR HB.out)));(case aL=>have:=dt.out;omega);intro fG eP ho hb hg hat;rw[←du.out]at ho;have n0:=lY ac hg (lS ae.out ac.out (by decide));have n1:=lY ag hg (lS ae.out ag.out (by decide));have n2:=lY ah hg (lS ae.out ah.out (by decide));have n3:=dm (hb);have n4:=dm (ho);clear ac ag ah HB ae;revert n0 n1 n2 n3 n4;intro ac ag ah HB cn;clear ho hb hg hat;obtain⟨cM,cN,cO⟩:=kK cn.out;(first|subst cO|(injection cO with dz eQ dA;have eR:=dz.symm;have eS:=dA.symm;clear dz eQ dA;subst eR;subst eS));refine hK.out _ _ ⟨jY ah 0,jY ah 1,jY ac 0,jY ac 1,(j4 HB bp),(j4 HB bo)⟩ (fun hHeld=>?_);clear hK K;refine ll 43 ?_;refine jW 9 44 1023 ?_;refine uq 10 (none) (lJ 11 2047) (fun K hK=>?_);have fH:eP.cell? ⟨aT,1,none⟩=some (aN):=jY ah 1;have fb:=l8 ah.out 1;have ef:=ay.out;have eg:=aM.out;have eh:=aY.out;have ei:=bj.out;refine r_ (w1:= ?_) (by rfl) rfl ?_ ?_;rotate_left
      ·go_simp
       rfl
      refine hK.out _ _ ?_;clear hK K;refine mD (mV HT_.out (lg)) ?_;try go_wp2
      go_roundg k1
      case measure=>have:=a5.out;omega
      case rel=>exact⟨(wrap64 (af+1)),(bW),(.slice cM bW.length cN),(ku),H',⟨by have:=a5.out;omega⟩,⟨by(with_reducible repeat(first|apply kI|apply kJ|apply kw));exact kz (lh (p:=⟨aT,1,none⟩) (mr cn.out ah.out (by decide)) (fun _ hk=>hk.2) (.slice cM bW.length cN)) (fun _ hk=>trivial)⟩,⟨lI ac.out⟩,⟨lI ag.out⟩,⟨lI ah.out⟩,⟨jR HB.out⟩⟩
     rw[if_neg bU]at H;have dr:(!(((jQ aa af).f0)==bO)||(!(((jQ aa af).f1)==bP)))=false:=by simpa using bU
     clear bU;have H':=dm H;clear H;have fc:=aI.out;have fd:=aK.out;have fe:=ay.out;have ff:=aY.out;have⟨ej,ek,el,em⟩:=ko (w:=wr) ac;try go_wp2
     replace ae:=dm (kw ae.out);replace ac:=dm (kU ac.out);replace ag:=dm (kU ag.out);replace ah:=dm (kU ah.out);replace HB:=dm (mg HB.out);have bx:0<=(af:Int):=jT;have bz:af<(aa.length:Int):=jT;obtain⟨aC,ca,aE,aG⟩:=l7 aw.out af bx bz;have a8:=aG;have a9:=aE;cases ca;replace aE:=j4 HB aE;replace aG:=j4 HB aG;replace bx:=eq_true bx;replace bz:=eq_true bz;refine nk 9 (S:=fun w'=>w'.cell? ⟨ao,0,none⟩=some (.int .i64 ab)/\w'.cell? ⟨ao,1,none⟩=some (.slice (some aC) aa.length ai)/\w'.cell? (aC.add ((af).toNat*2))=some (.int .i64 ((jQ aa af).f0))/\w'.cell? ⟨(aC.add ((af).toNat*2)).block,(aC.add ((af).toNat*2)).off+1,none⟩=some (.int .i64 ((jQ aa af).f1))) [] ⟨jY ac 0,jY ac 1,(j4 HB a9),(j4 HB a8)⟩ mf.rH mf.ry (fun hHeld HT_ HW_=>?_);generalize wr.drew=fO at ae ac ag ah HB aE aG hHeld⊢;refine jW 0 26 1 ?_;refine jW 2 28 5 ?_;refine jW 5 31 37 ?_;refine jW 6 32 101 ?_;refine kL 1 27 103 ?_;refine jW 3 29 111 ?_;refine kL 4 30 127 ?_;refine l6 7 33 255 (fun K hK=>?_);refine qy Try.func46 (qA.calls dy.out) ?_;intro fP hb;replace ae:=kD ae hb;replace ac:=jU ac hb;replace ag:=jU ag hb;replace ah:=jU ah hb;replace HB:=jX HB hb;(try clear hb eO hk hi);refine hK.out _ _ ⟨jY ac 0,jY ac 1,(j4 HB a9),(j4 HB a8)⟩ (fun hHeld=>?_);clear hK K;refine ll 33 ?_;refine jW 8 34 511 ?_;refine mD (mV HT_.out (lg)) ?_;try go_wp2
     go_roundg k1
     case measure=>have:=a5.out;omega
     case rel=>exact⟨(wrap64 (af+1)),(al),(aN),(ku),H',⟨by have:=a5.out;omega⟩,⟨jV ae.out⟩,⟨jZ ac.out⟩,⟨jZ ag.out⟩,⟨jZ ah.out⟩,⟨jR HB.out⟩⟩
    simp only [Option.some.injEq,Prod.mk.injEq]at H;obtain⟨rfl,rfl,rfl⟩:=H;have fg:=aI.out;have fh:=aK.out;have fi:=ay.out;have fj:=aY.out;have⟨en,eo,ep,eq⟩:=ko (w:=wr) ac;have fk:=bj.out;have fm:=aM.out;have⟨es,et,eu,ev⟩:=ko (w:=wr) ah;have⟨ew,ex,ey,ez⟩:=ko (w:=wr) ag;obtain⟨cP,cQ,dK⟩:=kK ae.out;subst dK
    go_wp2;refine bodyPost_ret (DZ rfl _ _ ap 31 #[.int .i64 ab,.slice cP al.length cQ] (0,0) _ rfl (lI ag.out) Try.underlying31 rfl (lg)) rfl ?_;exact⟨_,mW,by(with_reducible repeat(first|apply kI|apply kJ|apply kw));exact kz (lh (p:=⟨ap,1,none⟩) (lh (p:=⟨ap,0,none⟩) (mr ae.out ag.out (by decide)) (fun _ hk=>hk.2) (.int .i64 ab)) (fun _ hk=>hk.2) (.slice cP al.length cQ)) (fun _ hk=>trivial),jR HB.out⟩
 simp only [Option.some.injEq,Prod.mk.injEq]at H;obtain⟨rfl,rfl,rfl⟩:=H
 go_enter Try.func95,Try.ntmps95
 go_wp2_with (first|((with_reducible refine ky 3 rfl ?_);refine kS #[.int .i64 ab,.slice ak aa.length ai] 31 ?_;intro ao hg fQ jS hb;have ac:=dm (jS);have dj:=dm (kg:w.heap.size<=ao);have dk:=dm (kg:w.heap.size<=ao);replace HB:=jX HB hb;clear hb jS hg)|((with_reducible refine ky 6 rfl ?_);refine kS #[.int .i64 0,.slice none 0 0] 31 ?_;intro ap hg eT jS hb;have ag:=dm (jS);have dl:=dm (kg:w.heap.size<=ap);have dn:=dm (kg:w.heap.size<=ap);replace HB:=jX HB hb;have aI:=dm (yH:ao≠ap);have aK:=dm (yI:ap≠ao);replace ac:=jU ac hb;clear hb jS hg;have fo:=aI.out;have fp:=aK.out;have⟨eA,eB,eC,eD⟩:=ko (w:=eT) ac)|((with_reducible refine kQ 86 rfl ?_);refine nC 13 rfl Try.func86 (tV.calls (kv (kN aw.out HB.out)) aA.out A4.out) ?_;intro eU hb;replace ac:=jU ac hb;replace ag:=jU ag hb;replace HB:=jX HB hb;(try clear hb);have⟨eE,eF,eG,eH⟩:=ko (w:=eU) ag))
 refine bodyPost_ret (DZ rfl _ _ ap 31 #[.int .i64 0,.slice none 0 0] (0,0) _ rfl (lI ag.out) Try.underlying31 rfl (lg)) rfl ?_;exact⟨_,mW,by first|exact sS _ _ _ _ _|exact wF _ _ _ _ _|exact wT _ _ _ _ _|exact wH _ _ _ _ _|exact wR _ _ _ _ _,jR HB.out⟩
theorem Bh(h:p:=by exact lI ai.out):p:=h
theorem Bi(h:p:=by rw[hg];exact Nat.ne_of_lt (lq (g:=av) (o:=.cells #[.int .i64 ab,.slice ak aa.length aj] 31 (0,0)) (jZ af.out))):p:=h
theorem Bj(h:p:=by rw[hg];exact Nat.ne_of_gt (lq (g:=av) (o:=.cells #[.int .i64 ab,.slice ak aa.length aj] 31 (0,0)) (jZ af.out))):p:=h
def oU.f (k:Nat) (ab:Int) (aa:List (S59)) (a1:Int) (a2:Int):Option (Bool):=(mf.f k ab aa a1 a2).bind fun a9=>(if a9.2.2=true then((nJ.f k a9.1 a9.2.1).bind fun aV=>((nJ.f k ab aa).bind fun aT=>(some (decide (aV>aT))))) else(some false))
def oU.T2:Bool×List (List Nat×List Nat):=(true,[([],[]),([0],[0]),([1],[1]),([2,1,1],[1,2]),([1],[1]),([4,3,1],[1,4]),([3,5,1],[1,3,5]),([1,6],[1,6]),([7,5,0,1,2,3,4,5,6,7],[7])])
def oU.B2:List Nat:=[0,1,3,7,3,31,63,127,255]
theorem oU.Eb:mi .any (opsOf Try.f93 2)=oU.T2:=by kernel_rfl
theorem oU.AP:nY oU.T2.2 oU.B2=true:=by kernel_rfl
theorem oU.calls {k:Nat}{ab:Int}{ak:Option Addr}{aj:Nat}{aa:List (S59)}{a1:Int}{a2:Int}{r:Bool}{w:World}(aG:Kd.C k59 w ak aa.length aa)(aH:aa.length<=aj)(h:oU.f k ab aa a1 a2=some r):
  Calls Try.prog 93 #[.agg #[.int .i64 ab,.slice ak aa.length aj],.int .i64 a1,.int .i64 a2] w fun e w'=>e=.returned (.bool r)/\Below w.heap.size w w':=by
 have bL:=Try.underlying31;have aq:=dm aG;have aI:=dm aH;clear aG aH;have HB:=dm (Below.refl w.heap.size w);unfold oU.f at h;have H:=h;clear h;obtain⟨⟨ap,ao,bX⟩,A4,H⟩:=kR H;(try dsimp only at H)
 rcases lV H with⟨h_,H_⟩|⟨h_,H_⟩<;> (subst h_;clear H;have H:=H_;clear H_)
 ·obtain⟨aV,A6,H⟩:=kR H;(try dsimp only at H);obtain⟨aT,A7,H⟩:=kR H;(try dsimp only at H);obtain rfl:=Option.some.inj H
  go_enter Try.func93,Try.ntmps93;try go_wp2_with (first|((with_reducible refine ky 3 rfl ?_);refine kS #[.int .i64 ab,.slice ak aa.length aj] 31 ?_;intro av hg w8 jS hb;have af:=dm (jS);have b6:=dm (kg:w.heap.size<=av);have b7:=dm (kg:w.heap.size<=av);replace HB:=jX HB hb;clear hb jS hg;have⟨dw,dx,dy,dz⟩:=ko (w:=w8) af)|((with_reducible refine kQ 95 rfl ?_);refine lL 13 rfl Try.func95 (mf.calls (kv (kN aq.out HB.out)) aI.out A4.out) ?_;rintro e ed ⟨cv,rfl,bu,hb⟩;refine⟨_,rfl,?_⟩;have ah:=dm (kP bu (kC (jR HB.out)));replace af:=jU af hb;replace HB:=jX HB hb;(try clear hb bu))|((with_reducible refine ky 7 rfl ?_);refine kS #[.int .i64 0,.slice none 0 0] 31 ?_;intro ag hg bC jS hb;replace ah:=kD ah hb;have ai:=dm (jS);have b8:=dm (kg:w.heap.size<=ag);have b9:=dm (kg:w.heap.size<=ag);replace HB:=jX HB hb;have aQ:=dm (Bi:av≠ag);have a_:=dm (Bj:ag≠av);replace af:=jU af hb;clear hb jS hg;have dO:=a_.out;have dP:=aQ.out;have⟨cF,cG,cH,cI⟩:=ko (w:=bC) ai;obtain⟨aZ,a4,cw⟩:=kK ah.out;subst cw))
  have n0:jP (Kd.R k59 59 ((bC.setCell ⟨ag,0,none⟩ (.int .i64 ap)).setCell ⟨ag,1,none⟩ (.slice aZ ao.length a4)) w.heap.size (fun _=>True) (.slice aZ ao.length a4) ao):=⟨by(with_reducible repeat(first|apply kI|apply kJ|apply kw));exact kz (lh (p:=⟨ag,1,none⟩) (lh (p:=⟨ag,0,none⟩) (mr ah.out ai.out (by decide)) (fun _ hk=>hk.2) (.int .i64 ap)) (fun _ hk=>hk.2) (.slice aZ ao.length a4)) (fun _ hk=>trivial)⟩;have n1:jP (((bC.setCell ⟨ag,0,none⟩ (.int .i64 ap)).setCell ⟨ag,1,none⟩ (.slice aZ ao.length a4)).heap[av]? =some (.cells #[.int .i64 ab,.slice ak aa.length aj] 31 (0,0))):=⟨rz⟩;have n2:jP (((bC.setCell ⟨ag,0,none⟩ (.int .i64 ap)).setCell ⟨ag,1,none⟩ (.slice aZ ao.length a4)).heap[ag]? =some (.cells #[.int .i64 ap,.slice aZ ao.length a4] 31 (0,0))):=⟨Bh⟩;have n3:jP (Below w.heap.size w ((bC.setCell ⟨ag,0,none⟩ (.int .i64 ap)).setCell ⟨ag,1,none⟩ (.slice aZ ao.length a4))):=⟨jR HB.out⟩;(try clear ah af ai HB);generalize((bC.setCell ⟨ag,0,none⟩ (.int .i64 ap)).setCell ⟨ag,1,none⟩ (.slice aZ ao.length a4))=cj at n0 n1 n2 n3⊢;revert n0 n1 n2 n3;intro ah af ai HB;replace ah:=dm (kw ah.out);replace af:=dm (kU af.out);replace ai:=dm (kU ai.out);replace HB:=dm (mg HB.out);refine nk 9 (S:=fun w'=>w'.cell? ⟨ag,0,none⟩=some (.int .i64 ap)/\w'.cell? ⟨ag,1,none⟩=some (.slice aZ ao.length a4)/\w'.cell? ⟨av,0,none⟩=some (.int .i64 ab)/\w'.cell? ⟨av,1,none⟩=some (.slice ak aa.length aj)) [] ⟨jY ai 0,jY ai 1,jY af 0,jY af 1⟩ oU.Eb oU.AP (fun hHeld HT_ HW_=>?_);generalize cj.drew=ck at ah af ai HB hHeld⊢;refine jW 0 16 1 ?_;refine jW 1 17 3 ?_;refine kL 2 18 7 ?_;refine kL 4 20 23 ?_;refine l6 3 19 31 (fun K hK=>?_);refine qy Try.func57 (nJ.calls (kv (kr ah.out).2.2) ((kr ah.out).2.1) A6.out) ?_;intro ee hb;replace ah:=kD ah hb;replace af:=jU af hb;replace ai:=jU ai hb;replace HB:=jX HB hb;(try clear hb cl hk hi);refine hK.out _ _ ⟨jY ai 0,jY ai 1,jY af 0,jY af 1⟩ (fun hHeld=>?_);clear hK K;refine ll 19 ?_;refine l6 5 21 63 (fun K hK=>?_);refine qy Try.func57 (nJ.calls (kv (kN aq.out HB.out)) aI.out A7.out) ?_;intro dA hb;replace ah:=kD ah hb;replace af:=jU af hb;replace ai:=jU ai hb;replace HB:=jX HB hb;(try clear hb);refine hK.out _ _ ⟨jY ai 0,jY ai 1,jY af 0,jY af 1⟩ (fun hHeld=>?_);clear hK K;refine ll 21 ?_;refine jW 6 22 127 ?_;refine jW 7 23 255 ?_;refine jW 8 6 511 ?_;refine mD (mV HT_.out (lg)) ?_;try go_wp2
  go_ret
  exact⟨lT,jR HB.out⟩
 obtain rfl:=Option.some.inj H
 go_enter Try.func93,Try.ntmps93;try go_wp2_with (first|((with_reducible refine ky 3 rfl ?_);refine kS #[.int .i64 ab,.slice ak aa.length aj] 31 ?_;intro av hg dB jS hb;have af:=dm (jS);have b6:=dm (kg:w.heap.size<=av);have b7:=dm (kg:w.heap.size<=av);replace HB:=jX HB hb;clear hb jS hg;have⟨cJ,cL,cM,cN⟩:=ko (w:=dB) af)|((with_reducible refine kQ 95 rfl ?_);refine lL 13 rfl Try.func95 (mf.calls (kv (kN aq.out HB.out)) aI.out A4.out) ?_;rintro e dC ⟨cv,rfl,bu,hb⟩;refine⟨_,rfl,?_⟩;have ah:=dm (kP bu (kC (jR HB.out)));replace af:=jU af hb;replace HB:=jX HB hb;(try clear hb bu))|((with_reducible refine ky 7 rfl ?_);refine kS #[.int .i64 0,.slice none 0 0] 31 ?_;intro ag hg bD jS hb;replace ah:=kD ah hb;have ai:=dm (jS);have b8:=dm (kg:w.heap.size<=ag);have b9:=dm (kg:w.heap.size<=ag);replace HB:=jX HB hb;have aQ:=dm (Bi:av≠ag);have a_:=dm (Bj:ag≠av);replace af:=jU af hb;clear hb jS hg;have dQ:=a_.out;have dR:=aQ.out;have⟨cO,cP,cQ,cS⟩:=ko (w:=bD) ai;obtain⟨ba,bd,cx⟩:=kK ah.out;subst cx))
 have n0:jP (Kd.R k59 59 ((bD.setCell ⟨ag,0,none⟩ (.int .i64 ap)).setCell ⟨ag,1,none⟩ (.slice ba ao.length bd)) w.heap.size (fun _=>True) (.slice ba ao.length bd) ao):=⟨by(with_reducible repeat(first|apply kI|apply kJ|apply kw));exact kz (lh (p:=⟨ag,1,none⟩) (lh (p:=⟨ag,0,none⟩) (mr ah.out ai.out (by decide)) (fun _ hk=>hk.2) (.int .i64 ap)) (fun _ hk=>hk.2) (.slice ba ao.length bd)) (fun _ hk=>trivial)⟩;have n1:jP (((bD.setCell ⟨ag,0,none⟩ (.int .i64 ap)).setCell ⟨ag,1,none⟩ (.slice ba ao.length bd)).heap[av]? =some (.cells #[.int .i64 ab,.slice ak aa.length aj] 31 (0,0))):=⟨rz⟩;have n2:jP (((bD.setCell ⟨ag,0,none⟩ (.int .i64 ap)).setCell ⟨ag,1,none⟩ (.slice ba ao.length bd)).heap[ag]? =some (.cells #[.int .i64 ap,.slice ba ao.length bd] 31 (0,0))):=⟨Bh⟩;have n3:jP (Below w.heap.size w ((bD.setCell ⟨ag,0,none⟩ (.int .i64 ap)).setCell ⟨ag,1,none⟩ (.slice ba ao.length bd))):=⟨jR HB.out⟩;(try clear ah af ai HB);generalize((bD.setCell ⟨ag,0,none⟩ (.int .i64 ap)).setCell ⟨ag,1,none⟩ (.slice ba ao.length bd))=dD at n0 n1 n2 n3⊢;revert n0 n1 n2 n3;intro ah af ai HB;replace ah:=dm (kw ah.out);replace af:=dm (kU af.out);replace ai:=dm (kU ai.out);replace HB:=dm (mg HB.out);refine nk 9 (S:=fun w'=>True) [] trivial oU.Eb oU.AP (fun hHeld HT_ HW_=>?_);generalize dD.drew=dE at ah af ai HB hHeld⊢;refine jW 0 16 1 ?_;refine jW 1 17 3 ?_;refine l5 2 18 7 ?_;refine l5 3 19 15 ?_;refine l5 4 20 31 ?_;refine l5 5 21 63 ?_;refine l5 6 22 127 ?_;refine jW 7 23 255 ?_;refine jW 8 6 511 ?_;refine mD (mV HT_.out (lg)) ?_;try go_wp2
 go_ret
 exact⟨lT,jR HB.out⟩
def mJ.l0:Nat->List (S59)->Int->Int->List (S59)->Option ((List (S59)))
 |0,_,_,_,_=>none
 |k+1,x3,x4,bq,aD=>if x4<(aD.length:Int) then(if 0<=x4 then((oU.f k bq aD ((jQ aD x4).f0) ((jQ aD x4).f1)).bind fun bG=>(if bG=true then(if x3.length<8796093022208 then(mJ.l0 k (x3++[(⟨(jQ aD x4).f0,(jQ aD x4).f1⟩:S59)]) (wrap64 (x4+1)) bq aD) else(none)) else(mJ.l0 k x3 (wrap64 (x4+1)) bq aD))) else(none)) else(some x3)
def mJ.f (k:Nat) (ab:Int) (aa:List (S59)):Option ((List (S59))):=(some (([]:List (S59)):List (S59))).bind fun aK=>((lG.f k ab aa).bind fun bf=>(if bf=true then(mJ.l0 k aK 0 ab aa) else(some aK)))
def mJ.T7:Bool×List (List Nat×List Nat):=(true,[([],[]),([],[]),([1],[1]),([],[]),([2,3],[2,3]),([4],[4]),([5],[5]),([],[]),([7],[7]),([],[]),([8,9],[8,9]),([10],[10]),([11],[11]),([0,6,12],[0,6,12])])
def mJ.B7:List Nat:=[0,0,2,0,14,30,62,0,128,0,896,1920,3968,8191]
theorem mJ.rH:mi .any (opsOf Try.f58 7)=mJ.T7:=by kernel_rfl
theorem mJ.ry:nY mJ.T7.2 mJ.B7=true:=by kernel_rfl
theorem mJ.calls {k:Nat}{ab:Int}{ak:Option Addr}{aj:Nat}{aa:List (S59)}{r:List (S59)}{w:World}(aG:Kd.C k59 w ak aa.length aa)(aH:aa.length<=aj)(h:mJ.f k ab aa=some r):
  Calls Try.prog 58 #[.agg #[.int .i64 ab,.slice ak aa.length aj]] w fun e w'=>∃cm:Value,e=.returned (cm)/\Kd.R k59 59 w' w.heap.size (fun _=>True) cm r/\Below w.heap.size w w':=by
 have bL:=Try.underlying31;have d8:=Try.underlying59;have aq:=dm aG;have aI:=dm aH;clear aG aH;have HB:=dm (Below.refl w.heap.size w);unfold mJ.f at h;have H:=h;clear h;obtain⟨aK,bm⟩:∃y_:List (S59),y_=(([]:List (S59))):=⟨_,rfl⟩;replace H:((lG.f k ab aa).bind fun bf=>(if bf=true then(mJ.l0 k aK 0 ab aa) else(some aK)))=some r:=lC bm H
 have bx:=dm bm;clear bm;obtain⟨bf,A2,H⟩:=kR H;(try dsimp only at H)
 rcases lV H with⟨h_,H_⟩|⟨h_,H_⟩<;> (subst h_;clear H;have H:=H_;clear H_)
 ·have H':=dm H;clear H
  go_enter Try.func58,Try.ntmps58
  go_wp2_with (first|((with_reducible refine ky 1 rfl ?_);refine kS #[.int .i64 ab,.slice ak aa.length aj] 31 ?_;intro aN hg w4 jS hb;have ae:=dm (jS);have b_:=dm (kg:w.heap.size<=aN);have ca:=dm (kg:w.heap.size<=aN);replace HB:=jX HB hb;clear hb jS hg)|((with_reducible refine ky 5 rfl ?_);refine og k59 rfl 59 ([]:List (S59)) [] (kF.none _ _) ?_;intro cy w5 bJ hb hg_ kV;clear hg_ kV;(first|rw[←bx.out]at bJ|(simp only [Int.reduceToNat]at bJ;rw[←bx.out]at bJ));have aU:=dm (kP bJ (kC (jR HB.out)));replace ae:=jU ae hb;replace HB:=jX HB hb;clear hb bJ;have⟨bY,bZ,b3,b4⟩:=ko (w:=w5) ae)|((with_reducible refine kQ 32 rfl ?_);refine nC 7 rfl Try.func32 (lG.calls (kv (kN aq.out HB.out)) aI.out A2.out) ?_;intro w8 hb;replace aU:=kD aU hb;replace ae:=jU ae hb;replace HB:=jX HB hb;(try clear hb)))
  go_loopg [3,4] k (fun kq v3 v4 w'=>∃ (aM:List (S59)) (ac:Int),v4=.int .i64 ac/\jP (mJ.l0 kq aM ac ab aa=some r)/\jP (kq<=k)/\jP (Kd.R k59 59 w' w.heap.size (fun _=>True) v3 aM)/\jP (w'.heap[aN]? =some (.cells #[.int .i64 ab,(.slice ak aa.length aj)] 31 (0,0)))/\jP (Below w.heap.size w w'))
  case atStart=>exact⟨(aK),(0),(by first|rfl|(simp;done)|(simp[*];done)),H',⟨Nat.le_refl _⟩,⟨jV aU.out⟩,⟨jZ ae.out⟩,⟨jR HB.out⟩⟩
  case round=>
   clear H';(try clear c3 bY bZ b3 b4);obtain⟨aM,ac,rfl,HA,bR,aw,ae,HB⟩:=hrel;cases gk with
   |zero=>exact absurd HA.out (by simp[mJ.l0])
   |succ k1=>
    have H:=HA.out;clear HA;simp only [mJ.l0]at H
    replace H:=lH H;rcases H with⟨cz,H⟩|⟨cz,H⟩
    ·skip
     obtain⟨dS,H⟩:=kX H;obtain⟨bG,cn,H⟩:=kR H;(try dsimp only at H)
     rcases lV H with⟨h_,H_⟩|⟨h_,H_⟩<;> (subst h_;clear H;have H:=H_;clear H_)
     ·skip
      obtain⟨bT,H⟩:=mH H;have cd:=dm bT;clear bT;obtain⟨b5,bn⟩:∃y_:List (S59),y_=(aM++[(⟨(jQ aa ac).f0,(jQ aa ac).f1⟩:S59)]):=⟨_,rfl⟩;replace H:(mJ.l0 k1 b5 (wrap64 (ac+1)) ab aa)=some r:=lC bn H
      have ce:=dm bn;clear bn;have H':=dm H;clear H;have⟨cT,cU,cW,cX⟩:=ko (w:=wr) ae;try go_wp2
      replace aw:=dm (kw aw.out);replace ae:=dm (kU ae.out);replace HB:=dm (mg HB.out);have bh:0<=(ac:Int):=jT;have bj:ac<(aa.length:Int):=jT;obtain⟨am,bM,ax,ay⟩:=l7 aq.out ac bh bj;have a5:=ay;have a6:=ax;cases bM;replace ax:=j4 HB ax;replace ay:=j4 HB ay;replace bh:=eq_true bh;replace bj:=eq_true bj;have bk:0<=(ac:Int):=jT;have bl:ac<(aa.length:Int):=jT;obtain⟨bH,bN,az,aA⟩:=l7 aq.out ac bk bl;have a7:=aA;have a8:=az;obtain rfl:am=bH:=(by injection bN);replace az:=j4 HB az;replace aA:=j4 HB aA;replace bk:=eq_true bk;replace bl:=eq_true bl;refine nk 14 (S:=fun w'=>w'.cell? ⟨aN,0,none⟩=some (.int .i64 ab)/\w'.cell? ⟨aN,1,none⟩=some (.slice (some am) aa.length aj)/\w'.cell? (am.add ((ac).toNat*2))=some (.int .i64 ((jQ aa ac).f0))/\w'.cell? ⟨(am.add ((ac).toNat*2)).block,(am.add ((ac).toNat*2)).off+1,none⟩=some (.int .i64 ((jQ aa ac).f1))/\w'.cell? (am.add ((ac).toNat*2))=some (.int .i64 ((jQ aa ac).f0))/\w'.cell? ⟨(am.add ((ac).toNat*2)).block,(am.add ((ac).toNat*2)).off+1,none⟩=some (.int .i64 ((jQ aa ac).f1))) [] ⟨jY ae 0,jY ae 1,(j4 HB a6),(j4 HB a5),(j4 HB a8),(j4 HB a7)⟩ mJ.rH mJ.ry (fun hHeld HT_ HW_=>?_);generalize wr.drew=cj at aw ae HB ax ay az aA hHeld⊢;refine jW 1 18 2 ?_;refine jW 3 20 10 ?_;refine jW 7 24 138 ?_;refine jW 9 26 650 ?_;refine kL 0 17 651 ?_;refine kL 2 19 655 ?_;refine jW 4 21 671 ?_;refine jW 5 22 703 ?_;refine kL 6 23 767 ?_;refine kL 8 25 1023 ?_;refine jW 10 27 2047 ?_;refine jW 11 28 4095 ?_;refine kL 12 29 8191 ?_;refine l6 13 30 16383 (fun K hK=>?_);refine qy Try.func93 (oU.calls (kv (kN aq.out HB.out)) aI.out cn.out) ?_;intro ck hb;replace aw:=kD aw hb;replace ae:=jU ae hb;replace HB:=jX HB hb;(try clear hb cl hk hi);refine hK.out _ _ ⟨jY ae 0,jY ae 1,(j4 HB a6),(j4 HB a5),(j4 HB a8),(j4 HB a7)⟩ (fun hHeld=>?_);clear hK K;refine ll 30 ?_;refine mD (mV HT_.out (lg)) ?_;have⟨cY,cZ,c_,db⟩:=ko (w:=ck) ae;have bO:0<=(ac:Int):=jT;have bP:ac<(aa.length:Int):=jT;obtain⟨cf,cA,bE,bF⟩:=l7 aq.out ac bO bP;obtain rfl:am=cf:=(by injection cA);replace bE:=j4 HB bE;replace bF:=j4 HB bF;replace bO:=eq_true bO;replace bP:=eq_true bP;try go_wp2_with (first|((with_reducible refine oh (b:=.append) (xs:= #[.tmp 31,.tmp 37]) rfl ?_);at_builtin;refine pg k59 (w0:=w) w.heap.size rfl (.tmp 31) (.tmp 37) 29 59 (.agg #[(.int .i64 0),(.int .i64 0)]) 16 rfl Try.underlying29 sH rfl (by decide) (by omega) u3 aM (⟨(jQ aa ac).f0,(jQ aa ac).f1⟩:S59) [.int .i64 ((jQ aa ac).f0),.int .i64 ((jQ aa ac).f1)] (fun _=>True) (fun _=>False) rfl rfl ?aP (fun _ hk=>hk.elim) ?aF ?aO ?aB ?aS ?aL ?_;(case aP=>exact qg _ _ _ (⟨(jQ aa ac).f0,(jQ aa ac).f1⟩:S59));(case aB=>exact(jR HB.out));(case aF=>exact(fun _ _=>trivial));(case aO=>exact(jV aw.out));(case aS=>exact(kC (jR HB.out)));(case aL=>have:=cd.out;omega);intro d9 dA ho hb hg hat;rw[←ce.out]at ho;have n0:=lY ae hg (lS aw.out ae.out (by decide));have n1:=dm (hb);have n2:=dm (ho);clear ae HB aw;revert n0 n1 n2;intro ae HB cg;clear ho hb hg hat))
      go_roundg k1
      case measure=>have:=bR.out;omega
      case rel=>exact⟨(b5),(wrap64 (ac+1)),(by first|rfl|(simp;done)|(simp[*];done)),H',⟨by have:=bR.out;omega⟩,⟨jV cg.out⟩,⟨jZ ae.out⟩,⟨jR HB.out⟩⟩
     have H':=dm H;clear H;have⟨dc,dd,de,df⟩:=ko (w:=wr) ae;try go_wp2
     replace aw:=dm (kw aw.out);replace ae:=dm (kU ae.out);replace HB:=dm (mg HB.out);have bh:0<=(ac:Int):=jT;have bj:ac<(aa.length:Int):=jT;obtain⟨am,bM,ax,ay⟩:=l7 aq.out ac bh bj;have a5:=ay;have a6:=ax;cases bM;replace ax:=j4 HB ax;replace ay:=j4 HB ay;replace bh:=eq_true bh;replace bj:=eq_true bj;have bk:0<=(ac:Int):=jT;have bl:ac<(aa.length:Int):=jT;obtain⟨bH,bN,az,aA⟩:=l7 aq.out ac bk bl;have a7:=aA;have a8:=az;obtain rfl:am=bH:=(by injection bN);replace az:=j4 HB az;replace aA:=j4 HB aA;replace bk:=eq_true bk;replace bl:=eq_true bl;refine nk 14 (S:=fun w'=>w'.cell? ⟨aN,0,none⟩=some (.int .i64 ab)/\w'.cell? ⟨aN,1,none⟩=some (.slice (some am) aa.length aj)/\w'.cell? (am.add ((ac).toNat*2))=some (.int .i64 ((jQ aa ac).f0))/\w'.cell? ⟨(am.add ((ac).toNat*2)).block,(am.add ((ac).toNat*2)).off+1,none⟩=some (.int .i64 ((jQ aa ac).f1))/\w'.cell? (am.add ((ac).toNat*2))=some (.int .i64 ((jQ aa ac).f0))/\w'.cell? ⟨(am.add ((ac).toNat*2)).block,(am.add ((ac).toNat*2)).off+1,none⟩=some (.int .i64 ((jQ aa ac).f1))) [] ⟨jY ae 0,jY ae 1,(j4 HB a6),(j4 HB a5),(j4 HB a8),(j4 HB a7)⟩ mJ.rH mJ.ry (fun hHeld HT_ HW_=>?_);generalize wr.drew=ef at aw ae HB ax ay az aA hHeld⊢;refine jW 1 18 2 ?_;refine jW 3 20 10 ?_;refine jW 7 24 138 ?_;refine jW 9 26 650 ?_;refine kL 0 17 651 ?_;refine kL 2 19 655 ?_;refine jW 4 21 671 ?_;refine jW 5 22 703 ?_;refine kL 6 23 767 ?_;refine kL 8 25 1023 ?_;refine jW 10 27 2047 ?_;refine jW 11 28 4095 ?_;refine kL 12 29 8191 ?_;refine l6 13 30 16383 (fun K hK=>?_);refine qy Try.func93 (oU.calls (kv (kN aq.out HB.out)) aI.out cn.out) ?_;intro dC hb;replace aw:=kD aw hb;replace ae:=jU ae hb;replace HB:=jX HB hb;(try clear hb cl hk hi);refine hK.out _ _ ⟨jY ae 0,jY ae 1,(j4 HB a6),(j4 HB a5),(j4 HB a8),(j4 HB a7)⟩ (fun hHeld=>?_);clear hK K;refine ll 30 ?_;refine mD (mV HT_.out (lg)) ?_;try go_wp2
     go_roundg k1
     case measure=>have:=bR.out;omega
     case rel=>exact⟨(aM),(wrap64 (ac+1)),(by first|rfl|(simp;done)|(simp[*];done)),H',⟨by have:=bR.out;omega⟩,⟨jV aw.out⟩,⟨jZ ae.out⟩,⟨jR HB.out⟩⟩
    obtain rfl:=Option.some.inj H;have⟨dg,dh,di,dj⟩:=ko (w:=wr) ae
    go_wp2
    go_ret
    exact⟨_,mW,jV aw.out,jR HB.out⟩
 obtain rfl:=Option.some.inj H
 go_enter Try.func58,Try.ntmps58
 go_wp2_with (first|((with_reducible refine ky 1 rfl ?_);refine kS #[.int .i64 ab,.slice ak aa.length aj] 31 ?_;intro aN hg eg jS hb;have ae:=dm (jS);have b_:=dm (kg:w.heap.size<=aN);have ca:=dm (kg:w.heap.size<=aN);replace HB:=jX HB hb;clear hb jS hg)|((with_reducible refine ky 5 rfl ?_);refine og k59 rfl 59 ([]:List (S59)) [] (kF.none _ _) ?_;intro cy dF bB hb hg_ kV;clear hg_ kV;(first|rw[←bx.out]at bB|(simp only [Int.reduceToNat]at bB;rw[←bx.out]at bB));have aU:=dm (kP bB (kC (jR HB.out)));replace ae:=jU ae hb;replace HB:=jX HB hb;clear hb bB;have⟨dk,dl,dn,dq⟩:=ko (w:=dF) ae)|((with_reducible refine kQ 32 rfl ?_);refine nC 7 rfl Try.func32 (lG.calls (kv (kN aq.out HB.out)) aI.out A2.out) ?_;intro dE hb;replace aU:=kD aU hb;replace ae:=jU ae hb;replace HB:=jX HB hb;(try clear hb)))
 go_ret
 exact⟨_,mW,jV aU.out,jR HB.out⟩
def pQ.f (ab:Int) (aa:List (S59)):Option (Int× (List (S59))):=(some (([]:List (S59)):List (S59))).bind fun aX=>(if aX.length+aa.length<8796093022208 then(some (ab,(aX++aa))) else(none))
def pQ.T1:Bool×List (List Nat×List Nat):=(true,[([],[]),([0],[0]),([],[]),([],[]),([3],[3]),([2,4],[2,4]),([1,5],[1,5]),([6,5,0,1,2,3,4,5,6],[6])])
def pQ.B1:List Nat:=[0,1,0,0,8,28,63,127]
theorem pQ.zD:mi .any (opsOf Try.f59 1)=pQ.T1:=by kernel_rfl
theorem pQ.yA:nY pQ.T1.2 pQ.B1=true:=by kernel_rfl
theorem pQ.calls {ab:Int}{ak:Option Addr}{aj:Nat}{aa:List (S59)}{r1:Int}{r2:List (S59)}{w:World}(aG:Kd.C k59 w ak aa.length aa)(aH:aa.length<=aj)(h:pQ.f ab aa=some (r1,r2)):
  Calls Try.prog 59 #[.agg #[.int .i64 ab,.slice ak aa.length aj]] w fun e w'=>∃co:Value,e=.returned (.agg #[.int .i64 r1,co])/\Kd.R k59 59 w' w.heap.size (fun _=>True) co r2/\Below w.heap.size w w':=by
 have bL:=Try.underlying31;have aq:=dm aG;have aI:=dm aH;clear aG aH;have HB:=dm (Below.refl w.heap.size w);unfold pQ.f at h;have H:=h;clear h;obtain⟨aX,bo⟩:∃y_:List (S59),y_=(([]:List (S59))):=⟨_,rfl⟩;replace H:(if aX.length+aa.length<8796093022208 then(some (ab,(aX++aa))) else(none))=some (r1,r2):=lC bo H
 have bU:=dm bo;clear bo
 obtain⟨c2,H⟩:=mH H;have cD:=dm c2;clear c2;obtain⟨bQ,bp⟩:∃y_:List (S59),y_=(aX++aa):=⟨_,rfl⟩;replace H:(some (ab,bQ))=some (r1,r2):=lC bp H
 have ch:=dm bp;clear bp;simp only [Option.some.injEq,Prod.mk.injEq]at H;obtain⟨rfl,rfl⟩:=H
 go_enter Try.func59,Try.ntmps59;try go_wp2_with (first|((with_reducible refine ky 1 rfl ?_);refine kS #[.int .i64 ab,.slice ak aa.length aj] 31 ?_;intro aY hg w3 jS hb;have al:=dm (jS);have dT:=dm (kg:w.heap.size<=aY);have dU:=dm (kg:w.heap.size<=aY);replace HB:=jX HB hb;clear hb jS hg)|((with_reducible refine ky 2 rfl ?_);refine kS #[.int .i64 0,.slice none 0 0] 31 ?_;intro aC hg w4 jS hb;have au:=dm (jS);have dV:=dm (kg:w.heap.size<=aC);have dW:=dm (kg:w.heap.size<=aC);replace HB:=jX HB hb;have aE:=dm ((by rw[hg];exact Nat.ne_of_lt (lq (g:=aY) (o:=.cells #[.int .i64 ab,.slice ak aa.length aj] 31 (0,0)) (jZ al.out)):aY≠aC));have bv:=dm ((by rw[hg];exact Nat.ne_of_gt (lq (g:=aY) (o:=.cells #[.int .i64 ab,.slice ak aa.length aj] 31 (0,0)) (jZ al.out)):aC≠aY));replace al:=jU al hb;clear hb jS hg))
 replace al:=dm (kU al.out);replace au:=dm (kU au.out);replace HB:=dm (mg HB.out);refine nk 8 (S:=fun w'=>w'.cell? ⟨aY,0,none⟩=some (.int .i64 ab)/\w'.cell? ⟨aY,1,none⟩=some (.slice ak aa.length aj)) [] ⟨jY al 0,jY al 1⟩ pQ.zD pQ.yA (fun hHeld HT_ HW_=>?_);generalize w4.drew=w5 at al au HB hHeld⊢;refine jW 0 3 1 ?_;refine jW 3 6 9 ?_;refine kL 1 4 11 ?_;refine kL 4 7 27 ?_;refine l6 2 5 31 (fun K hK=>?_);refine qC k59 _ 59 ?hg (N:=5) ?hd (xs:=([]:List (S59))) (inner:=[]) (ok:=fun _=>True) (okp:=fun _=>True) ?hr ?hp (fun _ hk=>hk) trivial (Below.refl _ _) (Nat.le_refl _) (by simp) ?_;(case hd=>rfl);(case hg=>rfl);(case hr=>first|(go_simp;done)|(go_simp;rfl));(case hp=>exact(kF.none _ _));intro cE w6 bK hb hg_ kV;clear hg_ kV;(first|rw[←bU.out]at bK|(simp only [Int.reduceToNat]at bK;rw[←bU.out]at bK));have bz:=dm (kP bK (kC (jR HB.out)));replace al:=jU al hb;replace au:=jU au hb;replace HB:=jX HB hb;clear hb bK;refine hK.out _ _ ⟨jY al 0,jY al 1⟩ (fun hHeld=>?_);clear hK K;refine ll 5 ?_;refine l6 5 8 63 (fun K hK=>?_);refine xW k59 (w0:=w) w.heap.size (by rfl) (.tmp 5) (.tmp 7) 29 59 (.agg #[(.int .i64 0),(.int .i64 0)]) 16 rfl Try.underlying29 sH rfl (by decide) (by omega) cE aX aa _ _ _ (fun _=>True) (fun _=>False) rfl rfl ?aO ?aR (fun _ _ h=>h) (fun _ h=>h.elim) ?aF ?aB ?aS ?aL ?_;(case aR=>exact kv (kN aq.out HB.out));(case aB=>exact(jR HB.out));(case aF=>exact(fun _ _=>trivial));(case aO=>exact(jV bz.out));(case aS=>exact(kC (jR HB.out)));(case aL=>have:=cD.out;omega);intro d_ w8 ho hb hg hat;rw[←ch.out]at ho;have n0:=lY al hg (lS bz.out al.out (by decide));have n1:=lY au hg (lS bz.out au.out (by decide));have n2:=dm (hb);have n3:=dm (ho);clear al au HB bz;revert n0 n1 n2 n3;intro al au HB bV;clear ho hb hg hat;obtain⟨cp,cq,cr⟩:=kK bV.out;(first|subst cr|(injection cr with ct dG cu;have dH:=ct.symm;have dI:=cu.symm;clear ct dG cu;subst dH;subst dI));refine hK.out _ _ ⟨jY al 0,jY al 1⟩ (fun hHeld=>?_);clear hK K;refine ll 8 ?_;refine jW 6 9 127 ?_;refine zu 7 (none) (lJ 8 255) (fun K hK=>?_);have ea:w8.cell? ⟨aC,0,none⟩=some (.int .i64 0):=jY au 0;have dX:=l8 au.out 0;have dr:=aE.out;have dt:=bv.out;have eb:w8.cell? ⟨aC,1,none⟩=some (.slice none 0 0):=jY au 1;have dY:=l8 au.out 1;have du:=aE.out;have dv:=bv.out;refine r_ (w1:= ?_) (by rfl) rfl ?_ ?_;rotate_left
 ·go_simp
  rfl
 refine hK.out _ _ ⟨((cell_far (p:=⟨aC,_,none⟩) aE.out _).trans (((cell_far (p:=⟨aC,_,none⟩) aE.out _).trans (hHeld.1)))),((cell_far (p:=⟨aC,_,none⟩) aE.out _).trans (((cell_far (p:=⟨aC,_,none⟩) aE.out _).trans (hHeld.2))))⟩ (fun hHeld=>?_);clear hK K;refine mD (mV HT_.out (lg)) ?_;try go_wp2
 refine bodyPost_ret (results_cell_row rfl _ _ aC 31 #[.int .i64 ab,.slice cp bQ.length cq] (0,0) _ rfl (lI au.out) Try.underlying31 rfl (lg)) rfl ?_;exact⟨_,mW,by(with_reducible repeat(first|apply kI|apply kJ|apply kw));exact kz (lh (p:=⟨aC,1,none⟩) (lh (p:=⟨aC,0,none⟩) (mr bV.out au.out (by decide)) (fun _ hk=>hk.2) (.int .i64 ab)) (fun _ hk=>hk.2) (.slice cp bQ.length cq)) (fun _ hk=>trivial),jR HB.out⟩
def tX.f (k:Nat) (ab:Int) (aa:List (S59)) (a1:Int):Option (Bool):=(nI.f k ab aa a1).bind fun br=>(some ((br.length:Int)==0))
theorem tX.calls {k:Nat}{ab:Int}{ak:Option Addr}{aj:Nat}{aa:List (S59)}{a1:Int}{r:Bool}{w:World}(aG:Kd.C k59 w ak aa.length aa)(aH:aa.length<=aj)(h:tX.f k ab aa a1=some r):
  Calls Try.prog 60 #[.agg #[.int .i64 ab,.slice ak aa.length aj],.int .i64 a1] w fun e w'=>e=.returned (.bool r)/\Below w.heap.size w w':=by
 have bL:=Try.underlying31;have aq:=dm aG;have aI:=dm aH;clear aG aH;have HB:=dm (Below.refl w.heap.size w);unfold tX.f at h;have H:=h;clear h;obtain⟨br,A3,H⟩:=kR H;(try dsimp only at H);obtain rfl:=Option.some.inj H
 go_enter Try.func60,Try.ntmps60
 go_wp2_with (first|((with_reducible refine ky 2 rfl ?_);refine kS #[.int .i64 ab,.slice ak aa.length aj] 31 ?_;intro bW hg w4 jS hb;have bA:=dm (jS);have dZ:=dm (kg:w.heap.size<=bW);have d7:=dm (kg:w.heap.size<=bW);replace HB:=jX HB hb;clear hb jS hg;have⟨dJ,dK,dL,dM⟩:=ko (w:=w4) bA)|((with_reducible refine kQ 94 rfl ?_);refine lL 7 rfl Try.func94 (nI.calls (kv (kN aq.out HB.out)) aI.out A3.out) ?_;rintro e w6 ⟨ec,rfl,bu,hb⟩;refine⟨_,rfl,?_⟩;have ci:=dm (kP bu (kC (jR HB.out)));replace bA:=jU bA hb;replace HB:=jX HB hb;(try clear hb bu);obtain⟨eh,ei,dN⟩:=kK ci.out;subst dN))
 go_ret
 exact⟨lT,jR HB.out⟩
theorem Bl(h:p:=by repeat(first|(with_reducible first|exact HB.out|apply qx|apply qO|apply mg|refine ou ?_ dK.out|refine ou ?_ eb.out)|exact HB.out)):p:=h
theorem yJ(h:p:=by(try simp only [aw]);(try simp only [az]);(with_reducible repeat(first|refine o8 ?_ _|refine kU ?_|refine nQ ?_ _));exact ag.out):p:=h
theorem Bn(h:p:=by(try simp only [aw]);(try simp only [az]);(with_reducible repeat(first|apply kI|apply kJ|apply kw));exact aE.out):p:=h
theorem yK(h:p:=by rw[hg];exact Nat.ne_of_lt (lq (g:=aA) (o:=.cells #[.int .i64 ae,.slice aG aa.length aC] 31 (0,0)) (jZ af.out))):p:=h
theorem yL(h:p:=by rw[hg];exact Nat.ne_of_gt (lq (g:=aA) (o:=.cells #[.int .i64 ae,.slice aG aa.length aC] 31 (0,0)) (jZ af.out))):p:=h
def mR.l0:Nat->Int->Int->Int->List (S59)->Int->List (S59)->Option (Int× (List (S59)))
 |0,_,_,_,_,_,_=>none
 |k+1,x1,x6,bQ,aN,bm,a9=>if x6<(aN.length:Int) then(if 0<=x6 then(if((jQ aN x6).f0)=x1 then(mR.l0 k x1 (wrap64 (x6+1)) bQ aN bm a9) else(if((jQ aN x6).f1)=x1 then(mR.l0 k x1 (wrap64 (x6+1)) bQ aN bm a9) else(if a9.length<8796093022208 then(mR.l0 k x1 (wrap64 (x6+1)) bQ aN bm (a9++[(⟨(jQ aN x6).f0,(jQ aN x6).f1⟩:S59)])) else(none)))) else(none)) else(some (bm,a9))
def mR.f (k:Nat) (ae:Int) (aa:List (S59)) (a1:Int):Option (Int× (List (S59))):=(om.f k ae aa a1).bind fun bR=>(if bR=true then(mR.l0 k a1 0 ae aa ae ([]:List (S59))) else(some (0,([]:List (S59)))))
def mR.T8:Bool×List (List Nat×List Nat):=(true,[([],[]),([0],[0]),([],[]),([2],[2]),([],[]),([3,4],[3,4]),([5],[5]),([6],[6]),([1,7],[1,7]),([0,1,2,3,4,5,6,7,8],[]),([9,8,8,0,1,2,3,4,5,6,7,8],[8,9])])
def mR.B8:List Nat:=[0,1,0,4,0,28,60,124,255,511,1023]
theorem mR.wz:mi .any (opsOf Try.f96 8)=mR.T8:=by kernel_rfl
theorem mR.vC:nY mR.T8.2 mR.B8=true:=by kernel_rfl
theorem mR.calls {k:Nat}{ae:Int}{aG:Option Addr}{aC:Nat}{aa:List (S59)}{a1:Int}{r1:Int}{r2:List (S59)}{w:World}(bE:Kd.C k59 w aG aa.length aa)(bF:aa.length<=aC)(h:mR.f k ae aa a1=some (r1,r2)):
  Calls Try.prog 96 #[.agg #[.int .i64 ae,.slice aG aa.length aC],.int .i64 a1] w fun e w'=>∃eG:Value,e=.returned (.agg #[.int .i64 r1,eG])/\Kd.R k59 59 w' w.heap.size (fun _=>True) eG r2/\Below w.heap.size w w':=by
 have eK:=Try.underlying31;have gq:=Try.underlying59;have aY:=dm bE;have bU:=dm bF;clear bE bF;have HB:=dm (Below.refl w.heap.size w);unfold mR.f at h;have H:=h;clear h;obtain⟨bR,A3,H⟩:=kR H;(try dsimp only at H)
 rcases lV H with⟨h_,H_⟩|⟨h_,H_⟩<;> (subst h_;clear H;have H:=H_;clear H_)
 ·have H':=dm H;clear H
  go_enter Try.func96,Try.ntmps96
  go_wp2_with (first|((with_reducible refine ky 2 rfl ?_);refine kS #[.int .i64 ae,.slice aG aa.length aC] 31 ?_;intro aA hg w5 jS hb;have af:=dm (jS);have ec:=dm (kg:w.heap.size<=aA);have ed:=dm (kg:w.heap.size<=aA);replace HB:=jX HB hb;clear hb jS hg)|((with_reducible refine ky 4 rfl ?_);refine kS #[.int .i64 0,.slice none 0 0] 31 ?_;intro av hg w6 jS hb;have ak:=dm (jS);have ee:=dm (kg:w.heap.size<=av);have ef:=dm (kg:w.heap.size<=av);replace HB:=jX HB hb;have aH:=dm (yK:aA≠av);have aI:=dm (yL:av≠aA);replace af:=jU af hb;clear hb jS hg;have gr:=aH.out;have gt:=aI.out;have⟨cm,cn,co,cp⟩:=ko (w:=w6) af)|((with_reducible refine kQ 85 rfl ?_);refine nC 9 rfl Try.func85 (om.calls (kv (kN aY.out HB.out)) bU.out A3.out) ?_;intro w9 hb;replace af:=jU af hb;replace ak:=jU ak hb;replace HB:=jX HB hb;(try clear hb);have⟨dt,du,dv,dw⟩:=ko (w:=w9) af)|((with_reducible refine ky 5 rfl ?_);refine kS #[.int .i64 0,.slice none 0 0] 31 ?_;intro aV hg fC jS hb;have am:=dm (jS);have fN:=dm (kg:w.heap.size<=aV);have fO:=dm (kg:w.heap.size<=aV);replace HB:=jX HB hb;have ax:=dm (yK:aA≠aV);have aQ:=dm (yL:aV≠aA);replace af:=jU af hb;have aR:=dm ((by rw[hg];exact Nat.ne_of_lt (lq (g:=av) (o:=.cells #[.int .i64 0,.slice none 0 0] 31 (0,0)) (jZ ak.out)):av≠aV));have bk:=dm ((by rw[hg];exact Nat.ne_of_gt (lq (g:=av) (o:=.cells #[.int .i64 0,.slice none 0 0] 31 (0,0)) (jZ ak.out)):aV≠av));replace ak:=jU ak hb;clear hb jS hg;have fP:=aQ.out;have fQ:=ax.out;have fR:=bk.out;have fS:=aR.out;have⟨dx,dy,dz,dA⟩:=ko (w:=fC) am))
  go_loopg [6] k (fun kq v6 w'=>∃ (ac:Int) (aq:List (S59)) (aK:Value),v6=.int .i64 ac/\jP (mR.l0 kq a1 ac ae aa ae aq=some (r1,r2))/\jP (kq<=k)/\jP (Kd.R k59 59 w' w.heap.size (fun _=>True) aK aq)/\jP (w'.heap[aA]? =some (.cells #[.int .i64 ae,(.slice aG aa.length aC)] 31 (0,0)))/\jP (w'.heap[av]? =some (.cells #[.int .i64 0,(.slice none 0 0)] 31 (0,0)))/\jP (w'.heap[aV]? =some (.cells #[.int .i64 ae,aK] 31 (0,0)))/\jP (Below w.heap.size w w'))
  case atStart=>exact⟨(0),(([]:List (S59))),(.slice none 0 0),(ku),H',⟨Nat.le_refl _⟩,⟨by first|exact sS _ _ _ _ _|exact wF _ _ _ _ _|exact wT _ _ _ _ _|exact wH _ _ _ _ _|exact wR _ _ _ _ _⟩,⟨lI af.out⟩,⟨lI ak.out⟩,⟨lI am.out⟩,⟨jR HB.out⟩⟩
  case round=>
   clear H';(try clear c4 dt du dx dy cm cn dv dw dz dA co cp);obtain⟨ac,aq,aK,rfl,HA,a3,al,af,ak,am,HB⟩:=hrel;cases gk with
   |zero=>exact absurd HA.out (by simp[mR.l0])
   |succ k1=>
    have H:=HA.out;clear HA;simp only [mR.l0]at H
    replace H:=lH H;rcases H with⟨eg,H⟩|⟨eg,H⟩
    ·skip
     obtain⟨fT,H⟩:=kX H
     by_cases bW:((jQ aa ac).f0)=a1
     ·rw[if_pos bW]at H;have eh:=beq_iff_eq.mpr bW;have ei:=bne_eq_false_iff_eq.mpr bW;clear bW;have H':=dm H;clear H;have fU:=aH.out;have fV:=aI.out;have fW:=ax.out;have fX:=aQ.out;have⟨eW,eX,eY,eZ⟩:=ko (w:=wr) af;have a4:0<=(ac:Int):=jT;have a5:ac<(aa.length:Int):=jT;obtain⟨aZ,bX,aT,aU⟩:=l7 aY.out ac a4 a5;cases bX;replace aT:=j4 HB aT;replace aU:=j4 HB aU;replace a4:=eq_true a4;replace a5:=eq_true a5
      go_wp2
      go_roundg k1
      case measure=>have:=a3.out;omega
      case rel=>exact⟨(wrap64 (ac+1)),(aq),(aK),(ku),H',⟨by have:=a3.out;omega⟩,⟨jV al.out⟩,⟨jZ af.out⟩,⟨jZ ak.out⟩,⟨jZ am.out⟩,⟨jR HB.out⟩⟩
     rw[if_neg bW]at H;have eh:=beq_eq_false_iff_ne.mpr bW;have ei:=bne_iff_ne.mpr bW
     by_cases a_:((jQ aa ac).f1)=a1
     ·rw[if_pos a_]at H;have ca:=beq_iff_eq.mpr a_;have cd:=bne_eq_false_iff_eq.mpr a_;clear a_;have H':=dm H;clear H;have fY:=aH.out;have fZ:=aI.out;have f2:=ax.out;have f3:=aQ.out;have⟨e2,e3,e4,e5⟩:=ko (w:=wr) af;have a4:0<=(ac:Int):=jT;have a5:ac<(aa.length:Int):=jT;obtain⟨aZ,bX,aT,aU⟩:=l7 aY.out ac a4 a5;cases bX;replace aT:=j4 HB aT;replace aU:=j4 HB aU;replace a4:=eq_true a4;replace a5:=eq_true a5;have bx:0<=(ac:Int):=jT;have bz:ac<(aa.length:Int):=jT;obtain⟨ce,cu,ba,bd⟩:=l7 aY.out ac bx bz;obtain rfl:aZ=ce:=(by injection cu);replace ba:=j4 HB ba;replace bd:=j4 HB bd;replace bx:=eq_true bx;replace bz:=eq_true bz
      go_wp2
      go_roundg k1
      case measure=>have:=a3.out;omega
      case rel=>exact⟨(wrap64 (ac+1)),(aq),(aK),(ku),H',⟨by have:=a3.out;omega⟩,⟨jV al.out⟩,⟨jZ af.out⟩,⟨jZ ak.out⟩,⟨jZ am.out⟩,⟨jR HB.out⟩⟩
     rw[if_neg a_]at H;have ca:=beq_eq_false_iff_ne.mpr a_;have cd:=bne_iff_ne.mpr a_
     obtain⟨bv,H⟩:=mH H;have ej:=dm bv;clear bv;obtain⟨cf,bG⟩:∃y_:List (S59),y_=(aq++[(⟨(jQ aa ac).f0,(jQ aa ac).f1⟩:S59)]):=⟨_,rfl⟩;replace H:(mR.l0 k1 a1 (wrap64 (ac+1)) ae aa ae cf)=some (r1,r2):=lC bG H
     have ek:=dm bG;clear bG;have H':=dm H;clear H;have f4:=aH.out;have f5:=aI.out;have f6:=ax.out;have f7:=aQ.out;have⟨e6,e7,e8,e9⟩:=ko (w:=wr) af;have a4:0<=(ac:Int):=jT;have a5:ac<(aa.length:Int):=jT;obtain⟨aZ,bX,aT,aU⟩:=l7 aY.out ac a4 a5;cases bX;replace aT:=j4 HB aT;replace aU:=j4 HB aU;replace a4:=eq_true a4;replace a5:=eq_true a5;have bx:0<=(ac:Int):=jT;have bz:ac<(aa.length:Int):=jT;obtain⟨ce,cu,ba,bd⟩:=l7 aY.out ac bx bz;obtain rfl:aZ=ce:=(by injection cu);replace ba:=j4 HB ba;replace bd:=j4 HB bd;replace bx:=eq_true bx;replace bz:=eq_true bz;try go_wp2
     replace al:=dm (kw al.out);replace af:=dm (kU af.out);replace ak:=dm (kU ak.out);replace am:=dm (kU am.out);replace HB:=dm (mg HB.out);have cv:0<=(ac:Int):=jT;have cw:ac<(aa.length:Int):=jT;obtain⟨el,eL,bn,bo⟩:=l7 aY.out ac cv cw;have bp:=bo;have bq:=bn;obtain rfl:aZ=el:=(by injection eL);replace bn:=j4 HB bn;replace bo:=j4 HB bo;replace cv:=eq_true cv;replace cw:=eq_true cw;refine nk 11 (S:=fun w'=>w'.cell? ⟨aV,0,none⟩=some (.int .i64 ae)/\w'.cell? ⟨aV,1,none⟩=some (aK)/\w'.cell? ⟨aA,0,none⟩=some (.int .i64 ae)/\w'.cell? ⟨aA,1,none⟩=some (.slice (some aZ) aa.length aC)/\w'.cell? (aZ.add ((ac).toNat*2))=some (.int .i64 ((jQ aa ac).f0))/\w'.cell? ⟨(aZ.add ((ac).toNat*2)).block,(aZ.add ((ac).toNat*2)).off+1,none⟩=some (.int .i64 ((jQ aa ac).f1))) [10] ⟨jY am 0,jY am 1,jY af 0,jY af 1,(j4 HB bq),(j4 HB bp)⟩ mR.wz mR.vC (fun hHeld HT_ HW_=>?_);generalize wr.drew=gJ at al af ak am HB bn bo hHeld⊢;refine jW 0 40 1 ?_;refine jW 2 42 5 ?_;refine jW 4 44 21 ?_;refine kL 1 41 23 ?_;refine kL 3 43 31 ?_;refine jW 5 45 63 ?_;refine kL 6 46 127 ?_;refine l6 7 47 255 (fun K hK=>?_);refine xN (w1:= ?_) (v:= ?_) (by rfl) rfl ?_ ?_;rotate_left 2
     ·go_simp
      constructor
      ·rfl
      rfl
     refine hK.out _ _ ⟨(mq (nQ am.out _) 0).trans rfl,(mq (nQ am.out _) 1).trans rfl,(mq (nQ af.out _) 0).trans rfl,(mq (nQ af.out _) 1).trans rfl,(World.cell?_alloc_lt _ _ _ (World.block_lt_of_cell? _ _ ((j4 HB bq)))).trans ((j4 HB bq)),(World.cell?_alloc_lt _ _ _ (World.block_lt_of_cell? _ _ ((j4 HB bp)))).trans ((j4 HB bp))⟩ (fun hHeld=>?_);clear hK K;refine ll 47 ?_;refine l6 8 48 511 (fun K hK=>?_);refine wJ k59 (w0:=w) w.heap.size (by rfl) (.tmp 41) (.tmp 47) 29 59 (.agg #[(.int .i64 0),(.int .i64 0)]) 16 rfl Try.underlying29 sH rfl (by decide) (by omega) aK aq (⟨(jQ aa ac).f0,(jQ aa ac).f1⟩:S59) [.int .i64 ((jQ aa ac).f0),.int .i64 ((jQ aa ac).f1)] (fun _=>True) (fun _=>False) rfl rfl ?aP (fun _ hk=>hk.elim) ?aF ?aO ?aB ?aS ?aL ?_;(case aP=>exact qg _ _ _ (⟨(jQ aa ac).f0,(jQ aa ac).f1⟩:S59));(case aB=>exact(jR HB.out));(case aF=>exact(fun _ _=>trivial));(case aO=>exact(jV al.out));(case aS=>exact(kC (jR HB.out)));(case aL=>have:=ej.out;omega);intro gu fD ho hb hg hat;rw[←ek.out]at ho;have n0:=lY af hg (lS al.out af.out (by decide));have n1:=lY ak hg (lS al.out ak.out (by decide));have n2:=lY am hg (lS al.out am.out (by decide));have n3:=dm (hb);have n4:=dm (ho);clear af ak am HB al;revert n0 n1 n2 n3 n4;intro af ak am HB cT;clear ho hb hg hat;obtain⟨dL,dM,dN⟩:=kK cT.out;(first|subst dN|(injection dN with eH fE eI;have fF:=eH.symm;have fG:=eI.symm;clear eH fE eI;subst fF;subst fG));refine hK.out _ _ ⟨jY am 0,jY am 1,jY af 0,jY af 1,(j4 HB bq),(j4 HB bp)⟩ (fun hHeld=>?_);clear hK K;refine ll 48 ?_;refine jW 9 49 1023 ?_;refine uq 10 (none) (lJ 11 2047) (fun K hK=>?_);have gv:fD.cell? ⟨aV,1,none⟩=some (aK):=jY am 1;have f8:=l8 am.out 1;have fa:=ax.out;have fb:=aR.out;have fc:=aQ.out;have fd:=bk.out;refine r_ (w1:= ?_) (by rfl) rfl ?_ ?_;rotate_left
     ·go_simp
      rfl
     refine hK.out _ _ ?_;clear hK K;refine mD (mV HT_.out (by kernel_rfl)) ?_;try go_wp2
     go_roundg k1
     case measure=>have:=a3.out;omega
     case rel=>exact⟨(wrap64 (ac+1)),(cf),(.slice dL cf.length dM),(ku),H',⟨by have:=a3.out;omega⟩,⟨by(with_reducible repeat(first|apply kI|apply kJ|apply kw));exact kz (lh (p:=⟨aV,1,none⟩) (mr cT.out am.out (by decide)) (fun _ hk=>hk.2) (.slice dL cf.length dM)) (fun _ hk=>trivial)⟩,⟨lI af.out⟩,⟨lI ak.out⟩,⟨lI am.out⟩,⟨jR HB.out⟩⟩
    simp only [Option.some.injEq,Prod.mk.injEq]at H;obtain⟨rfl,rfl⟩:=H;have f9:=aH.out;have f_:=aI.out;have ga:=ax.out;have gb:=aQ.out;have⟨fe,ff,fg,fh⟩:=ko (w:=wr) af;have gc:=bk.out;have ge:=aR.out;have⟨fi,fj,fk,fm⟩:=ko (w:=wr) am;have⟨fo,fp,fq,ft⟩:=ko (w:=wr) ak;obtain⟨cx,cy,cz⟩:=kK al.out;subst cz
    go_wp2;refine bodyPost_ret (results_cell_row rfl _ _ av 31 #[.int .i64 ae,.slice cx aq.length cy] (0,0) _ rfl (lI ak.out) Try.underlying31 rfl (by kernel_rfl)) rfl ?_;exact⟨_,mW,by(with_reducible repeat(first|apply kI|apply kJ|apply kw));exact kz (lh (p:=⟨av,1,none⟩) (lh (p:=⟨av,0,none⟩) (mr al.out ak.out (by decide)) (fun _ hk=>hk.2) (.int .i64 ae)) (fun _ hk=>hk.2) (.slice cx aq.length cy)) (fun _ hk=>trivial),jR HB.out⟩
 simp only [Option.some.injEq,Prod.mk.injEq]at H;obtain⟨rfl,rfl⟩:=H
 go_enter Try.func96,Try.ntmps96
 go_wp2_with (first|((with_reducible refine ky 2 rfl ?_);refine kS #[.int .i64 ae,.slice aG aa.length aC] 31 ?_;intro aA hg gK jS hb;have af:=dm (jS);have ec:=dm (kg:w.heap.size<=aA);have ed:=dm (kg:w.heap.size<=aA);replace HB:=jX HB hb;clear hb jS hg)|((with_reducible refine ky 4 rfl ?_);refine kS #[.int .i64 0,.slice none 0 0] 31 ?_;intro av hg fH jS hb;have ak:=dm (jS);have ee:=dm (kg:w.heap.size<=av);have ef:=dm (kg:w.heap.size<=av);replace HB:=jX HB hb;have aH:=dm (yK:aA≠av);have aI:=dm (yL:av≠aA);replace af:=jU af hb;clear hb jS hg;have gf:=aH.out;have gg:=aI.out;have⟨fu,fv,fw,fx⟩:=ko (w:=fH) af)|((with_reducible refine kQ 85 rfl ?_);refine nC 9 rfl Try.func85 (om.calls (kv (kN aY.out HB.out)) bU.out A3.out) ?_;intro fI hb;replace af:=jU af hb;replace ak:=jU ak hb;replace HB:=jX HB hb;(try clear hb);have⟨fy,fz,fA,fB⟩:=ko (w:=fI) ak))
 refine bodyPost_ret (results_cell_row rfl _ _ av 31 #[.int .i64 0,.slice none 0 0] (0,0) _ rfl (lI ak.out) Try.underlying31 rfl (by kernel_rfl)) rfl ?_;exact⟨_,mW,by first|exact sS _ _ _ _ _|exact wF _ _ _ _ _|exact wT _ _ _ _ _|exact wH _ _ _ _ _|exact wR _ _ _ _ _,jR HB.out⟩
mutual
def lN.l0:Nat->Int->List Int->Int->Int->List (S59)->Option (List Int)
 |0,_,_,_,_,_=>none
 |k+1,x1,x5,x6,aD,aM=>if x6<aD then(if x5.length<17592186044416 then(lN.l0 k x1 (x5++[(-1)]) (wrap64 (x6+1)) aD aM) else(none)) else(if 0<=x1 then(if x1<(x5.length:Int) then(lN.l1 k (x5.set (x1:Int).toNat 0) (([x1]:List Int)) aD aM) else(none)) else(none))
def lN.l1:Nat->List Int->List Int->Int->List (S59)->Option (List Int)
 |0,_,_,_,_=>none
 |k+1,x5,x7,aD,aM=>if(x7.length:Int)>0 then(if 0<(x7.length:Int) then((nI.f k aD aM (rd x7 0)).bind fun ah=>(if 1<=(x7.length:Int) then(lN.l2 k x5 (x7.drop (1:Int).toNat) (rd x7 0) ah 0 aD aM) else(none))) else(none)) else(some x5)
def lN.l2:Nat->List Int->List Int->Int->List Int->Int->Int->List (S59)->Option (List Int)
 |0,_,_,_,_,_,_,_=>none
 |k+1,x5,x7,x8,x9,bH,aD,aM=>if bH<(x9.length:Int) then(if 0<=bH then(if 0<=(rd x9 bH) then(if(rd x9 bH)<(x5.length:Int) then(if(rd x5 (rd x9 bH))<0 then(if 0<=x8 then(if x8<(x5.length:Int) then(if x7.length<17592186044416 then(lN.l2 k (x5.set ((rd x9 bH):Int).toNat (wrap64 ((rd x5 x8)+1))) (x7++[rd x9 bH]) x8 x9 (wrap64 (bH+1)) aD aM) else(none)) else(none)) else(none)) else(lN.l2 k x5 x7 x8 x9 (wrap64 (bH+1)) aD aM)) else(none)) else(none)) else(none)) else(lN.l1 k x5 x7 aD aM)
end
def lN.f (k:Nat) (ae:Int) (aa:List (S59)) (a1:Int):Option (List Int):=lN.l0 k a1 (([]:List Int)) 0 ae aa
def lN.T16:Bool×List (List Nat×List Nat):=(true,[([],[]),([],[]),([],[]),([1,2],[1,2]),([3],[3]),([],[]),([],[]),([5,6],[5,6]),([7],[7]),([8],[8]),([0,4,0,1,2,3,4,5,6,7,8,9],[0,4]),([10,9,0,1,2,3,4,5,6,7,8,9],[9,10])])
def lN.B16:List Nat:=[0,0,0,6,14,0,0,96,224,480,1023,2047]
theorem lN.zF:mi .any (opsOf Try.f116 16)=lN.T16:=by kernel_rfl
theorem lN.yB:nY lN.T16.2 lN.B16=true:=by kernel_rfl
theorem lN.calls {k:Nat}{ae:Int}{aG:Option Addr}{aC:Nat}{aa:List (S59)}{a1:Int}{r:List Int}{w:World}(bE:Kd.C k59 w aG aa.length aa)(bF:aa.length<=aC)(h:lN.f k ae aa a1=some r):
  Calls Try.prog 116 #[.agg #[.int .i64 ae,.slice aG aa.length aC],.int .i64 a1] w fun e w'=>∃eJ:Value,e=.returned (eJ)/\Kd.R (Kd.int .i64) 3 w' w.heap.size (fun _=>True) eJ r/\Below w.heap.size w w':=by
 have eK:=Try.underlying31;have aY:=dm bE;have bU:=dm bF;clear bE bF;have HB:=dm (Below.refl w.heap.size w);unfold lN.f at h;have H:=h;clear h;obtain⟨dO,bI⟩:∃y_:List Int,y_=(([]:List Int)):=⟨_,rfl⟩;replace H:(lN.l0 k a1 dO 0 ae aa)=some r:=lC bI H
 have cU:=dm bI;clear bI;have H':=dm H;clear H
 go_enter Try.func116,Try.ntmps116
 go_wp2_with (first|((with_reducible refine ky 2 rfl ?_);refine kS #[.int .i64 ae,.slice aG aa.length aC] 31 ?_;intro br hg w3 jS hb;have ag:=dm (jS);have gh:=dm (kg:w.heap.size<=br);have eb:=dm (kg:w.heap.size<=br);replace HB:=jX HB hb;clear hb jS hg)|((with_reducible refine ky 11 rfl ?_);refine og (Kd.int .i64) rfl 3 ([]:List Int) [] (kF.none _ _) ?_;intro gw w4 ct hb hg_ kV;clear hg_ kV;(first|rw[←cU.out]at ct|(simp only [Int.reduceToNat]at ct;rw[←cU.out]at ct));have em:=dm (kP ct (kC (jR HB.out)));replace ag:=jU ag hb;replace HB:=jX HB hb;clear hb ct))
 go_loopg [5,6] k (fun kq v5 v6 w'=>∃ (aW:List Int) (ac:Int),v6=.int .i64 ac/\jP (lN.l0 kq a1 aW ac ae aa=some r)/\jP (kq<=k)/\jP (Kd.R (Kd.int .i64) 3 w' w.heap.size (fun _=>True) v5 aW)/\jP (w'.heap[br]? =some (.cells #[.int .i64 ae,(.slice aG aa.length aC)] 31 (0,0)))/\jP (Below w.heap.size w w'))
 case atStart=>exact⟨(dO),(0),(ku),H',⟨Nat.le_refl _⟩,⟨jV em.out⟩,⟨jZ ag.out⟩,⟨jR HB.out⟩⟩
 case round=>
  clear H';obtain⟨aW,ac,rfl,HA,a3,ai,ag,HB⟩:=hrel;cases gk with
  |zero=>exact absurd HA.out (by simp[lN.l0])
  |succ k1=>
   have H:=HA.out;clear HA;simp only [lN.l0]at H
   replace H:=lH H;rcases H with⟨dP,H⟩|⟨dP,H⟩
   ·skip
    obtain⟨c7,H⟩:=mH H;have eM:=dm c7;clear c7;obtain⟨dQ,bJ⟩:∃y_:List Int,y_=(aW++[(-1)]):=⟨_,rfl⟩;replace H:(lN.l0 k1 a1 dQ (wrap64 (ac+1)) ae aa)=some r:=lC bJ H
    have en:=dm bJ;clear bJ;have H':=dm H;clear H;have⟨cm,cn,co,cp⟩:=ko (w:=wr) ag
    go_wp2_with (first|((with_reducible refine oh (b:=.append) (xs:= #[.tmp 18,.tmp 19]) rfl ?_);at_builtin;refine pg (Kd.int .i64) (w0:=w) w.heap.size rfl (.tmp 18) (.tmp 19) 45 3 (.int .i64 0) 8 rfl Try.underlying45 info3 rfl (by decide) (by omega) u5 aW (-1) [.int .i64 (-1)] (fun _=>True) (fun _=>False) rfl rfl ?aP (fun _ hk=>hk.elim) ?aF ?aO ?aB ?aS ?aL ?_;(case aP=>exact rfl);(case aB=>exact(jR HB.out));(case aF=>exact(fun _ _=>trivial));(case aO=>exact(jV ai.out));(case aS=>exact(kC (jR HB.out)));(case aL=>have:=eM.out;omega);intro gx w9 ho hb hg hat;rw[←en.out]at ho;have n0:=lY ag hg (lS ai.out ag.out (by decide));have n1:=dm (hb);have n2:=dm (ho);clear ag HB ai;revert n0 n1 n2;intro ag HB eo;clear ho hb hg hat))
    go_roundg k1
    case measure=>have:=a3.out;omega
    case rel=>exact⟨(dQ),(wrap64 (ac+1)),(ku),H',⟨by have:=a3.out;omega⟩,⟨jV eo.out⟩,⟨jZ ag.out⟩,⟨jR HB.out⟩⟩
   skip
   obtain⟨ep,H⟩:=kX H
   obtain⟨eq,H⟩:=kX H;obtain⟨cg,bK⟩:∃y_:List Int,y_=(aW.set (a1:Int).toNat 0):=⟨_,rfl⟩;replace H:(lN.l1 k1 cg (([a1]:List Int)) ae aa)=some r:=lC bK H
   have es:=dm bK;clear bK;obtain⟨dR,bL⟩:∃y_:List Int,y_=(([a1]:List Int)):=⟨_,rfl⟩;replace H:(lN.l1 k1 cg dR ae aa)=some r:=lC bL H
   have cX:=dm bL;clear bL;have H':=dm H;clear H;have⟨dB,dC,dD,dE⟩:=ko (w:=wr) ag;have cY:0<=(a1:Int):=jT;have cZ:(a1:Int)<((aW.length:Int):Int):=jT;obtain⟨ap,a7,dS,dT,eN,gy,dU⟩:=sQ ai.out (by omega);(first|cases dS|(injection dS with ea_ en_ ec_;(first|subst ea_|(injection ea_ with ea_;subst ea_));subst ec_;clear en_));have dK:=dm dT;have gz:=dm dU;clear dT eN dU;obtain⟨dV,fJ⟩:=qR 0 ai.out (a1:Int) cY cZ;replace cY:=eq_true cY;replace cZ:=eq_true cZ;have cA:=uD ai.out (a1:Int) 0
   go_wp2_with (first|((with_reducible refine rT (t:=3) (p:=23) rfl ?_);refine sj (t:=3) (p:=23) (v:= ?vo_w15) (w1:=(wr.setCell ⟨ap,(a1:Int).toNat,none⟩ (.int .i64 0))) ?hg ?ho ?hn ?hr ?_;(case ho=>rfl);(case hg=>rfl);(case hn=>rfl);(case hr=>first|(go_simp;done)|(go_simp;rfl));intro dW hw;have hg:wr.grownBy dW (some ap):=(by rw[hw];exact cA.2);have hp_:Kd.R (Kd.int .i64) 3 dW w.heap.size (fun _=>True) (.slice (some ⟨ap,0,none⟩) aW.length a7) cg:=(by rw[hw,es.out];exact cA.1);clear cA;replace ag:=lY ag hg (lS ai.out ag.out (by decide));replace ai:=dm (hp_);replace HB:=dm ((by rw[hw];exact ou (HB.out) dK.out:Below w.heap.size w dW));clear hg hw hp_)|((with_reducible refine ky 25 rfl ?_);refine og (Kd.int .i64) rfl 3 ([a1]:List Int) [.int .i64 a1] (kF.one (show Kd.M (Kd.int .i64) _ _ _ a1 [.int .i64 a1] from rfl) (kF.none _ _)) ?_;intro gA gM bS hb hg_ kV;clear hg_ kV;(first|rw[←cX.out]at bS|(simp only [Int.reduceToNat]at bS;rw[←cX.out]at bS));have et:=dm (kP (lF bS (kT (jV ai.out))) (kC (jR HB.out)));replace ai:=lK ai bS hb;replace ag:=jU ag hb;replace HB:=jX HB hb;clear hb bS))
   go_loopg [7] k1 (fun kq v7 w'=>∃ (a6:List Int) (aj:List Int),jP (lN.l1 kq a6 aj ae aa=some r)/\jP (kq<=k1)/\jP (Kd.R (Kd.int .i64) 3 w' w.heap.size (fun k_=>some k_≠(v7:Value).ownBlock) (.slice (some ⟨ap,0,none⟩) aW.length a7) a6)/\jP (Kd.Q (Kd.int .i64) 3 w' w.heap.size (fun k_=>some k_≠((.slice (some ⟨ap,0,none⟩) aW.length a7):Value).ownBlock) v7 aj)/\jP (w'.heap[br]? =some (.cells #[.int .i64 ae,(.slice aG aa.length aC)] 31 (0,0)))/\jP (Below w.heap.size w w'))
   case atStart=>exact⟨(cg),(dR),H',⟨Nat.le_refl _⟩,⟨by(with_reducible repeat(first|apply kI|apply kJ|apply kw));exact kz ai.out (fun _ hk=>hk.2)⟩,⟨xU (by(with_reducible repeat(first|apply kI|apply kJ|apply kw));exact kz et.out (fun _ hk=>hk.2))⟩,⟨jZ ag.out⟩,⟨jR HB.out⟩⟩
   case round=>
    clear H';(try clear dP ep eq cY cZ dB dC dD dE dV);obtain⟨a6,aj,HA,b4,ai,ay,ag,HB⟩:=hrel;have aw:=(kr ai.out).1;rw[aw]at ai;(try simp only [aw]);(try simp only [aw]at ag);(try simp only [aw]at ay);cases gk with
    |zero=>exact absurd HA.out (by simp[lN.l1])
    |succ k2=>
     have H:=HA.out;clear HA;simp only [lN.l1]at H
     by_cases b5:(aj.length:Int)>0;rotate_left
     ·rw[if_neg b5]at H;have c_:=decide_eq_false b5;have db:decide (0<aj.length)=false:=decide_eq_false (by omega);clear b5;obtain rfl:=Option.some.inj H;obtain⟨gH,gI,eV,_⟩:=wI ay.out;subst eV
      go_wp2
      go_ret
      exact⟨_,mW,by(with_reducible repeat(first|apply kI|apply kJ|apply kw));exact kz ai.out (fun _ hk=>trivial),jR HB.out⟩
     rw[if_pos b5]at H;have c_:=decide_eq_true b5;have db:decide (0<aj.length)=true:=decide_eq_true (by omega);clear b5
     obtain⟨dc,H⟩:=mH H;have eu:=decide_eq_true dc;have ev:decide (0<aj.length)=true:=decide_eq_true (by omega);clear dc;obtain⟨ah,fK,H⟩:=kR H;(try dsimp only at H)
     obtain⟨a_,H⟩:=mH H;have ca:=eq_true a_;have cd:=decide_eq_true a_;clear a_;obtain⟨bl,bM⟩:∃y_:List Int,y_=(aj.drop (1:Int).toNat):=⟨_,rfl⟩;replace H:(lN.l2 k2 a6 bl (rd aj 0) ah 0 ae aa)=some r:=lC bM H
     have dd:=dm bM;clear bM;have H':=dm H;clear H;obtain⟨gB,ch,eO,_⟩:=wI ay.out;subst eO;have ci:0<=(0:Int):=(by omega);have cj:0<(aj.length:Int):=jT;obtain⟨bN,eP,bT⟩:=kZ (xV ay.out).2.2 0 ci cj;cases eP;have gi:(0<aj.length)=True:=eq_true (by omega);(try rw[show((0:Int)).toNat=0 from rfl]at bT);(try rw[Addr.add_zero']at bT);replace ci:=eq_true ci;replace cj:=eq_true cj;have⟨dF,dG,dH,dI⟩:=ko (w:=wr) ag
     go_wp2_with (first|((with_reducible refine kQ 94 rfl ?_);refine lL 34 rfl Try.func94 (nI.calls (kv (kN aY.out HB.out)) bU.out fK.out) ?_;rintro e fL ⟨bY,rfl,de,hb⟩;refine⟨_,rfl,?_⟩;have bV:=dm (kP (lF (lF de (kT (jV ai.out))) (Aa (by(with_reducible repeat(first|apply qP|apply qQ|apply qB));exact ay.out))) (kC (jR HB.out)));replace ai:=lK ai de hb;replace ay:=dm (z_ (by(with_reducible repeat(first|apply qP|apply qQ|apply qB));exact ay.out) (pR de) hb);replace ag:=jU ag hb;replace HB:=jX HB hb;(try clear hb de);have df:(1:Int)<=((aj.length:Int):Int):=jT;obtain⟨gC,dg,_,dh,_⟩:=info_parts info3;have dX:=CG (P:=Try.prog) 45 3 .i64 Try.underlying45 dg 1 dh (some bN) aj.length ch 1 (by omega) df;have bZ:=z8 (k:=(1:Int).toNat) ay.out (by omega);obtain⟨di,ck⟩:∃A1,A1=(if ch=(1:Int).toNat then(some bN) else((some bN):Option Addr).map (·.add ((1:Int).toNat*1))):=⟨_,rfl⟩;obtain⟨bv,cD⟩:∃c1,c1=ch - (1:Int).toNat:=⟨_,rfl⟩;have cE:bl.length=aj.length - (1:Int).toNat:=(by rw[dd.out,List.length_drop]);rw[←dd.out]at bZ;rw[←cE,←ck,←cD]at dX;replace bZ:Kd.Q (Kd.int .i64) 3 fL w.heap.size (fun k_=>some k_≠(.slice (some ⟨ap,0,none⟩) a6.length a7:Value).ownBlock/\some k_≠(bY:Value).ownBlock) (.slice di bl.length bv) bl:=(by rw[ck,cD,cE];exact bZ);have dY:jP ((Value.slice di bl.length bv).ownBlock=(.slice (some bN) aj.length ch:Value).ownBlock):=⟨by rw[ck];split<;> (cases((some bN):Option Addr)<;>rfl)⟩;clear cE dg dh ay ck cD;have ew:=dm bZ;clear bZ;replace df:=eq_true df;have n_:=dm (kz (ok':=fun k_=>(some k_≠(.slice di bl.length bv:Value).ownBlock/\some k_≠(bY:Value).ownBlock)) ai.out (fun k_ hk=>⟨(by rw[dY.out];exact hk.1),hk.2⟩));clear ai;have ai:=n_;clear n_;have n_:=dm (kz (ok':=fun k_=>((True/\some k_≠(.slice (some ⟨ap,0,none⟩) a6.length a7:Value).ownBlock)/\some k_≠(.slice di bl.length bv:Value).ownBlock)) bV.out (fun k_ hk=>⟨⟨trivial,hk.1.2⟩,(by rw[dY.out];exact hk.2)⟩));clear bV;have bV:=n_;clear n_))
     go_loopg [7,10] k2 (fun kq v7 fM w'=>∃ (ao:List Int) (a8:List Int) (ab:Int),fM=.int .i64 ab/\jP (lN.l2 kq ao a8 (rd aj 0) ah ab ae aa=some r)/\jP (kq<=k2)/\jP (Kd.R (Kd.int .i64) 3 w' w.heap.size (fun k_=>some k_≠(v7:Value).ownBlock/\some k_≠(bY:Value).ownBlock) (.slice (some ⟨ap,0,none⟩) a6.length a7) ao)/\jP (Kd.Q (Kd.int .i64) 3 w' w.heap.size (fun k_=>some k_≠((.slice (some ⟨ap,0,none⟩) a6.length a7):Value).ownBlock/\some k_≠(bY:Value).ownBlock) v7 a8)/\jP (Kd.R (Kd.int .i64) 3 w' w.heap.size (fun k_=>some k_≠((.slice (some ⟨ap,0,none⟩) a6.length a7):Value).ownBlock/\some k_≠(v7:Value).ownBlock) bY ah)/\jP (w'.heap[br]? =some (.cells #[.int .i64 ae,(.slice aG aa.length aC)] 31 (0,0)))/\jP (Below w.heap.size w w'))
     case atStart=>exact⟨(a6),(bl),(0),(ku),H',⟨Nat.le_refl _⟩,⟨by(try simp only [aw]);(with_reducible repeat(first|apply kI|apply kJ|apply kw));exact ai.out⟩,⟨by(try simp only [aw]);(with_reducible repeat(first|apply qP|apply qQ|apply qB));exact ew.out⟩,⟨by(try simp only [aw]);(with_reducible repeat(first|apply kI|apply kJ|apply kw));exact kz bV.out (fun _ hk=>⟨hk.1.2,hk.2⟩)⟩,⟨by(try simp only [aw]);(with_reducible repeat(first|refine o8 ?_ _|refine kU ?_|refine nQ ?_ _));exact ag.out⟩,⟨jR HB.out⟩⟩
     case round=>
      clear H';(try clear c1 c_ db eu ev ca cd bv df dF dG dH dI bT ci cj);obtain⟨ao,a8,ab,rfl,HA,b6,ai,ay,aE,ag,HB⟩:=hrel;have az:=(kr ai.out).1;rw[az]at ai;(try simp only [az]);(try simp only [az]at ag);(try simp only [az]at ay);(try simp only [az]at aE);cases gk with
      |zero=>exact absurd HA.out (by simp[lN.l2])
      |succ k3=>
       have H:=HA.out;clear HA;simp only [lN.l2]at H
       replace H:=lH H;rcases H with⟨ex,H⟩|⟨ex,H⟩
       ·skip
        obtain⟨gj,H⟩:=kX H
        obtain⟨gl,H⟩:=kX H
        obtain⟨gm,H⟩:=kX H
        replace H:=lH H;rcases H with⟨ey,H⟩|⟨ey,H⟩
        ·skip
         obtain⟨gn,H⟩:=kX H
         obtain⟨gp,H⟩:=kX H;obtain⟨cF,bO⟩:∃y_:List Int,y_=(ao.set ((rd ah ab):Int).toNat (wrap64 ((rd ao (rd aj 0))+1))):=⟨_,rfl⟩;replace H:(if a8.length<17592186044416 then(lN.l2 k3 cF (a8++[rd ah ab]) (rd aj 0) ah (wrap64 (ab+1)) ae aa) else(none))=some r:=lC bO H
         have ez:=dm bO;clear bO
         obtain⟨dr,H⟩:=mH H;have eA:=dm dr;clear dr;obtain⟨dZ,bP⟩:∃y_:List Int,y_=(a8++[rd ah ab]):=⟨_,rfl⟩;replace H:(lN.l2 k3 cF dZ (rd aj 0) ah (wrap64 (ab+1)) ae aa)=some r:=lC bP H
         have eB:=dm bP;clear bP;have H':=dm H;clear H;obtain⟨gD,d7,eQ⟩:=kK aE.out;subst eQ;have bA:0<=(ab:Int):=jT;have bB:ab<(ah.length:Int):=jT;obtain⟨bh,cG,dJ⟩:=kZ (kr aE.out).2.2 ab bA bB;cases cG;replace bA:=eq_true bA;replace bB:=eq_true bB;have bC:0<=((rd ah ab):Int):=jT;have bD:(rd ah ab)<(ao.length:Int):=jT;obtain⟨cl,cH,aX⟩:=kZ (kr ai.out).2.2 (rd ah ab) bC bD;obtain rfl:(⟨ap,0,none⟩:Addr)=cl:=(by injection cH);(first|simp only [add_plain]at aX|simp only [qU]at aX|simp only [Addr.add,Nat.zero_add]at aX|skip);replace bC:=eq_true bC;replace bD:=eq_true bD;try go_wp2
         replace ai:=dm (kw ai.out);replace ay:=dm (qB ay.out);replace aE:=dm (kw aE.out);replace ag:=dm (kU ag.out);replace HB:=dm (mg HB.out);have cI:0<=(ab:Int):=jT;have cJ:ab<(ah.length:Int):=jT;obtain⟨eC,eR,b9⟩:=kZ (kr aE.out).2.2 ab cI cJ;obtain rfl:bh=eC:=(by injection eR);replace cI:=eq_true cI;replace cJ:=eq_true cJ;have cL:0<=((rd aj 0):Int):=jT;have cM:(rd aj 0)<(ao.length:Int):=jT;obtain⟨eD,eS,bf⟩:=kZ (kr ai.out).2.2 (rd aj 0) cL cM;obtain rfl:(⟨ap,0,none⟩:Addr)=eD:=(by injection eS);(first|simp only [add_plain]at bf|simp only [qU]at bf|simp only [Addr.add,Nat.zero_add]at bf|skip);replace cL:=eq_true cL;replace cM:=eq_true cM;have d8:0<=((rd ah ab):Int):=jT;have d9:((rd ah ab):Int)<((ao.length:Int):Int):=jT;obtain⟨d_,ea⟩:=qR 0 ai.out ((rd ah ab):Int) d8 d9;replace d8:=eq_true d8;replace d9:=eq_true d9;have cN:=x_ ai.out ((rd ah ab):Int) (wrap64 ((rd ao (rd aj 0))+1));rw[←ez.out]at cN;have cO:=dm cN;clear cN;refine nk 12 (S:=fun w'=>w'.cell? (bh.add (ab).toNat)=some (.int .i64 (rd ah ab))/\w'.cell? ⟨ap,((rd aj 0)).toNat,none⟩=some (.int .i64 (rd ao (rd aj 0)))) [11] ⟨b9,bf⟩ lN.zF lN.yB (fun hHeld HT_ HW_=>?_);generalize wr.drew=gN at ai ay aE ag HB cO ea b9 bf d_ hHeld⊢;refine jW 0 51 1 ?_;refine jW 1 52 3 ?_;refine jW 2 53 7 ?_;refine jW 3 54 15 ?_;refine jW 5 56 47 ?_;refine jW 6 57 111 ?_;refine jW 7 58 239 ?_;refine kL 4 55 255 ?_;refine kL 8 59 511 ?_;refine jW 9 60 1023 ?_;refine jW 10 61 2047 ?_;refine uq 11 (none) (lJ 12 4095) (fun K hK=>?_);refine r_ (w1:= ?_) (by rfl) rfl ?_ ?_;rotate_left
         ·go_simp
          rfl
         refine hK.out _ _ ?_;clear hK K;refine mD (mV HT_.out (by kernel_rfl)) ?_;have cP:0<=(ab:Int):=jT;have cQ:ab<(ah.length:Int):=jT;obtain⟨eE,eT,b_⟩:=kZ (kr aE.out).2.2 ab cP cQ;obtain rfl:bh=eE:=(by injection eT);have bu:bh.block≠ap:=(fun e_=>(aE.out.1 _ rfl).1 (congrArg some e_));replace b_:=(cell_far (p:=⟨ap,((rd ah ab):Int).toNat,none⟩) (by first|(rw[add_block];exact bu)|(show(Addr.add _ _).block≠_;rw[add_block];exact bu)|exact bu) (.int .i64 (wrap64 ((rd ao (rd aj 0))+1)))).trans b_;clear bu;replace cP:=eq_true cP;replace cQ:=eq_true cQ;try go_wp2_with (first|((with_reducible refine oh (b:=.append) (xs:= #[.tmp 62,.tmp 67]) rfl ?_);at_builtin;refine zZ (Kd.int .i64) (w0:=w) w.heap.size rfl (.tmp 62) (.tmp 67) 45 3 (.int .i64 0) 8 rfl Try.underlying45 info3 rfl (by decide) (by omega) u7 a8 (rd ah ab) [.int .i64 (rd ah ab)] (fun k_=>some k_≠(.slice (some ⟨ap,0,none⟩) ao.length a7:Value).ownBlock/\some k_≠(.slice (some bh) ah.length d7:Value).ownBlock) (fun _=>False) rfl (by first|(go_simp;done)|(go_simp;rfl)) ?aP (fun _ hk=>hk.elim) ?aF ?aO ?aB ?aS ?aL ?_;(case aP=>exact rfl);(case aB=>exact(Bl));(case aF=>exact(fun k_ hk=>⟨Kd.fresh' (kT (jV cO.out)) k_ hk,Kd.fresh' (kT (by(with_reducible repeat(first|apply kI|apply kJ|apply kw));exact(kz (lh (p:=⟨ap,((rd ah ab):Int).toNat,none⟩) (kz aE.out (fun k_ hk=>(⟨hk,fun e_=>hk.1 (by rw[e_];rfl)⟩:_/\k_≠ap))) (fun _ hk=>hk.2) (.int .i64 (wrap64 ((rd ao (rd aj 0))+1)))) (fun _ h_=>h_.1)))) k_ hk⟩));(case aO=>exact(by(with_reducible repeat(first|apply qP|apply qQ|apply qB));exact sw (EC (p:=⟨ap,((rd ah ab):Int).toNat,none⟩) (sw ay.out (fun k_ hk=>(⟨hk,fun e_=>hk.1 (by rw[e_];rfl)⟩:_/\k_≠ap))) (fun _ hk=>hk.2) (.int .i64 (wrap64 ((rd ao (rd aj 0))+1)))) (fun _ hk=>⟨hk.1.1,hk.1.2⟩)));(case aS=>exact(kC (Bl)));(case aL=>have:=eA.out;omega);intro gE gO ho hb hg hat;rw[←eB.out]at ho;have n0:=dm (nP (ok:=(fun k_=>some k_≠(.slice (some bh) ah.length d7:Value).ownBlock)) (by(with_reducible repeat(first|apply kI|apply kJ|apply kw));exact kz cO.out (fun _ hk=>⟨hk.2,hk.1⟩)) hg hat);have n1:=dm (nP (ok:=(fun k_=>some k_≠(.slice (some ⟨ap,0,none⟩) ao.length a7:Value).ownBlock)) (by(with_reducible repeat(first|apply kI|apply kJ|apply kw));exact kz (lh (p:=⟨ap,((rd ah ab):Int).toNat,none⟩) (kz aE.out (fun k_ hk=>(⟨hk,fun e_=>hk.1 (by rw[e_];rfl)⟩:_/\k_≠ap))) (fun _ hk=>hk.2) (.int .i64 (wrap64 ((rd ao (rd aj 0))+1)))) (fun _ hk=>⟨hk.1.1,hk.1.2⟩)) hg hat);have n2:=dm (AR (g:=br) (o:=.cells #[.int .i64 ae,.slice aG aa.length aC] 31 (0,0)) (by(with_reducible repeat(first|refine o8 ?_ _|refine kU ?_|refine nQ ?_ _));refine pV ?_ (by have h_:=lS ai.out ag.out (by decide);intro e_;exact h_ (by rw[e_];rfl)) _;(with_reducible repeat(first|refine o8 ?_ _|refine kU ?_|refine nQ ?_ _));exact ag.out) hg (Ac ay.out ag.out (by decide)));have n3:=dm (hb);have n4:=dm (ho);clear ai aE ag HB ay;revert n0 n1 n2 n3 n4;intro ai aE ag HB eF;clear ho hb hg hat))
         (try simp only [←az])
         go_roundg k3
         case measure=>have:=a3.out;have:=b4.out;have:=b6.out;omega
         case rel=>exact⟨(cF),(dZ),(wrap64 (ab+1)),(ku),H',⟨by have:=a3.out;have:=b4.out;have:=b6.out;omega⟩,⟨by(try simp only [aw]);(try simp only [az]);(with_reducible repeat(first|apply kI|apply kJ|apply kw));exact kz ai.out (fun _ hk=>⟨hk.2,hk.1⟩)⟩,⟨by(try simp only [aw]);(try simp only [az]);(with_reducible repeat(first|apply qP|apply qQ|apply qB));exact eF.out⟩,⟨Bn⟩,⟨yJ⟩,⟨jR HB.out⟩⟩
        have H':=dm H;clear H;obtain⟨cx,cy,cz⟩:=kK aE.out;subst cz;have bA:0<=(ab:Int):=jT;have bB:ab<(ah.length:Int):=jT;obtain⟨bh,cG,dJ⟩:=kZ (kr aE.out).2.2 ab bA bB;cases cG;replace bA:=eq_true bA;replace bB:=eq_true bB;have bC:0<=((rd ah ab):Int):=jT;have bD:(rd ah ab)<(ao.length:Int):=jT;obtain⟨cl,cH,aX⟩:=kZ (kr ai.out).2.2 (rd ah ab) bC bD;obtain rfl:(⟨ap,0,none⟩:Addr)=cl:=(by injection cH);(first|simp only [add_plain]at aX|simp only [qU]at aX|simp only [Addr.add,Nat.zero_add]at aX|skip);replace bC:=eq_true bC;replace bD:=eq_true bD
        go_wp2;(try simp only [←az])
        go_roundg k3
        case measure=>have:=a3.out;have:=b4.out;have:=b6.out;omega
        case rel=>exact⟨(ao),(a8),(wrap64 (ab+1)),(ku),H',⟨by have:=a3.out;have:=b4.out;have:=b6.out;omega⟩,⟨by(try simp only [aw]);(try simp only [az]);(with_reducible repeat(first|apply kI|apply kJ|apply kw));exact ai.out⟩,⟨by(try simp only [aw]);(try simp only [az]);(with_reducible repeat(first|apply qP|apply qQ|apply qB));exact ay.out⟩,⟨Bn⟩,⟨yJ⟩,⟨jR HB.out⟩⟩
       have H':=dm H;clear H;obtain⟨gF,gG,eU⟩:=kK aE.out;subst eU
       go_wp2;(try simp only [←aw,←az])
       go_roundg k3
       case measure=>have:=a3.out;have:=b4.out;have:=b6.out;omega
       case rel=>exact⟨(ao),(a8),H',⟨by have:=a3.out;have:=b4.out;have:=b6.out;omega⟩,⟨by(try simp only [aw]);(try simp only [az]);(with_reducible repeat(first|apply kI|apply kJ|apply kw));exact kz ai.out (fun _ hk=>hk.1)⟩,⟨by(try simp only [aw]);(try simp only [az]);(with_reducible repeat(first|apply qP|apply qQ|apply qB));exact sw ay.out (fun _ hk=>hk.1)⟩,⟨yJ⟩,⟨jR HB.out⟩⟩
theorem uI(h:p:=by(with_reducible repeat(first|apply kI|apply kJ|apply kw));exact kz ao.out (fun _ hk=>⟨hk.2,hk.1⟩)):p:=h
theorem uJ(h:p:=by(with_reducible repeat(first|apply kI|apply kJ|apply kw));exact kz ai.out (fun _ hk=>⟨hk.2,hk.1⟩)):p:=h
theorem vD(h:p:=by(with_reducible repeat(first|apply kI|apply kJ|apply kw));exact kz ac.out (fun _ hk=>hk.2)):p:=h
theorem wX(h:p:=by(with_reducible repeat(first|apply kI|apply kJ|apply kw));exact kz ai.out (fun _ hk=>hk.2)):p:=h
mutual
def lX.j0:Nat->Int->Int->List Int->Bool->Int->List (S59)->Option (List Int×Bool)
 |0,_,_,_,_,_,_=>none
 |k+1,x1,x2,x8,dB,az,aA=>if dB=true then(some (x8,false)) else((lN.f k az aA x2).bind fun ab=>(if 0<=x1 then(if x1<(ab.length:Int) then(if(rd ab x1)<0 then(some (x8,false)) else(if x8.length<17592186044416 then(lX.l0 k x2 (x8++[x1]) ab x1 az aA) else(none))) else(none)) else(none)))
def lX.l0:Nat->Int->List Int->List Int->Int->Int->List (S59)->Option (List Int×Bool)
 |0,_,_,_,_,_,_=>none
 |k+1,x2,x8,x9,aW,az,aA=>if aW=x2 then(some (x8,true)) else((nI.f k az aA aW).bind fun ah=>(lX.l1 k x2 x8 x9 aW ah 0 az aA))
def lX.l1:Nat->Int->List Int->List Int->Int->List Int->Int->Int->List (S59)->Option (List Int×Bool)
 |0,_,_,_,_,_,_,_,_=>none
 |k+1,x2,x8,x9,aW,bm,bj,az,aA=>if bj<(bm.length:Int) then(if 0<=bj then(if 0<=(rd bm bj) then(if(rd bm bj)<(x9.length:Int) then(if 0<=aW then(if aW<(x9.length:Int) then(if(rd x9 (rd bm bj))=(wrap64 ((rd x9 aW) - 1)) then(if x8.length<17592186044416 then(lX.l0 k x2 (x8++[rd bm bj]) x9 (rd bm bj) az aA) else(none)) else(lX.l1 k x2 x8 x9 aW bm (wrap64 (bj+1)) az aA)) else(none)) else(none)) else(none)) else(none)) else(none)) else(if x8.length<17592186044416 then(lX.l0 k x2 (x8++[aW]) x9 aW az aA) else(none))
end
def lX.f (k:Nat) (af:Int) (ae:List (S59)) (a1:Int) (a2:Int):Option (List Int×Bool):=(some (([]:List Int):List Int)).bind fun aq=>((om.f k af ae a1).bind fun aR=>(if aR=true then((om.f k af ae a2).bind fun aE=>(lX.j0 k a1 a2 aq (!aE) af ae)) else(lX.j0 k a1 a2 aq true af ae)))
theorem lX.calls {k:Nat}{af:Int}{aT:Option Addr}{aU:Nat}{ae:List (S59)}{a1:Int}{a2:Int}{r1:List Int}{r2:Bool}{w:World}(b5:Kd.C k59 w aT ae.length ae)(b6:ae.length<=aU)(h:lX.f k af ae a1 a2=some (r1,r2)):
  Calls Try.prog 97 #[.agg #[.int .i64 af,.slice aT ae.length aU],.int .i64 a1,.int .i64 a2] w fun e w'=>∃cX:Value,e=.returned (.tuple #[cX,.bool r2])/\Kd.R (Kd.int .i64) 3 w' w.heap.size (fun _=>True) cX r1/\Below w.heap.size w w':=by
 have dJ:=Try.underlying31;have aw:=dm b5;have ax:=dm b6;clear b5 b6;have HB:=dm (Below.refl w.heap.size w);unfold lX.f at h;have H:=h;clear h;obtain⟨aq,a7⟩:∃y_:List Int,y_=(([]:List Int)):=⟨_,rfl⟩;replace H:((om.f k af ae a1).bind fun aR=>(if aR=true then((om.f k af ae a2).bind fun aE=>(lX.j0 k a1 a2 aq (!aE) af ae)) else(lX.j0 k a1 a2 aq true af ae)))=some (r1,r2):=lC a7 H
 have aV:=dm a7;clear a7;have cz:=dm H;clear H
 go_enter Try.func97,Try.ntmps97
 go_upto_region 2 with(first|((with_reducible refine ky 3 rfl ?_);refine kS #[.int .i64 af,.slice aT ae.length aU] 31 ?_;intro aG hg w5 jS hb;have aa:=dm (jS);have b7:=dm (kg:w.heap.size<=aG);have b8:=dm (kg:w.heap.size<=aG);replace HB:=jX HB hb;clear hb jS hg)|((with_reducible refine ky 13 rfl ?_);refine og (Kd.int .i64) rfl 3 ([]:List Int) [] (kF.none _ _) ?_;intro ba w6 aH hb hg_ kV;clear hg_ kV;(first|rw[←aV.out]at aH|(simp only [Int.reduceToNat]at aH;rw[←aV.out]at aH));have aj:=dm (kP aH (kC (jR HB.out)));replace aa:=jU aa hb;replace HB:=jX HB hb;clear hb aH))
 repeat(go_quiet (first|((with_reducible refine ky 3 rfl ?_);refine kS #[.int .i64 af,.slice aT ae.length aU] 31 ?_;intro aG hg w5 jS hb;have aa:=dm (jS);have b7:=dm (kg:w.heap.size<=aG);have b8:=dm (kg:w.heap.size<=aG);replace HB:=jX HB hb;clear hb jS hg)|((with_reducible refine ky 13 rfl ?_);refine og (Kd.int .i64) rfl 3 ([]:List Int) [] (kF.none _ _) ?_;intro ba w6 aH hb hg_ kV;clear hg_ kV;(first|rw[←aV.out]at aH|(simp only [Int.reduceToNat]at aH;rw[←aV.out]at aH));have aj:=dm (kP aH (kC (jR HB.out)));replace aa:=jU aa hb;replace HB:=jX HB hb;clear hb aH));go_upto_region 2 with(first|((with_reducible refine ky 3 rfl ?_);refine kS #[.int .i64 af,.slice aT ae.length aU] 31 ?_;intro aG hg w5 jS hb;have aa:=dm (jS);have b7:=dm (kg:w.heap.size<=aG);have b8:=dm (kg:w.heap.size<=aG);replace HB:=jX HB hb;clear hb jS hg)|((with_reducible refine ky 13 rfl ?_);refine og (Kd.int .i64) rfl 3 ([]:List Int) [] (kF.none _ _) ?_;intro ba w6 aH hb hg_ kV;clear hg_ kV;(first|rw[←aV.out]at aH|(simp only [Int.reduceToNat]at aH;rw[←aV.out]at aH));have aj:=dm (kP aH (kC (jR HB.out)));replace aa:=jU aa hb;replace HB:=jX HB hb;clear hb aH)))
 (try simp only [Act.put,List.setIfInBounds_toArray,List.set_cons_zero,List.set_cons_succ])
 go_cut [23] (fun dC wc=>∃ (kq:Nat) (bl:Bool),dC=.bool bl/\jP (lX.j0 kq a1 a2 aq bl af ae=some (r1,r2))/\jP (kq<=k)/\jP (Kd.R (Kd.int .i64) 3 wc w.heap.size (fun _=>True) ba aq)/\jP (wc.heap[aG]? =some (.cells #[.int .i64 af,(.slice aT ae.length aU)] 31 (0,0)))/\jP (Below w.heap.size w wc))
 case first=>
  have H:=cz.out;clear cz;obtain⟨aR,A8,H⟩:=kR H;(try dsimp only at H)
  rcases lV H with⟨h_,H_⟩|⟨h_,H_⟩<;> (subst h_;clear H;have H:=H_;clear H_)
  ·obtain⟨aE,cA,H⟩:=kR H;(try dsimp only at H);have H':=dm H;clear H;have⟨dk,dl,dn,dq⟩:=ko (w:=w6) aa
   go_wp2_with (first|(go_at_call 85;(with_reducible refine(om.calls ?lu ?lv A8.out).mono ?_);(case lu=>exact kv (kN aw.out HB.out));(case lv=>exact ax.out);rintro e bV ⟨rfl,hb⟩;replace aj:=kD aj hb;replace aa:=jU aa hb;replace HB:=jX HB hb;(try clear hb);have⟨bu,bv,bx,bz⟩:=ko (w:=bV) aa)|(go_at_call 85;(with_reducible refine(om.calls ?lu ?lv cA.out).mono ?_);(case lu=>exact kv (kN aw.out HB.out));(case lv=>exact ax.out);rintro e cY ⟨rfl,hb⟩;replace aj:=kD aj hb;replace aa:=jU aa hb;replace HB:=jX HB hb;(try clear hb)))
   repeat(go_quiet (first|(go_at_call 85;(with_reducible refine(om.calls ?lu ?lv A8.out).mono ?_);(case lu=>exact kv (kN aw.out HB.out));(case lv=>exact ax.out);rintro e bV ⟨rfl,hb⟩;replace aj:=kD aj hb;replace aa:=jU aa hb;replace HB:=jX HB hb;(try clear hb);have⟨bu,bv,bx,bz⟩:=ko (w:=bV) aa)|(go_at_call 85;(with_reducible refine(om.calls ?lu ?lv cA.out).mono ?_);(case lu=>exact kv (kN aw.out HB.out));(case lv=>exact ax.out);rintro e cY ⟨rfl,hb⟩;replace aj:=kD aj hb;replace aa:=jU aa hb;replace HB:=jX HB hb;(try clear hb)));try go_wp2_with (first|(go_at_call 85;(with_reducible refine(om.calls ?lu ?lv A8.out).mono ?_);(case lu=>exact kv (kN aw.out HB.out));(case lv=>exact ax.out);rintro e bV ⟨rfl,hb⟩;replace aj:=kD aj hb;replace aa:=jU aa hb;replace HB:=jX HB hb;(try clear hb);have⟨bu,bv,bx,bz⟩:=ko (w:=bV) aa)|(go_at_call 85;(with_reducible refine(om.calls ?lu ?lv cA.out).mono ?_);(case lu=>exact kv (kN aw.out HB.out));(case lv=>exact ax.out);rintro e cY ⟨rfl,hb⟩;replace aj:=kD aj hb;replace aa:=jU aa hb;replace HB:=jX HB hb;(try clear hb))))
   go_meet
   case rel=>exact⟨_,(!aE),(ku),H',⟨by first|omega|exact Nat.le_refl _⟩,⟨jV aj.out⟩,⟨jZ aa.out⟩,⟨jR HB.out⟩⟩
  have H':=dm H;clear H;have⟨dr,dt,du,dv⟩:=ko (w:=w6) aa
  go_wp2_with (first|(go_at_call 85;refine(om.calls (kv (kN aw.out HB.out)) ax.out A8.out).mono ?_;rintro e cZ ⟨rfl,hb⟩;replace aj:=kD aj hb;replace aa:=jU aa hb;replace HB:=jX HB hb;(try clear hb)))
  repeat(go_quiet (first|(go_at_call 85;(with_reducible refine(om.calls ?lu ?lv A8.out).mono ?_);(case lu=>exact kv (kN aw.out HB.out));(case lv=>exact ax.out);rintro e cZ ⟨rfl,hb⟩;replace aj:=kD aj hb;replace aa:=jU aa hb;replace HB:=jX HB hb;(try clear hb)));try go_wp2_with (first|(go_at_call 85;(with_reducible refine(om.calls ?lu ?lv A8.out).mono ?_);(case lu=>exact kv (kN aw.out HB.out));(case lv=>exact ax.out);rintro e cZ ⟨rfl,hb⟩;replace aj:=kD aj hb;replace aa:=jU aa hb;replace HB:=jX HB hb;(try clear hb))))
  go_meet
  case rel=>exact⟨_,(true),(ku),H',⟨by first|omega|exact Nat.le_refl _⟩,⟨jV aj.out⟩,⟨jZ aa.out⟩,⟨jR HB.out⟩⟩
 case rest=>
  clear cz;obtain⟨kq,bl,rfl,HA,bA,ac,aa,HB⟩:=hcut;cases kq with
  |zero=>exact absurd HA.out (by simp[lX.j0])
  |succ aQ=>
   have H:=HA.out;clear HA;simp only [lX.j0]at H
   rcases lV H with⟨h_,H_⟩|⟨h_,H_⟩<;> (subst h_;clear H;have H:=H_;clear H_)
   ·simp only [Option.some.injEq,Prod.mk.injEq]at H;obtain⟨rfl,rfl⟩:=H
    go_wp2
    repeat(go_quiet (fail);try go_wp2)
    go_ret2
    exact⟨_,mW,jV ac.out,jR HB.out⟩
   obtain⟨ab,bB,H⟩:=kR H;(try dsimp only at H)
   obtain⟨cP,H⟩:=kX H
   obtain⟨cQ,H⟩:=kX H
   replace H:=lH H;rcases H with⟨ca,H⟩|⟨ca,H⟩
   ·simp only [Option.some.injEq,Prod.mk.injEq]at H;obtain⟨rfl,rfl⟩:=H;have⟨dw,dx,dy,dz⟩:=ko (w:=wc) aa
    go_wp2_with (first|(go_at_call 116;refine(lN.calls (kv (kN aw.out HB.out)) ax.out bB.out).mono ?_;rintro e c_ ⟨bn,rfl,ap,hb⟩;have ak:=dm (kP (lF ap (kT (jV ac.out))) (kC (jR HB.out)));replace ac:=lK ac ap hb;replace aa:=jU aa hb;replace HB:=jX HB hb;(try clear hb ap);obtain⟨cD,cE,bo⟩:=kK ak.out;subst bo;have au:0<=(a1:Int):=jT;have av:a1<(ab.length:Int):=jT;obtain⟨al,aM,aI⟩:=kZ (kr ak.out).2.2 a1 au av;cases aM;replace au:=eq_true au;replace av:=eq_true av))
    repeat(go_quiet (first|(go_at_call 116;(with_reducible refine(lN.calls ?lu ?lv bB.out).mono ?_);(case lu=>exact kv (kN aw.out HB.out));(case lv=>exact ax.out);rintro e c_ ⟨bn,rfl,ap,hb⟩;have ak:=dm (kP (lF ap (kT (jV ac.out))) (kC (jR HB.out)));replace ac:=lK ac ap hb;replace aa:=jU aa hb;replace HB:=jX HB hb;(try clear hb ap);obtain⟨cD,cE,bo⟩:=kK ak.out;subst bo;have au:0<=(a1:Int):=jT;have av:a1<(ab.length:Int):=jT;obtain⟨al,aM,aI⟩:=kZ (kr ak.out).2.2 a1 au av;cases aM;replace au:=eq_true au;replace av:=eq_true av));try go_wp2_with (first|(go_at_call 116;(with_reducible refine(lN.calls ?lu ?lv bB.out).mono ?_);(case lu=>exact kv (kN aw.out HB.out));(case lv=>exact ax.out);rintro e c_ ⟨bn,rfl,ap,hb⟩;have ak:=dm (kP (lF ap (kT (jV ac.out))) (kC (jR HB.out)));replace ac:=lK ac ap hb;replace aa:=jU aa hb;replace HB:=jX HB hb;(try clear hb ap);obtain⟨cD,cE,bo⟩:=kK ak.out;subst bo;have au:0<=(a1:Int):=jT;have av:a1<(ab.length:Int):=jT;obtain⟨al,aM,aI⟩:=kZ (kr ak.out).2.2 a1 au av;cases aM;replace au:=eq_true au;replace av:=eq_true av)))
    go_ret2
    exact⟨_,mW,by(with_reducible repeat(first|apply kI|apply kJ|apply kw));exact kz ac.out (fun _ hk=>trivial),jR HB.out⟩
   skip
   obtain⟨cd,H⟩:=mH H;have bG:=dm cd;clear cd;obtain⟨cF,a8⟩:∃y_:List Int,y_=(aq++[a1]):=⟨_,rfl⟩;replace H:(lX.l0 aQ a2 cF ab a1 af ae)=some (r1,r2):=lC a8 H
   have bH:=dm a8;clear a8;have H':=dm H;clear H;have⟨cn,co,cp,cq⟩:=ko (w:=wc) aa
   go_wp2_with (first|(go_at_call 116;refine(lN.calls (kv (kN aw.out HB.out)) ax.out bB.out).mono ?_;rintro e db ⟨bn,rfl,ap,hb⟩;have ak:=dm (kP (lF ap (kT (jV ac.out))) (kC (jR HB.out)));replace ac:=lK ac ap hb;replace aa:=jU aa hb;replace HB:=jX HB hb;(try clear hb ap);obtain⟨cG,ay,bp⟩:=kK ak.out;subst bp;have au:0<=(a1:Int):=jT;have av:a1<(ab.length:Int):=jT;obtain⟨al,aM,aI⟩:=kZ (kr ak.out).2.2 a1 au av;cases aM;replace au:=eq_true au;replace av:=eq_true av)|((with_reducible refine oh (b:=.append) (xs:= #[.tmp 34,.tmp 36]) rfl ?_);at_builtin;refine pg (Kd.int .i64) (w0:=w) w.heap.size rfl (.tmp 34) (.tmp 36) 45 3 (.int .i64 0) 8 rfl Try.underlying45 info3 rfl (by decide) (by omega) ba aq a1 [.int .i64 a1] (fun k_=>some k_≠(.slice (some al) ab.length ay:Value).ownBlock) (fun _=>False) rfl rfl ?aP (fun _ hk=>hk.elim) ?aF ?aO ?aB ?aS ?aL ?_;(case aP=>exact rfl);(case aB=>exact(jR HB.out));(case aF=>exact(fun k_ hk=>Kd.fresh' (kT (jV ak.out)) k_ hk));(case aO=>exact(vD));(case aS=>exact(kC (jR HB.out)));(case aL=>have:=bG.out;omega);intro cH dc ho hb hg hat;rw[←bH.out]at ho;have n0:=lY aa hg (lS ac.out aa.out (by decide));have n1:=dm (nP (ok:=(fun _=>True)) (jV ak.out) hg hat);have n2:=dm (hb);have n3:=dm (ho);clear aa ak HB ac;revert n0 n1 n2 n3;intro aa ak HB bI;clear ho hb hg hat))
   repeat(go_quiet (first|(go_at_call 116;(with_reducible refine(lN.calls ?lu ?lv bB.out).mono ?_);(case lu=>exact kv (kN aw.out HB.out));(case lv=>exact ax.out);rintro e db ⟨bn,rfl,ap,hb⟩;have ak:=dm (kP (lF ap (kT (jV ac.out))) (kC (jR HB.out)));replace ac:=lK ac ap hb;replace aa:=jU aa hb;replace HB:=jX HB hb;(try clear hb ap);obtain⟨cG,ay,bp⟩:=kK ak.out;subst bp;have au:0<=(a1:Int):=jT;have av:a1<(ab.length:Int):=jT;obtain⟨al,aM,aI⟩:=kZ (kr ak.out).2.2 a1 au av;cases aM;replace au:=eq_true au;replace av:=eq_true av)|((with_reducible refine oh (b:=.append) (xs:= #[.tmp 34,.tmp 36]) rfl ?_);at_builtin;refine pg (Kd.int .i64) (w0:=w) w.heap.size rfl (.tmp 34) (.tmp 36) 45 3 (.int .i64 0) 8 rfl Try.underlying45 info3 rfl (by decide) (by omega) ba aq a1 [.int .i64 a1] (fun k_=>some k_≠(.slice (some al) ab.length ay:Value).ownBlock) (fun _=>False) rfl rfl ?aP (fun _ hk=>hk.elim) ?aF ?aO ?aB ?aS ?aL ?_;(case aP=>exact rfl);(case aB=>exact(jR HB.out));(case aF=>exact(fun k_ hk=>Kd.fresh' (kT (jV ak.out)) k_ hk));(case aO=>exact(vD));(case aS=>exact(kC (jR HB.out)));(case aL=>have:=bG.out;omega);intro cH dc ho hb hg hat;rw[←bH.out]at ho;have n0:=lY aa hg (lS ac.out aa.out (by decide));have n1:=dm (nP (ok:=(fun _=>True)) (jV ak.out) hg hat);have n2:=dm (hb);have n3:=dm (ho);clear aa ak HB ac;revert n0 n1 n2 n3;intro aa ak HB bI;clear ho hb hg hat));try go_wp2_with (first|(go_at_call 116;(with_reducible refine(lN.calls ?lu ?lv bB.out).mono ?_);(case lu=>exact kv (kN aw.out HB.out));(case lv=>exact ax.out);rintro e db ⟨bn,rfl,ap,hb⟩;have ak:=dm (kP (lF ap (kT (jV ac.out))) (kC (jR HB.out)));replace ac:=lK ac ap hb;replace aa:=jU aa hb;replace HB:=jX HB hb;(try clear hb ap);obtain⟨cG,ay,bp⟩:=kK ak.out;subst bp;have au:0<=(a1:Int):=jT;have av:a1<(ab.length:Int):=jT;obtain⟨al,aM,aI⟩:=kZ (kr ak.out).2.2 a1 au av;cases aM;replace au:=eq_true au;replace av:=eq_true av)|((with_reducible refine oh (b:=.append) (xs:= #[.tmp 34,.tmp 36]) rfl ?_);at_builtin;refine pg (Kd.int .i64) (w0:=w) w.heap.size rfl (.tmp 34) (.tmp 36) 45 3 (.int .i64 0) 8 rfl Try.underlying45 info3 rfl (by decide) (by omega) ba aq a1 [.int .i64 a1] (fun k_=>some k_≠(.slice (some al) ab.length ay:Value).ownBlock) (fun _=>False) rfl rfl ?aP (fun _ hk=>hk.elim) ?aF ?aO ?aB ?aS ?aL ?_;(case aP=>exact rfl);(case aB=>exact(jR HB.out));(case aF=>exact(fun k_ hk=>Kd.fresh' (kT (jV ak.out)) k_ hk));(case aO=>exact(vD));(case aS=>exact(kC (jR HB.out)));(case aL=>have:=bG.out;omega);intro cH dc ho hb hg hat;rw[←bH.out]at ho;have n0:=lY aa hg (lS ac.out aa.out (by decide));have n1:=dm (nP (ok:=(fun _=>True)) (jV ak.out) hg hat);have n2:=dm (hb);have n3:=dm (ho);clear aa ak HB ac;revert n0 n1 n2 n3;intro aa ak HB bI;clear ho hb hg hat)))
   go_loopg [8,10] aQ (fun kq v8 cI w'=>∃ (aD:List Int) (aC:Int),cI=.int .i64 aC/\jP (lX.l0 kq a2 aD ab aC af ae=some (r1,r2))/\jP (kq<=aQ)/\jP (Kd.R (Kd.int .i64) 3 w' w.heap.size (fun k_=>some k_≠((.slice (some al) ab.length ay):Value).ownBlock) v8 aD)/\jP (Kd.R (Kd.int .i64) 3 w' w.heap.size (fun k_=>some k_≠(v8:Value).ownBlock) (.slice (some al) ab.length ay) ab)/\jP (w'.heap[aG]? =some (.cells #[.int .i64 af,(.slice aT ae.length aU)] 31 (0,0)))/\jP (Below w.heap.size w w'))
   case atStart=>exact⟨(cF),(a1),(ku),H',⟨Nat.le_refl _⟩,⟨jV bI.out⟩,⟨by(with_reducible repeat(first|apply kI|apply kJ|apply kw));exact kz ak.out (fun _ hk=>hk.2)⟩,⟨jZ aa.out⟩,⟨jR HB.out⟩⟩
   case round=>
    clear H';(try clear bW cP cQ ca cn co cp cq aI au av);obtain⟨aD,aC,rfl,HA,bD,ac,ai,aa,HB⟩:=hrel;cases gk with
    |zero=>exact absurd HA.out (by simp[lX.l0])
    |succ k2=>
     have H:=HA.out;clear HA;simp only [lX.l0]at H
     by_cases bk:aC=a2
     ·rw[if_pos bk]at H;have ce:=beq_iff_eq.mpr bk;have cf:=bne_eq_false_iff_eq.mpr bk;clear bk;simp only [Option.some.injEq,Prod.mk.injEq]at H;obtain⟨rfl,rfl⟩:=H
      go_wp2
      repeat(go_quiet (fail);try go_wp2)
      go_ret2
      exact⟨_,mW,by(with_reducible repeat(first|apply kI|apply kJ|apply kw));exact kz ac.out (fun _ hk=>trivial),jR HB.out⟩
     rw[if_neg bk]at H;have ce:=beq_eq_false_iff_ne.mpr bk;have cf:=bne_iff_ne.mpr bk;obtain⟨ah,cJ,H⟩:=kR H;(try dsimp only at H);have H':=dm H;clear H;have⟨cr,ct,cu,cv⟩:=ko (w:=wr) aa
     go_wp2_with (first|(go_at_call 94;refine(nI.calls (kv (kN aw.out HB.out)) ax.out cJ.out).mono ?_;rintro e dd ⟨bq,rfl,ap,hb⟩;have bJ:=dm (kP (lF (lF ap (kT (jV ac.out))) (kT (jV ai.out))) (kC (jR HB.out)));replace ac:=lK ac ap hb;replace ai:=lK ai ap hb;replace aa:=jU aa hb;replace HB:=jX HB hb;(try clear hb ap)))
     repeat(go_quiet (first|(go_at_call 94;(with_reducible refine(nI.calls ?lu ?lv cJ.out).mono ?_);(case lu=>exact kv (kN aw.out HB.out));(case lv=>exact ax.out);rintro e dd ⟨bq,rfl,ap,hb⟩;have bJ:=dm (kP (lF (lF ap (kT (jV ac.out))) (kT (jV ai.out))) (kC (jR HB.out)));replace ac:=lK ac ap hb;replace ai:=lK ai ap hb;replace aa:=jU aa hb;replace HB:=jX HB hb;(try clear hb ap)));try go_wp2_with (first|(go_at_call 94;(with_reducible refine(nI.calls ?lu ?lv cJ.out).mono ?_);(case lu=>exact kv (kN aw.out HB.out));(case lv=>exact ax.out);rintro e dd ⟨bq,rfl,ap,hb⟩;have bJ:=dm (kP (lF (lF ap (kT (jV ac.out))) (kT (jV ai.out))) (kC (jR HB.out)));replace ac:=lK ac ap hb;replace ai:=lK ai ap hb;replace aa:=jU aa hb;replace HB:=jX HB hb;(try clear hb ap))))
     go_loopg [10,12] k2 (fun kq cI dD w'=>∃ (am:Int) (ag:Int),cI=.int .i64 am/\dD=.int .i64 ag/\jP (lX.l1 kq a2 aD ab am ah ag af ae=some (r1,r2))/\jP (kq<=k2)/\jP (Kd.R (Kd.int .i64) 3 w' w.heap.size (fun k_=>some k_≠((.slice (some al) ab.length ay):Value).ownBlock/\some k_≠(bq:Value).ownBlock) u8 aD)/\jP (Kd.R (Kd.int .i64) 3 w' w.heap.size (fun k_=>some k_≠(u8:Value).ownBlock/\some k_≠(bq:Value).ownBlock) (.slice (some al) ab.length ay) ab)/\jP (Kd.R (Kd.int .i64) 3 w' w.heap.size (fun k_=>some k_≠(u8:Value).ownBlock/\some k_≠((.slice (some al) ab.length ay):Value).ownBlock) bq ah)/\jP (w'.heap[aG]? =some (.cells #[.int .i64 af,(.slice aT ae.length aU)] 31 (0,0)))/\jP (Below w.heap.size w w'))
     case atStart=>exact⟨(aC),(0),(ku),(ku),H',⟨Nat.le_refl _⟩,⟨jV ac.out⟩,⟨jV ai.out⟩,⟨by(with_reducible repeat(first|apply kI|apply kJ|apply kw));exact kz bJ.out (fun _ hk=>⟨hk.1.2,hk.2⟩)⟩,⟨jZ aa.out⟩,⟨jR HB.out⟩⟩
     case round=>
      clear H';(try clear bk ce cf cr ct cu cv);obtain⟨am,ag,rfl,rfl,HA,bE,ac,ai,ao,aa,HB⟩:=hrel;cases gk with
      |zero=>exact absurd HA.out (by simp[lX.l1])
      |succ k3=>
       have H:=HA.out;clear HA;simp only [lX.l1]at H
       replace H:=lH H;rcases H with⟨cS,H⟩|⟨cS,H⟩
       ·skip
        obtain⟨dE,H⟩:=kX H
        obtain⟨dF,H⟩:=kX H
        obtain⟨dG,H⟩:=kX H
        obtain⟨dH,H⟩:=kX H
        obtain⟨dI,H⟩:=kX H
        by_cases br:(rd ab (rd ah ag))=(wrap64 ((rd ab am) - 1))
        ·rw[if_pos br]at H;have cT:=beq_iff_eq.mpr br;have cU:=bne_eq_false_iff_eq.mpr br;clear br
         obtain⟨cl,H⟩:=mH H;have bK:=dm cl;clear cl;obtain⟨cL,a9⟩:∃y_:List Int,y_=(aD++[rd ah ag]):=⟨_,rfl⟩;replace H:(lX.l0 k3 a2 cL ab (rd ah ag) af ae)=some (r1,r2):=lC a9 H
         have bL:=dm a9;clear a9;have H':=dm H;clear H;obtain⟨dK,bd,dg⟩:=kK ao.out;subst dg;have aX:0<=(ag:Int):=jT;have aY:ag<(ah.length:Int):=jT;obtain⟨aN,bX,cw⟩:=kZ (kr ao.out).2.2 ag aX aY;cases bX;replace aX:=eq_true aX;replace aY:=eq_true aY;have aZ:0<=((rd ah ag):Int):=jT;have a4:(rd ah ag)<(ab.length:Int):=jT;obtain⟨bM,bY,cx⟩:=kZ (kr ai.out).2.2 (rd ah ag) aZ a4;obtain rfl:al=bM:=(by injection bY);replace aZ:=eq_true aZ;replace a4:=eq_true a4;have a5:0<=(am:Int):=jT;have a6:am<(ab.length:Int):=jT;obtain⟨bN,bZ,cy⟩:=kZ (kr ai.out).2.2 am a5 a6;obtain rfl:al=bN:=(by injection bZ);replace a5:=eq_true a5;replace a6:=eq_true a6;have b3:0<=(ag:Int):=jT;have b4:ag<(ah.length:Int):=jT;obtain⟨cW,dh,dA⟩:=kZ (kr ao.out).2.2 ag b3 b4;obtain rfl:aN=cW:=(by injection dh);replace b3:=eq_true b3;replace b4:=eq_true b4
         go_wp2_with (first|((with_reducible refine oh (b:=.append) (xs:= #[.tmp 68,.tmp 70]) rfl ?_);at_builtin;refine pg (Kd.int .i64) (w0:=w) w.heap.size rfl (.tmp 68) (.tmp 70) 45 3 (.int .i64 0) 8 rfl Try.underlying45 info3 rfl (by decide) (by omega) u8 aD (rd ah ag) [.int .i64 (rd ah ag)] (fun k_=>some k_≠(.slice (some al) ab.length ay:Value).ownBlock/\some k_≠(.slice (some aN) ah.length bd:Value).ownBlock) (fun _=>False) rfl rfl ?aP (fun _ hk=>hk.elim) ?aF ?aO ?aB ?aS ?aL ?_;(case aP=>exact rfl);(case aB=>exact(jR HB.out));(case aF=>exact(fun k_ hk=>⟨Kd.fresh' (kT (jV ai.out)) k_ hk,Kd.fresh' (kT (jV ao.out)) k_ hk⟩));(case aO=>exact(jV ac.out));(case aS=>exact(kC (jR HB.out)));(case aL=>have:=bK.out;omega);intro cM de ho hb hg hat;rw[←bL.out]at ho;have n0:=dm (nP (ok:=(fun k_=>some k_≠(.slice (some aN) ah.length bd:Value).ownBlock)) (uJ) hg hat);have n1:=dm (nP (ok:=(fun k_=>some k_≠(.slice (some al) ab.length ay:Value).ownBlock)) (uI) hg hat);have n2:=lY aa hg (lS ac.out aa.out (by decide));have n3:=dm (hb);have n4:=dm (ho);clear ai ao aa HB ac;revert n0 n1 n2 n3 n4;intro ai ao aa HB bO;clear ho hb hg hat))
         repeat(go_quiet (first|((with_reducible refine oh (b:=.append) (xs:= #[.tmp 68,.tmp 70]) rfl ?_);at_builtin;refine pg (Kd.int .i64) (w0:=w) w.heap.size rfl (.tmp 68) (.tmp 70) 45 3 (.int .i64 0) 8 rfl Try.underlying45 info3 rfl (by decide) (by omega) u8 aD (rd ah ag) [.int .i64 (rd ah ag)] (fun k_=>some k_≠(.slice (some al) ab.length ay:Value).ownBlock/\some k_≠(.slice (some aN) ah.length bd:Value).ownBlock) (fun _=>False) rfl rfl ?aP (fun _ hk=>hk.elim) ?aF ?aO ?aB ?aS ?aL ?_;(case aP=>exact rfl);(case aB=>exact(jR HB.out));(case aF=>exact(fun k_ hk=>⟨Kd.fresh' (kT (jV ai.out)) k_ hk,Kd.fresh' (kT (jV ao.out)) k_ hk⟩));(case aO=>exact(jV ac.out));(case aS=>exact(kC (jR HB.out)));(case aL=>have:=bK.out;omega);intro cM de ho hb hg hat;rw[←bL.out]at ho;have n0:=dm (nP (ok:=(fun k_=>some k_≠(.slice (some aN) ah.length bd:Value).ownBlock)) (uJ) hg hat);have n1:=dm (nP (ok:=(fun k_=>some k_≠(.slice (some al) ab.length ay:Value).ownBlock)) (uI) hg hat);have n2:=lY aa hg (lS ac.out aa.out (by decide));have n3:=dm (hb);have n4:=dm (ho);clear ai ao aa HB ac;revert n0 n1 n2 n3 n4;intro ai ao aa HB bO;clear ho hb hg hat));try go_wp2_with (first|((with_reducible refine oh (b:=.append) (xs:= #[.tmp 68,.tmp 70]) rfl ?_);at_builtin;refine pg (Kd.int .i64) (w0:=w) w.heap.size rfl (.tmp 68) (.tmp 70) 45 3 (.int .i64 0) 8 rfl Try.underlying45 info3 rfl (by decide) (by omega) u8 aD (rd ah ag) [.int .i64 (rd ah ag)] (fun k_=>some k_≠(.slice (some al) ab.length ay:Value).ownBlock/\some k_≠(.slice (some aN) ah.length bd:Value).ownBlock) (fun _=>False) rfl rfl ?aP (fun _ hk=>hk.elim) ?aF ?aO ?aB ?aS ?aL ?_;(case aP=>exact rfl);(case aB=>exact(jR HB.out));(case aF=>exact(fun k_ hk=>⟨Kd.fresh' (kT (jV ai.out)) k_ hk,Kd.fresh' (kT (jV ao.out)) k_ hk⟩));(case aO=>exact(jV ac.out));(case aS=>exact(kC (jR HB.out)));(case aL=>have:=bK.out;omega);intro cM de ho hb hg hat;rw[←bL.out]at ho;have n0:=dm (nP (ok:=(fun k_=>some k_≠(.slice (some aN) ah.length bd:Value).ownBlock)) (uJ) hg hat);have n1:=dm (nP (ok:=(fun k_=>some k_≠(.slice (some al) ab.length ay:Value).ownBlock)) (uI) hg hat);have n2:=lY aa hg (lS ac.out aa.out (by decide));have n3:=dm (hb);have n4:=dm (ho);clear ai ao aa HB ac;revert n0 n1 n2 n3 n4;intro ai ao aa HB bO;clear ho hb hg hat)))
         go_roundg k3
         case measure=>have:=bA.out;have:=bD.out;have:=bE.out;omega
         case rel=>exact⟨(cL),(rd ah ag),(ku),H',⟨by have:=bA.out;have:=bD.out;have:=bE.out;omega⟩,⟨by(with_reducible repeat(first|apply kI|apply kJ|apply kw));exact kz bO.out (fun _ hk=>hk.1)⟩,⟨wX⟩,⟨jZ aa.out⟩,⟨jR HB.out⟩⟩
        rw[if_neg br]at H;have cT:=beq_eq_false_iff_ne.mpr br;have cU:=bne_iff_ne.mpr br;have H':=dm H;clear H;obtain⟨dL,dM,di⟩:=kK ao.out;subst di;have aX:0<=(ag:Int):=jT;have aY:ag<(ah.length:Int):=jT;obtain⟨aN,bX,cw⟩:=kZ (kr ao.out).2.2 ag aX aY;cases bX;replace aX:=eq_true aX;replace aY:=eq_true aY;have aZ:0<=((rd ah ag):Int):=jT;have a4:(rd ah ag)<(ab.length:Int):=jT;obtain⟨bM,bY,cx⟩:=kZ (kr ai.out).2.2 (rd ah ag) aZ a4;obtain rfl:al=bM:=(by injection bY);replace aZ:=eq_true aZ;replace a4:=eq_true a4;have a5:0<=(am:Int):=jT;have a6:am<(ab.length:Int):=jT;obtain⟨bN,bZ,cy⟩:=kZ (kr ai.out).2.2 am a5 a6;obtain rfl:al=bN:=(by injection bZ);replace a5:=eq_true a5;replace a6:=eq_true a6
        go_wp2
        repeat(go_quiet (fail);try go_wp2)
        go_roundg k3
        case measure=>have:=bA.out;have:=bD.out;have:=bE.out;omega
        case rel=>exact⟨(am),(wrap64 (ag+1)),(ku),(ku),H',⟨by have:=bA.out;have:=bD.out;have:=bE.out;omega⟩,⟨jV ac.out⟩,⟨jV ai.out⟩,⟨jV ao.out⟩,⟨jZ aa.out⟩,⟨jR HB.out⟩⟩
       skip
       obtain⟨cm,H⟩:=mH H;have bP:=dm cm;clear cm;obtain⟨cN,a_⟩:∃y_:List Int,y_=(aD++[am]):=⟨_,rfl⟩;replace H:(lX.l0 k3 a2 cN ab am af ae)=some (r1,r2):=lC a_ H
       have bQ:=dm a_;clear a_;have H':=dm H;clear H;obtain⟨bf,bh,dj⟩:=kK ao.out;subst dj
       go_wp2_with (first|((with_reducible refine oh (b:=.append) (xs:= #[.tmp 68,.tmp 70]) rfl ?_);at_builtin;refine pg (Kd.int .i64) (w0:=w) w.heap.size rfl (.tmp 68) (.tmp 70) 45 3 (.int .i64 0) 8 rfl Try.underlying45 info3 rfl (by decide) (by omega) u8 aD am [.int .i64 am] (fun k_=>some k_≠(.slice (some al) ab.length ay:Value).ownBlock/\some k_≠(.slice bf ah.length bh:Value).ownBlock) (fun _=>False) rfl rfl ?aP (fun _ hk=>hk.elim) ?aF ?aO ?aB ?aS ?aL ?_;(case aP=>exact rfl);(case aB=>exact(jR HB.out));(case aF=>exact(fun k_ hk=>⟨Kd.fresh' (kT (jV ai.out)) k_ hk,Kd.fresh' (kT (jV ao.out)) k_ hk⟩));(case aO=>exact(jV ac.out));(case aS=>exact(kC (jR HB.out)));(case aL=>have:=bP.out;omega);intro cO df ho hb hg hat;rw[←bQ.out]at ho;have n0:=dm (nP (ok:=(fun k_=>some k_≠(.slice bf ah.length bh:Value).ownBlock)) (uJ) hg hat);have n1:=dm (nP (ok:=(fun k_=>some k_≠(.slice (some al) ab.length ay:Value).ownBlock)) (uI) hg hat);have n2:=lY aa hg (lS ac.out aa.out (by decide));have n3:=dm (hb);have n4:=dm (ho);clear ai ao aa HB ac;revert n0 n1 n2 n3 n4;intro ai ao aa HB bR;clear ho hb hg hat))
       repeat(go_quiet (first|((with_reducible refine oh (b:=.append) (xs:= #[.tmp 68,.tmp 70]) rfl ?_);at_builtin;refine pg (Kd.int .i64) (w0:=w) w.heap.size rfl (.tmp 68) (.tmp 70) 45 3 (.int .i64 0) 8 rfl Try.underlying45 info3 rfl (by decide) (by omega) u8 aD am [.int .i64 am] (fun k_=>some k_≠(.slice (some al) ab.length ay:Value).ownBlock/\some k_≠(.slice bf ah.length bh:Value).ownBlock) (fun _=>False) rfl rfl ?aP (fun _ hk=>hk.elim) ?aF ?aO ?aB ?aS ?aL ?_;(case aP=>exact rfl);(case aB=>exact(jR HB.out));(case aF=>exact(fun k_ hk=>⟨Kd.fresh' (kT (jV ai.out)) k_ hk,Kd.fresh' (kT (jV ao.out)) k_ hk⟩));(case aO=>exact(jV ac.out));(case aS=>exact(kC (jR HB.out)));(case aL=>have:=bP.out;omega);intro cO df ho hb hg hat;rw[←bQ.out]at ho;have n0:=dm (nP (ok:=(fun k_=>some k_≠(.slice bf ah.length bh:Value).ownBlock)) (uJ) hg hat);have n1:=dm (nP (ok:=(fun k_=>some k_≠(.slice (some al) ab.length ay:Value).ownBlock)) (uI) hg hat);have n2:=lY aa hg (lS ac.out aa.out (by decide));have n3:=dm (hb);have n4:=dm (ho);clear ai ao aa HB ac;revert n0 n1 n2 n3 n4;intro ai ao aa HB bR;clear ho hb hg hat));try go_wp2_with (first|((with_reducible refine oh (b:=.append) (xs:= #[.tmp 68,.tmp 70]) rfl ?_);at_builtin;refine pg (Kd.int .i64) (w0:=w) w.heap.size rfl (.tmp 68) (.tmp 70) 45 3 (.int .i64 0) 8 rfl Try.underlying45 info3 rfl (by decide) (by omega) u8 aD am [.int .i64 am] (fun k_=>some k_≠(.slice (some al) ab.length ay:Value).ownBlock/\some k_≠(.slice bf ah.length bh:Value).ownBlock) (fun _=>False) rfl rfl ?aP (fun _ hk=>hk.elim) ?aF ?aO ?aB ?aS ?aL ?_;(case aP=>exact rfl);(case aB=>exact(jR HB.out));(case aF=>exact(fun k_ hk=>⟨Kd.fresh' (kT (jV ai.out)) k_ hk,Kd.fresh' (kT (jV ao.out)) k_ hk⟩));(case aO=>exact(jV ac.out));(case aS=>exact(kC (jR HB.out)));(case aL=>have:=bP.out;omega);intro cO df ho hb hg hat;rw[←bQ.out]at ho;have n0:=dm (nP (ok:=(fun k_=>some k_≠(.slice bf ah.length bh:Value).ownBlock)) (uJ) hg hat);have n1:=dm (nP (ok:=(fun k_=>some k_≠(.slice (some al) ab.length ay:Value).ownBlock)) (uI) hg hat);have n2:=lY aa hg (lS ac.out aa.out (by decide));have n3:=dm (hb);have n4:=dm (ho);clear ai ao aa HB ac;revert n0 n1 n2 n3 n4;intro ai ao aa HB bR;clear ho hb hg hat)))
       go_roundg k3
       case measure=>have:=bA.out;have:=bD.out;have:=bE.out;omega
       case rel=>exact⟨(cN),(am),(ku),H',⟨by have:=bA.out;have:=bD.out;have:=bE.out;omega⟩,⟨by(with_reducible repeat(first|apply kI|apply kJ|apply kw));exact kz bR.out (fun _ hk=>hk.1)⟩,⟨wX⟩,⟨jZ aa.out⟩,⟨jR HB.out⟩⟩
theorem Bd(h:p:=by exact lI aa.out):p:=h
theorem Be(h:p:=by(with_reducible repeat(first|apply kI|apply kJ|apply kw));exact kz (lh (p:=⟨aw,1,none⟩) (lh (p:=⟨aw,0,none⟩) (mr ab.out al.out (by decide)) (fun _ hk=>hk.2) (.int .i64 av)) (fun _ hk=>hk.2) (.slice aV ap.length aW)) (fun _ hk=>trivial)):p:=h
theorem Bf(h:p:=by(with_reducible repeat(first|apply kI|apply kJ|apply kw));exact(kz (lh (p:=⟨aC,1,none⟩) (lh (p:=⟨aC,0,none⟩) (mr au.out af.out (by decide)) (fun _ hk=>hk.2) (.int .i64 av)) (fun _ hk=>hk.2) (.slice aV ap.length aW)) (fun _ h_=>h_.1))):p:=h
theorem Bg(h:p:=by rw[hg];exact Nat.ne_of_lt (lq (g:=ax) (o:=.cells #[.int .i64 ai,.slice aT aj.length aU] 31 (0,0)) (jZ aa.out))):p:=h
theorem Bo(h:p:=by rw[hg];exact Nat.ne_of_gt (lq (g:=ax) (o:=.cells #[.int .i64 ai,.slice aT aj.length aU] 31 (0,0)) (jZ aa.out))):p:=h
theorem BQ(h:p:=by(with_reducible repeat(first|apply kI|apply kJ|apply kw));exact kz ba.out (fun _ hk=>trivial)):p:=h
theorem BS(h:p:=by(with_reducible repeat(first|apply kI|apply kJ|apply kw));exact kz ag.out (fun _ hk=>trivial)):p:=h
theorem uH(h:p:=by have:=bm.out;have:=bL.out;omega):p:=h
mutual
def lM.l0:Nat->List Int->Int->Int->List Int->Int->Int->List (S59)->Int->List (S59)->Option (List Int×Bool)
 |0,_,_,_,_,_,_,_,_,_=>none
 |k+1,x1,x2,x9,a6,a4,aD,aQ,aE,aG=>if a4<aD then((ni.f k x1 a4).bind fun bV=>(if bV=true then(lM.l1 k x1 x2 x9 a6 a4 0 aD aQ aE aG aE aG) else(lM.l0 k x1 x2 x9 a6 (wrap64 (a4+1)) aD aQ aE aG))) else(if(a6.length:Int)=0 then(some ((([]:List Int)),false)) else((some (([x2]:List Int):List Int)).bind fun a7=>(if a7.length+a6.length<17592186044416 then(some ((a7++a6),true)) else(none))))
def lM.l1:Nat->List Int->Int->Int->List Int->Int->Int->Int->List (S59)->Int->List (S59)->Int->List (S59)->Option (List Int×Bool)
 |0,_,_,_,_,_,_,_,_,_,_,_,_=>none
 |k+1,x1,x2,x9,a6,a4,bR,aD,aQ,aE,aG,bx,bz=>if bR<(x1.length:Int) then(if 0<=bR then(if(rd x1 bR)=a4 then(lM.l1 k x1 x2 x9 a6 a4 (wrap64 (bR+1)) aD aQ aE aG bx bz) else((mR.f k bx bz (rd x1 bR)).bind fun ce=>(lM.l1 k x1 x2 x9 a6 a4 (wrap64 (bR+1)) aD aQ aE aG ce.1 ce.2))) else(none)) else((lX.f k bx bz x9 a4).bind fun bI=>(if bI.2=true then(if(a6.length:Int)=0 then(lM.l0 k x1 x2 x9 bI.1 (wrap64 (a4+1)) aD aQ aE aG) else(if(bI.1.length:Int)<(a6.length:Int) then(lM.l0 k x1 x2 x9 bI.1 (wrap64 (a4+1)) aD aQ aE aG) else(lM.l0 k x1 x2 x9 a6 (wrap64 (a4+1)) aD aQ aE aG))) else(lM.l0 k x1 x2 x9 a6 (wrap64 (a4+1)) aD aQ aE aG)))
end
def lM.f (k:Nat) (ai:Int) (aj:List (S59)) (l1:List Int) (a2:Int):Option (List Int×Bool):=(nI.f k ai aj a2).bind fun ae=>(if(ae.length:Int)=0 then(some ((([]:List Int)),false)) else(if 0<(ae.length:Int) then((ni.f k l1 (rd ae 0)).bind fun a8=>(if a8=true then(some ((([a2,rd ae 0]:List Int)),true)) else((mf.f k ai aj a2 (rd ae 0)).bind fun aH=>(lM.l0 k l1 a2 (rd ae 0) (([]:List Int)) 0 ai aj aH.1 aH.2.1)))) else(none)))
theorem lM.calls {k:Nat}{ai:Int}{aT:Option Addr}{aU:Nat}{aj:List (S59)}{A1:Option Addr}{c1:Nat}{l1:List Int}{a2:Int}{r1:List Int}{r2:Bool}{w:World}(cf:Kd.C k59 w aT aj.length aj)(cg:aj.length<=aU)(hr1:Kd.C (Kd.int .i64) w A1 l1.length l1)(dL:l1.length<=c1)(h:lM.f k ai aj l1 a2=some (r1,r2)):
  Calls Try.prog 61 #[.agg #[.int .i64 ai,.slice aT aj.length aU],.slice A1 l1.length c1,.int .i64 a2] w fun e w'=>∃dM:Value,e=.returned (.tuple #[dM,.bool r2])/\Kd.R (Kd.int .i64) 3 w' w.heap.size (fun _=>True) dM r1/\Below w.heap.size w w':=by
 have f9:=Try.underlying31;have bJ:=dm cf;have bK:=dm cg;clear cf cg;have bM:=dm hr1;have ch:=dm dL;clear hr1 dL;have HB:=dm (Below.refl w.heap.size w);unfold lM.f at h;have H:=h;clear h;obtain⟨ae,A4,H⟩:=kR H;(try dsimp only at H)
 by_cases c5:(ae.length:Int)=0
 ·rw[if_pos c5]at H;have db:=beq_iff_eq.mpr c5;have dc:=bne_eq_false_iff_eq.mpr c5;clear c5;obtain⟨dQ,bn⟩:∃y_:List Int,y_=(([]:List Int)):=⟨_,rfl⟩;replace H:(some (dQ,false))=some (r1,r2):=lC bn H
  have ci:=dm bn;clear bn;simp only [Option.some.injEq,Prod.mk.injEq]at H;obtain⟨rfl,rfl⟩:=H
  go_enter Try.func61,Try.ntmps61
  go_wp2_with (first|((with_reducible refine ky 3 rfl ?_);(try(refine mZ (by rfl) ?_;dsimp only));refine qc 3 #[.int .i64 ai,.slice aT aj.length aU] 31 ?_;intro ax hg w6 jS hb;have aa:=dm (jS);have cj:=dm (kg:w.heap.size<=ax);have ck:=dm (kg:w.heap.size<=ax);replace HB:=jX HB hb;clear hb jS hg;have⟨fa,fb,fc,fd⟩:=ko (w:=w6) aa)|((with_reducible refine kQ 94 rfl ?_);refine lL 20 rfl Try.func94 (nI.calls (kv (kN bJ.out HB.out)) bK.out A4.out) ?_;rintro e w8 ⟨dd,rfl,ay,hb⟩;refine⟨_,rfl,?_⟩;have au:=dm (kP ay (kC (jR HB.out)));replace aa:=jU aa hb;replace HB:=jX HB hb;(try clear hb ay);obtain⟨gB,gC,fe⟩:=kK au.out;subst fe)|((with_reducible refine ky 24 rfl ?_);(try(refine mZ (by rfl) ?_;dsimp only));refine og (Kd.int .i64) rfl 3 ([]:List Int) [] (kF.none _ _) ?_;intro f_ gD bA hb hg_ kV;clear hg_ kV;(first|rw[←ci.out]at bA|(simp only [Int.reduceToNat]at bA;rw[←ci.out]at bA));have dl:=dm (kP (lF bA (kT (jV au.out))) (kC (jR HB.out)));replace au:=lK au bA hb;replace aa:=jU aa hb;replace HB:=jX HB hb;clear hb bA))
  go_ret2
  exact⟨_,mW,by(with_reducible repeat(first|apply kI|apply kJ|apply kw));exact kz dl.out (fun _ hk=>trivial),jR HB.out⟩
 rw[if_neg c5]at H;have db:=beq_eq_false_iff_ne.mpr c5;have dc:=bne_iff_ne.mpr c5;have dR:¬ (ae=[]):=fun h_=>c5 (by rw[h_];rfl)
 obtain⟨cl,H⟩:=mH H;have dn:=decide_eq_true cl;have dq:decide (0<ae.length)=true:=decide_eq_true (by omega);clear cl;obtain⟨a8,dN,H⟩:=kR H;(try dsimp only at H)
 rcases lV H with⟨h_,H_⟩|⟨h_,H_⟩<;> (subst h_;clear H;have H:=H_;clear H_)
 ·obtain⟨dS,bo⟩:∃y_:List Int,y_=(([a2,rd ae 0]:List Int)):=⟨_,rfl⟩;replace H:(some (dS,true))=some (r1,r2):=lC bo H
  have cm:=dm bo;clear bo;simp only [Option.some.injEq,Prod.mk.injEq]at H;obtain⟨rfl,rfl⟩:=H
  go_enter Try.func61,Try.ntmps61
  go_wp2_with (first|((with_reducible refine ky 3 rfl ?_);(try(refine mZ (by rfl) ?_;dsimp only));refine qc 3 #[.int .i64 ai,.slice aT aj.length aU] 31 ?_;intro ax hg ff jS hb;have aa:=dm (jS);have cj:=dm (kg:w.heap.size<=ax);have ck:=dm (kg:w.heap.size<=ax);replace HB:=jX HB hb;clear hb jS hg;have⟨eu,ev,ew,ex⟩:=ko (w:=ff) aa)|((with_reducible refine kQ 94 rfl ?_);refine lL 20 rfl Try.func94 (nI.calls (kv (kN bJ.out HB.out)) bK.out A4.out) ?_;rintro e gE ⟨dd,rfl,ay,hb⟩;refine⟨_,rfl,?_⟩;have au:=dm (kP ay (kC (jR HB.out)));replace aa:=jU aa hb;replace HB:=jX HB hb;(try clear hb ay);obtain⟨ga,gb,dT⟩:=kK au.out;subst dT;have a9:0<=(0:Int):=(by omega);have a_:0<(ae.length:Int):=jT;obtain⟨cn,b8,aY⟩:=kZ (kr au.out).2.2 0 a9 a_;cases b8;have dr:(0<ae.length)=True:=eq_true (by omega);(try rw[show((0:Int)).toNat=0 from rfl]at aY);(try rw[Addr.add_zero']at aY);replace a9:=eq_true a9;replace a_:=eq_true a_)|((with_reducible refine kQ 47 rfl ?_);refine lL 30 rfl Try.func47 (ni.calls (kv (kN bM.out HB.out)) ch.out dN.out) ?_;rintro e w' ⟨rfl,⟨nd,rfl⟩⟩;refine⟨_,rfl,?_⟩)|((with_reducible refine ky 33 rfl ?_);(try(refine mZ (by rfl) ?_;dsimp only));refine og (Kd.int .i64) rfl 3 ([a2,rd ae 0]:List Int) [.int .i64 a2,.int .i64 (rd ae 0)] (kF.one (show Kd.M (Kd.int .i64) _ _ _ a2 [.int .i64 a2] from rfl) (kF.one (show Kd.M (Kd.int .i64) _ _ _ (rd ae 0) [.int .i64 (rd ae 0)] from rfl) (kF.none _ _))) ?_;intro gc gF bB hb hg_ kV;clear hg_ kV;(first|rw[←cm.out]at bB|(simp only [Int.reduceToNat]at bB;rw[←cm.out]at bB));have dt:=dm (kP (lF bB (kT (jV au.out))) (kC (jR HB.out)));replace au:=lK au bB hb;replace aa:=jU aa hb;replace HB:=jX HB hb;clear hb bB))
  go_ret2
  exact⟨_,mW,by(with_reducible repeat(first|apply kI|apply kJ|apply kw));exact kz dt.out (fun _ hk=>trivial),jR HB.out⟩
 obtain⟨⟨av,ap,dU⟩,fg,H⟩:=kR H;(try dsimp only at H);obtain⟨de,bp⟩:∃y_:List Int,y_=(([]:List Int)):=⟨_,rfl⟩;replace H:(lM.l0 k l1 a2 (rd ae 0) de 0 ai aj av ap)=some (r1,r2):=lC bp H
 have co:=dm bp;clear bp;have H':=dm H;clear H
 go_enter Try.func61,Try.ntmps61
 go_wp2_with (first|((with_reducible refine ky 3 rfl ?_);(try(refine mZ (by rfl) ?_;dsimp only));refine qc 3 #[.int .i64 ai,.slice aT aj.length aU] 31 ?_;intro ax hg fh jS hb;have aa:=dm (jS);have cj:=dm (kg:w.heap.size<=ax);have ck:=dm (kg:w.heap.size<=ax);replace HB:=jX HB hb;clear hb jS hg;have⟨cy,cz,cA,cD⟩:=ko (w:=fh) aa)|((with_reducible refine kQ 94 rfl ?_);refine lL 20 rfl Try.func94 (nI.calls (kv (kN bJ.out HB.out)) bK.out A4.out) ?_;rintro e bN ⟨dd,rfl,ay,hb⟩;refine⟨_,rfl,?_⟩;have au:=dm (kP ay (kC (jR HB.out)));replace aa:=jU aa hb;replace HB:=jX HB hb;(try clear hb ay);obtain⟨ge,dV,dW⟩:=kK au.out;subst dW;have a9:0<=(0:Int):=(by omega);have a_:0<(ae.length:Int):=jT;obtain⟨cn,b8,aY⟩:=kZ (kr au.out).2.2 0 a9 a_;cases b8;have dr:(0<ae.length)=True:=eq_true (by omega);(try rw[show((0:Int)).toNat=0 from rfl]at aY);(try rw[Addr.add_zero']at aY);replace a9:=eq_true a9;replace a_:=eq_true a_)|((with_reducible refine kQ 47 rfl ?_);refine lL 30 rfl Try.func47 (ni.calls (kv (kN bM.out HB.out)) ch.out dN.out) ?_;rintro e w' ⟨rfl,⟨nd,rfl⟩⟩;refine⟨_,rfl,?_⟩;(try(rw[CK bN];generalize hq_:World.drewN bN _=bN;have n0:jP (Kd.R (Kd.int .i64) 3 bN w.heap.size (fun _=>True) (.slice (some cn) ae.length dV) ae):=⟨by rw[←hq_];exact(jV au.out)⟩;have n1:jP (bN.heap[ax]? =some (.cells #[.int .i64 ai,.slice aT aj.length aU] 31 (0,0))):=⟨by rw[←hq_];exact(jZ aa.out)⟩;have n2:jP (Below w.heap.size w bN):=⟨by rw[←hq_];exact(jR HB.out)⟩;clear au aa HB hq_;revert n0 n1 n2;intro au aa HB));have⟨cE,cF,cG,cH⟩:=ko (w:=bN) aa)|((with_reducible refine kQ 95 rfl ?_);refine lL 38 rfl Try.func95 (mf.calls (kv (kN bJ.out HB.out)) bK.out fg.out) ?_;rintro e gG ⟨gf,rfl,ay,hb⟩;refine⟨_,rfl,?_⟩;replace au:=kD au hb;have aZ:=dm (kP ay (kC (jR HB.out)));replace aa:=jU aa hb;replace HB:=jX HB hb;(try clear hb ay))|((with_reducible refine ky 10 rfl ?_);(try(refine mZ (by rfl) ?_;dsimp only));refine qc 10 #[.int .i64 0,.slice none 0 0] 31 ?_;intro aC hg fi jS hb;replace au:=kD au hb;replace aZ:=kD aZ hb;have af:=dm (jS);have fu:=dm (kg:w.heap.size<=aC);have fv:=dm (kg:w.heap.size<=aC);replace HB:=jX HB hb;have aK:=dm (Bg:ax≠aC);have aX:=dm (Bo:aC≠ax);replace aa:=jU aa hb;clear hb jS hg;have fw:=aX.out;have fx:=aK.out;have⟨cI,cJ,cL,cM⟩:=ko (w:=fi) af;obtain⟨aV,aW,dX⟩:=kK aZ.out;subst dX)|((with_reducible refine ky 41 rfl ?_);(try(refine mZ (by rfl) ?_;dsimp only));refine og (Kd.int .i64) rfl 3 ([]:List Int) [] (kF.none _ _) ?_;intro gg gH bC hb hg_ kV;clear hg_ kV;(first|rw[←co.out]at bC|(simp only [Int.reduceToNat]at bC;rw[←co.out]at bC));replace aZ:=dm (o7 (by(with_reducible repeat(first|apply kI|apply kJ|apply kw));exact(kz (lh (p:=⟨aC,1,none⟩) (lh (p:=⟨aC,0,none⟩) (mr aZ.out af.out (by decide)) (fun _ hk=>hk.2) (.int .i64 av)) (fun _ hk=>hk.2) (.slice aV ap.length aW)) (fun _ h_=>h_.1))) hb);have du:=dm (kP (lF bC (kT (Bf))) (kC (jR HB.out)));replace au:=dm (xX (Bf) (pR bC) hb);replace aa:=dm (nD (g:=ax) (o:=.cells #[.int .i64 ai,.slice aT aj.length aU] 31 (0,0)) (lI aa.out) hb);replace af:=dm (nD (g:=aC) (o:=.cells #[.int .i64 av,.slice aV ap.length aW] 31 (0,0)) (lI af.out) hb);replace HB:=jX HB hb;clear hb bC))
 go_loopg [12,13] k (fun kq fj fk w'=>∃ (ah:List Int) (ak:Int),fk=.int .i64 ak/\jP (lM.l0 kq l1 a2 (rd ae 0) ah ak ai aj av ap=some (r1,r2))/\jP (kq<=k)/\jP (Kd.R (Kd.int .i64) 3 w' w.heap.size (fun _=>True) fj ah)/\jP (Kd.R k59 59 w' w.heap.size (fun _=>True) (.slice aV ap.length aW) ap)/\jP (w'.heap[ax]? =some (.cells #[.int .i64 ai,(.slice aT aj.length aU)] 31 (0,0)))/\jP (w'.heap[aC]? =some (.cells #[.int .i64 av,(.slice aV ap.length aW)] 31 (0,0)))/\jP (Below w.heap.size w w'))
 case atStart=>exact⟨(de),(0),(ku),H',⟨Nat.le_refl _⟩,⟨by(with_reducible repeat(first|apply kI|apply kJ|apply kw));exact kz du.out (fun _ hk=>trivial)⟩,⟨jV aZ.out⟩,⟨jZ aa.out⟩,⟨jZ af.out⟩,⟨jR HB.out⟩⟩
 case round=>
  clear H';(try clear c1 c5 db dc dR dn dq b4 cy cz cE cF cI cJ cA cD cG cH cL cM aY a9 a_);obtain⟨ah,ak,rfl,HA,bm,ag,ab,aa,af,HB⟩:=hrel;cases gk with
  |zero=>exact absurd HA.out (by simp[lM.l0])
  |succ k1=>
   have H:=HA.out;clear HA;simp only [lM.l0]at H
   replace H:=lH H;rcases H with⟨cp,H⟩|⟨cp,H⟩
   ·obtain⟨bV,dO,H⟩:=kR H;(try dsimp only at H)
    rcases lV H with⟨h_,H_⟩|⟨h_,H_⟩<;> (subst h_;clear H;have H:=H_;clear H_)
    ·have H':=dm H;clear H;have fy:=aK.out;have fz:=aX.out;have⟨cN,cO,cP,cQ⟩:=ko (w:=wr) aa
     go_wp2_with (first|((with_reducible refine kQ 47 rfl ?_);refine lL 50 rfl Try.func47 (ni.calls (kv (kN bM.out HB.out)) ch.out dO.out) ?_;rintro e w' ⟨rfl,⟨nd,rfl⟩⟩;refine⟨_,rfl,?_⟩;(try(rw[CK wr];generalize hq_:World.drewN wr _=wr;have n0:jP (Kd.R (Kd.int .i64) 3 wr w.heap.size (fun _=>True) u12 ah):=⟨by rw[←hq_];exact(jV ag.out)⟩;have n1:jP (Kd.R k59 59 wr w.heap.size (fun _=>True) (.slice aV ap.length aW) ap):=⟨by rw[←hq_];exact(jV ab.out)⟩;have n2:jP (wr.heap[ax]? =some (.cells #[.int .i64 ai,.slice aT aj.length aU] 31 (0,0))):=⟨by rw[←hq_];exact(jZ aa.out)⟩;have n3:jP (wr.heap[aC]? =some (.cells #[.int .i64 av,.slice aV ap.length aW] 31 (0,0))):=⟨by rw[←hq_];exact(jZ af.out)⟩;have n4:jP (Below w.heap.size w wr):=⟨by rw[←hq_];exact(jR HB.out)⟩;clear ag ab aa af HB hq_;revert n0 n1 n2 n3 n4;intro ag ab aa af HB));have⟨cS,cT,cU,cW⟩:=ko (w:=wr) af)|((with_reducible refine ky 14 rfl ?_);(try(refine mZ (by rfl) ?_;dsimp only));refine qc 14 #[.int .i64 0,.slice none 0 0] 31 ?_;intro aw hg fm jS hb;have n0:=kD ag hb;have n1:=kD ab hb;have n2:=jU aa hb;have n3:=jU af hb;have n4:=jX HB hb;have n5:=dm (jS);have n6:=dm (kg:w.heap.size<=aw);have n7:=dm (kg:w.heap.size<=aw);have n8:=dm (Bg:ax≠aw);have n9:=dm (Bo:aw≠ax);have fo:=dm ((by rw[hg];exact Nat.ne_of_lt (lq (g:=aC) (o:=.cells #[.int .i64 av,.slice aV ap.length aW] 31 (0,0)) (jZ af.out)):aC≠aw));have fp:=dm ((by rw[hg];exact Nat.ne_of_gt (lq (g:=aC) (o:=.cells #[.int .i64 av,.slice aV ap.length aW] 31 (0,0)) (jZ af.out)):aw≠aC));clear ag ab aa af HB;revert n0 n1 n2 n3 n4 n5 n6 n7 n8 n9 fo fp;intro ag ab aa af HB al fA fB az aM aA aN;clear hb jS hg;have fC:=aM.out;have fD:=az.out;have fE:=aN.out;have fF:=aA.out;have⟨cX,cY,cZ,c_⟩:=ko (w:=fm) al))
     go_loopg [15] k1 (fun kq fq w'=>∃ (aq:Int) (ao:Int) (am:List (S59)) (bd:Value),fq=.int .i64 aq/\jP (lM.l1 kq l1 a2 (rd ae 0) ah ak aq ai aj av ap ao am=some (r1,r2))/\jP (kq<=k1)/\jP (Kd.R (Kd.int .i64) 3 w' w.heap.size (fun _=>True) u12 ah)/\jP (Kd.R k59 59 w' w.heap.size (fun _=>True) (.slice aV ap.length aW) ap)/\jP (Kd.R k59 59 w' w.heap.size (fun _=>True) bd am)/\jP (w'.heap[ax]? =some (.cells #[.int .i64 ai,(.slice aT aj.length aU)] 31 (0,0)))/\jP (w'.heap[aC]? =some (.cells #[.int .i64 av,(.slice aV ap.length aW)] 31 (0,0)))/\jP (w'.heap[aw]? =some (.cells #[.int .i64 ao,bd] 31 (0,0)))/\jP (Below w.heap.size w w'))
     case atStart=>exact⟨(0),(av),(ap),(.slice aV ap.length aW),(ku),H',⟨Nat.le_refl _⟩,⟨by(with_reducible repeat(first|apply kI|apply kJ|apply kw));exact kz (lh (p:=⟨aw,1,none⟩) (lh (p:=⟨aw,0,none⟩) (mr ag.out al.out (by decide)) (fun _ hk=>hk.2) (.int .i64 av)) (fun _ hk=>hk.2) (.slice aV ap.length aW)) (fun _ hk=>trivial)⟩,⟨Be⟩,⟨Be⟩,⟨Bd⟩,⟨rz⟩,⟨lI al.out⟩,⟨jR HB.out⟩⟩
     case round=>
      clear H';(try clear cp b5 cN cO cS cT cX cY cP cQ cU cW cZ c_);obtain⟨aq,ao,am,bd,rfl,HA,bL,ag,ab,ac,aa,af,al,HB⟩:=hrel;cases gk with
      |zero=>exact absurd HA.out (by simp[lM.l1])
      |succ k2=>
       have H:=HA.out;clear HA;simp only [lM.l1]at H
       replace H:=lH H;rcases H with⟨dv,H⟩|⟨dv,H⟩
       ·skip
        obtain⟨fG,H⟩:=kX H
        by_cases bO:(rd l1 aq)=ak
        ·rw[if_pos bO]at H;have dw:=beq_iff_eq.mpr bO;have dx:=bne_eq_false_iff_eq.mpr bO;clear bO;have H':=dm H;clear H;have bh:0<=(aq:Int):=jT;have bj:aq<(l1.length:Int):=jT;obtain⟨bW,b9,a5⟩:=kZ bM.out aq bh bj;cases b9;replace a5:=j4 HB a5;replace bh:=eq_true bh;replace bj:=eq_true bj
         go_wp2
         go_roundg k2
         case measure=>have:=bm.out;have:=bL.out;omega
         case rel=>exact⟨(wrap64 (aq+1)),(ao),(am),(bd),(ku),H',⟨uH⟩,⟨jV ag.out⟩,⟨jV ab.out⟩,⟨jV ac.out⟩,⟨jZ aa.out⟩,⟨jZ af.out⟩,⟨jZ al.out⟩,⟨jR HB.out⟩⟩
        rw[if_neg bO]at H;have dw:=beq_eq_false_iff_ne.mpr bO;have dx:=bne_iff_ne.mpr bO;obtain⟨⟨bk,bl⟩,ft,H⟩:=kR H;(try dsimp only at H);have H':=dm H;clear H;have bh:0<=(aq:Int):=jT;have bj:aq<(l1.length:Int):=jT;obtain⟨bW,b9,a5⟩:=kZ bM.out aq bh bj;cases b9;replace a5:=j4 HB a5;replace bh:=eq_true bh;replace bj:=eq_true bj;try go_wp2
        replace ag:=dm (kw ag.out);replace ab:=dm (kw ab.out);replace ac:=dm (kw ac.out);replace aa:=dm (kU aa.out);replace af:=dm (kU af.out);replace al:=dm (kU al.out);replace HB:=dm (mg HB.out);have b_:0<=(aq:Int):=jT;have ca:aq<(l1.length:Int):=jT;obtain⟨dy,dY,bf⟩:=kZ bM.out aq b_ ca;have bU:=bf;obtain rfl:bW=dy:=(by injection dY);replace bf:=j4 HB bf;replace b_:=eq_true b_;replace ca:=eq_true ca;obtain⟨bP,bQ,df⟩:=kK ac.out;(first|subst df|(injection df with b6 dg b7;have dh:=b6.symm;have di:=b7.symm;clear b6 dg b7;subst dh;subst di));refine tY (n:=7) (S:=fun w'=>w'.cell? ⟨aw,0,none⟩=some (.int .i64 ao)/\w'.cell? ⟨aw,1,none⟩=some (.slice bP am.length bQ)/\w'.cell? (bW.add (aq).toNat)=some (.int .i64 (rd l1 aq))) (ds:=[6]) (lJ 7 0) (by kernel_rfl) rfl (by kernel_rfl) ⟨jY al 0,jY al 1,(j4 HB bU)⟩ (fun hHeld=>?_);generalize wr.drew=gI at ag ab ac aa af al HB bf hHeld⊢;refine jW 1 66 2 ?_;refine jW 2 67 6 ?_;refine jW 3 68 14 ?_;refine kL 0 65 15 ?_;refine kL 4 69 31 ?_;refine pE (i:=5) (N:=some 70) (lJ 7 63) rfl rfl (by kernel_rfl) (by decide) (fun K hK=>?_);refine oz Try.func96 (mR.calls (kv (kr ac.out).2.2) ((kr ac.out).2.1) ft.out) ?_;rintro e dP ⟨gh,rfl,ay,hb⟩;refine⟨_,rfl,?_⟩;replace ag:=kD ag hb;have cr:=dm (kP (lF (lF ay (kT (jV ab.out))) (kT (jV ac.out))) (kC (jR HB.out)));replace ab:=lK ab ay hb;replace ac:=lK ac ay hb;replace aa:=jU aa hb;replace af:=jU af hb;replace al:=jU al hb;replace HB:=jX HB hb;(try clear hb gJ hk hi ay);obtain⟨bX,bY,dj⟩:=kK cr.out;(first|subst dj|(injection dj with b6 dg b7;have dh:=b6.symm;have di:=b7.symm;clear b6 dg b7;subst dh;subst di));refine hK.out _ _ ⟨jY al 0,jY al 1,(j4 HB bU)⟩ (fun hHeld=>?_);clear hK K;refine ll 70 ?_;refine zi (i:=6) (N:=none) (lJ 7 127) rfl rfl (by kernel_rfl) (by decide) (fun K hK=>?_);have gi:dP.cell? ⟨aw,0,none⟩=some (.int .i64 ao):=jY al 0;have fH:=l8 al.out 0;have ey:=az.out;have ez:=aA.out;have eA:=aM.out;have eB:=aN.out;have gj:dP.cell? ⟨aw,1,none⟩=some (.slice bP am.length bQ):=jY al 1;have fI:=l8 al.out 1;have eC:=az.out;have eD:=aA.out;have eE:=aM.out;have eF:=aN.out;refine r_ (w1:= ?_) (by rfl) rfl ?_ ?_;rotate_left
        ·go_simp
         rfl
        refine hK.out _ _ ?_;clear hK K;refine mD (by kernel_rfl) ?_;try go_wp2
        go_roundg k2
        case measure=>have:=bm.out;have:=bL.out;omega
        case rel=>exact⟨(wrap64 (aq+1)),(bk),(bl),(.slice bX bl.length bY),(ku),H',⟨uH⟩,⟨by(with_reducible repeat(first|apply kI|apply kJ|apply kw));exact kz (lh (p:=⟨aw,1,none⟩) (lh (p:=⟨aw,0,none⟩) (mr ag.out al.out (by decide)) (fun _ hk=>hk.2) (.int .i64 bk)) (fun _ hk=>hk.2) (.slice bX bl.length bY)) (fun _ hk=>trivial)⟩,⟨by(with_reducible repeat(first|apply kI|apply kJ|apply kw));exact kz (lh (p:=⟨aw,1,none⟩) (lh (p:=⟨aw,0,none⟩) (mr ab.out al.out (by decide)) (fun _ hk=>hk.2) (.int .i64 bk)) (fun _ hk=>hk.2) (.slice bX bl.length bY)) (fun _ hk=>trivial)⟩,⟨by(with_reducible repeat(first|apply kI|apply kJ|apply kw));exact kz (lh (p:=⟨aw,1,none⟩) (lh (p:=⟨aw,0,none⟩) (mr cr.out al.out (by decide)) (fun _ hk=>hk.2) (.int .i64 bk)) (fun _ hk=>hk.2) (.slice bX bl.length bY)) (fun _ hk=>trivial)⟩,⟨Bd⟩,⟨rz⟩,⟨lI al.out⟩,⟨jR HB.out⟩⟩
       obtain⟨⟨aP,dk⟩,ct,H⟩:=kR H;(try dsimp only at H)
       rcases lV H with⟨h_,H_⟩|⟨h_,H_⟩<;> (subst h_;clear H;have H:=H_;clear H_)
       ·skip
        by_cases bF:(ah.length:Int)=0
        ·rw[if_pos bF]at H;have dz:=beq_iff_eq.mpr bF;have dA:=bne_eq_false_iff_eq.mpr bF;clear bF;have H':=dm H;clear H;have fJ:=aM.out;have fK:=az.out;have fL:=aN.out;have fM:=aA.out;have⟨eG,eH,eI,eJ⟩:=ko (w:=wr) al;obtain⟨dZ,d7,d8⟩:=kK ac.out;subst d8
         go_wp2_with (first|((with_reducible refine kQ 97 rfl ?_);refine lL 75 rfl Try.func97 (lX.calls (kv (kr ac.out).2.2) ((kr ac.out).2.1) ct.out) ?_;rintro e gK ⟨cd,rfl,ay,hb⟩;refine⟨_,rfl,?_⟩;replace ab:=kD ab hb;replace ac:=kD ac hb;have ba:=dm (kP (lF ay (kT (jV ag.out))) (kC (jR HB.out)));replace ag:=lK ag ay hb;replace aa:=jU aa hb;replace af:=jU af hb;replace al:=jU al hb;replace HB:=jX HB hb;(try clear hb ay);obtain⟨gl,gm,d9⟩:=kK ag.out;subst d9))
         go_roundg k2
         case measure=>have:=bm.out;have:=bL.out;omega
         case rel=>exact⟨(aP),(wrap64 (ak+1)),(ku),H',⟨uH⟩,⟨BQ⟩,⟨jV ab.out⟩,⟨jZ aa.out⟩,⟨jZ af.out⟩,⟨jR HB.out⟩⟩
        rw[if_neg bF]at H;have dz:=beq_eq_false_iff_ne.mpr bF;have dA:=bne_iff_ne.mpr bF;have fN:¬ (ah=[]):=fun h_=>bF (by rw[h_];rfl)
        by_cases bG:(aP.length:Int)<(ah.length:Int)
        ·rw[if_pos bG]at H;have dB:=decide_eq_true bG;have dC:=decide_eq_true (Int.ofNat_lt.mp bG);clear bG;have H':=dm H;clear H;have fO:=aM.out;have fP:=az.out;have fQ:=aN.out;have fR:=aA.out;have⟨eK,eL,eM,eN⟩:=ko (w:=wr) al;obtain⟨d_,ea,eb⟩:=kK ac.out;subst eb
         go_wp2_with (first|((with_reducible refine kQ 97 rfl ?_);refine lL 75 rfl Try.func97 (lX.calls (kv (kr ac.out).2.2) ((kr ac.out).2.1) ct.out) ?_;rintro e gM ⟨cd,rfl,ay,hb⟩;refine⟨_,rfl,?_⟩;replace ab:=kD ab hb;replace ac:=kD ac hb;have ba:=dm (kP (lF ay (kT (jV ag.out))) (kC (jR HB.out)));replace ag:=lK ag ay hb;replace aa:=jU aa hb;replace af:=jU af hb;replace al:=jU al hb;replace HB:=jX HB hb;(try clear hb ay);obtain⟨gn,gp,ec⟩:=kK ag.out;subst ec;obtain⟨gq,gr,ed⟩:=kK ba.out;subst ed))
         go_roundg k2
         case measure=>have:=bm.out;have:=bL.out;omega
         case rel=>exact⟨(aP),(wrap64 (ak+1)),(ku),H',⟨uH⟩,⟨BQ⟩,⟨jV ab.out⟩,⟨jZ aa.out⟩,⟨jZ af.out⟩,⟨jR HB.out⟩⟩
        rw[if_neg bG]at H;have dB:=decide_eq_false bG;have dC:decide (aP.length<ah.length)=false:=decide_eq_false (fun h=>bG (Int.ofNat_lt.mpr h));clear bG;have H':=dm H;clear H;have fS:=aM.out;have fT:=az.out;have fU:=aN.out;have fV:=aA.out;have⟨eO,eP,eQ,eR⟩:=ko (w:=wr) al;obtain⟨ee,ef,eg⟩:=kK ac.out;subst eg
        go_wp2_with (first|((with_reducible refine kQ 97 rfl ?_);refine lL 75 rfl Try.func97 (lX.calls (kv (kr ac.out).2.2) ((kr ac.out).2.1) ct.out) ?_;rintro e gN ⟨cd,rfl,ay,hb⟩;refine⟨_,rfl,?_⟩;replace ab:=kD ab hb;replace ac:=kD ac hb;have ba:=dm (kP (lF ay (kT (jV ag.out))) (kC (jR HB.out)));replace ag:=lK ag ay hb;replace aa:=jU aa hb;replace af:=jU af hb;replace al:=jU al hb;replace HB:=jX HB hb;(try clear hb ay);obtain⟨gt,gu,eh⟩:=kK ag.out;subst eh;obtain⟨gv,gw,ei⟩:=kK ba.out;subst ei))
        go_roundg k2
        case measure=>have:=bm.out;have:=bL.out;omega
        case rel=>exact⟨(ah),(wrap64 (ak+1)),(ku),H',⟨uH⟩,⟨BS⟩,⟨jV ab.out⟩,⟨jZ aa.out⟩,⟨jZ af.out⟩,⟨jR HB.out⟩⟩
       have H':=dm H;clear H;have fW:=aM.out;have fX:=az.out;have fY:=aN.out;have fZ:=aA.out;have⟨eS,eT,eU,eV⟩:=ko (w:=wr) al;obtain⟨ej,ek,el⟩:=kK ac.out;subst el
       go_wp2_with (first|((with_reducible refine kQ 97 rfl ?_);refine lL 75 rfl Try.func97 (lX.calls (kv (kr ac.out).2.2) ((kr ac.out).2.1) ct.out) ?_;rintro e gO ⟨cd,rfl,ay,hb⟩;refine⟨_,rfl,?_⟩;replace ab:=kD ab hb;replace ac:=kD ac hb;have ba:=dm (kP (lF ay (kT (jV ag.out))) (kC (jR HB.out)));replace ag:=lK ag ay hb;replace aa:=jU aa hb;replace af:=jU af hb;replace al:=jU al hb;replace HB:=jX HB hb;(try clear hb ay)))
       go_roundg k2
       case measure=>have:=bm.out;have:=bL.out;omega
       case rel=>exact⟨(ah),(wrap64 (ak+1)),(ku),H',⟨uH⟩,⟨BS⟩,⟨jV ab.out⟩,⟨jZ aa.out⟩,⟨jZ af.out⟩,⟨jR HB.out⟩⟩
    have H':=dm H;clear H;have f2:=aK.out;have f3:=aX.out;have⟨eW,eX,eY,eZ⟩:=ko (w:=wr) aa
    go_wp2_with (first|((with_reducible refine kQ 47 rfl ?_);refine lL 50 rfl Try.func47 (ni.calls (kv (kN bM.out HB.out)) ch.out dO.out) ?_;rintro e w' ⟨rfl,⟨nd,rfl⟩⟩;refine⟨_,rfl,?_⟩))
    go_roundg k1
    case measure=>have:=bm.out;omega
    case rel=>exact⟨(ah),(wrap64 (ak+1)),(ku),H',⟨by have:=bm.out;omega⟩,⟨jV ag.out⟩,⟨jV ab.out⟩,⟨jZ aa.out⟩,⟨jZ af.out⟩,⟨jR HB.out⟩⟩
   skip
   by_cases bH:(ah.length:Int)=0
   ·rw[if_pos bH]at H;have dD:=beq_iff_eq.mpr bH;have dE:=bne_eq_false_iff_eq.mpr bH;clear bH;obtain⟨em,bq⟩:∃y_:List Int,y_=(([]:List Int)):=⟨_,rfl⟩;replace H:(some (em,false))=some (r1,r2):=lC bq H
    have cv:=dm bq;clear bq;simp only [Option.some.injEq,Prod.mk.injEq]at H;obtain⟨rfl,rfl⟩:=H;have f4:=aK.out;have f5:=aX.out;have⟨e2,e3,e4,e5⟩:=ko (w:=wr) aa;obtain⟨gx,gy,en⟩:=kK ag.out;subst en
    go_wp2_with (first|((with_reducible refine ky 95 rfl ?_);(try(refine mZ (by rfl) ?_;dsimp only));refine og (Kd.int .i64) rfl 3 ([]:List Int) [] (kF.none _ _) ?_;intro gz gP bD hb hg_ kV;clear hg_ kV;(first|rw[←cv.out]at bD|(simp only [Int.reduceToNat]at bD;rw[←cv.out]at bD));replace ab:=kD ab hb;have dF:=dm (kP (lF bD (kT (jV ag.out))) (kC (jR HB.out)));replace ag:=lK ag bD hb;replace aa:=jU aa hb;replace af:=jU af hb;replace HB:=jX HB hb;clear hb bD))
    go_ret2
    exact⟨_,mW,by(with_reducible repeat(first|apply kI|apply kJ|apply kw));exact kz dF.out (fun _ hk=>trivial),jR HB.out⟩
   rw[if_neg bH]at H;have dD:=beq_eq_false_iff_ne.mpr bH;have dE:=bne_iff_ne.mpr bH;have f6:¬ (ah=[]):=fun h_=>bH (by rw[h_];rfl);obtain⟨a7,br⟩:∃y_:List Int,y_=(([a2]:List Int)):=⟨_,rfl⟩;replace H:(if a7.length+ah.length<17592186044416 then(some ((a7++ah),true)) else(none))=some (r1,r2):=lC br H
   have cw:=dm br;clear br
   obtain⟨cx,H⟩:=mH H;have dG:=dm cx;clear cx;obtain⟨eo,bu⟩:∃y_:List Int,y_=(a7++ah):=⟨_,rfl⟩;replace H:(some (eo,true))=some (r1,r2):=lC bu H
   have dH:=dm bu;clear bu;simp only [Option.some.injEq,Prod.mk.injEq]at H;obtain⟨rfl,rfl⟩:=H;have f7:=aK.out;have f8:=aX.out;have⟨e6,e7,e8,e9⟩:=ko (w:=wr) aa;obtain⟨ep,eq,es⟩:=kK ag.out;subst es
   go_wp2_with (first|((with_reducible refine ky 97 rfl ?_);(try(refine mZ (by rfl) ?_;dsimp only));refine og (Kd.int .i64) rfl 3 ([a2]:List Int) [.int .i64 a2] (kF.one (show Kd.M (Kd.int .i64) _ _ _ a2 [.int .i64 a2] from rfl) (kF.none _ _)) ?_;intro et gQ bE hb hg_ kV;clear hg_ kV;(first|rw[←cw.out]at bE|(simp only [Int.reduceToNat]at bE;rw[←cw.out]at bE));replace ab:=kD ab hb;have bv:=dm (kP (lF bE (kT (jV ag.out))) (kC (jR HB.out)));replace ag:=lK ag bE hb;replace aa:=jU aa hb;replace af:=jU af hb;replace HB:=jX HB hb;clear hb bE)|((with_reducible refine oh (b:=.append) (xs:= #[.tmp 97,.tmp 98]) rfl ?_);(try(refine mZ (by rfl) ?_;dsimp only));at_builtin;refine Ae (Kd.int .i64) (w0:=w) w.heap.size rfl (.tmp 97) (.tmp 98) 45 3 (.int .i64 0) 8 rfl Try.underlying45 info3 rfl (by decide) (by omega) et a7 ah _ _ _ (fun k_=>some k_≠(.slice ep ah.length eq:Value).ownBlock) (fun _=>False) rfl rfl ?aO ?aR (fun _ _ h=>h) (fun _ h=>h.elim) ?aF ?aB ?aS ?aL ?_;(case aR=>exact kv (kr ag.out).2.2);(case aB=>exact(jR HB.out));(case aF=>exact(fun k_ hk=>Kd.fresh' (kT (jV ag.out)) k_ hk));(case aO=>exact(by(with_reducible repeat(first|apply kI|apply kJ|apply kw));exact kz bv.out (fun _ hk=>hk.2)));(case aS=>exact(kC (jR HB.out)));(case aL=>have:=dG.out;omega);intro gA gR ho hb hg hat;rw[←dH.out]at ho;have n0:=dm (nP (ok:=(fun _=>True)) (jV ag.out) hg hat);have n1:=dm (nU (jV ab.out) (nV (jV bv.out)) (by decide) hg);have n2:=lY aa hg (lS bv.out aa.out (by decide));have n3:=lY af hg (lS bv.out af.out (by decide));have n4:=dm (hb);have n5:=dm (ho);clear ag ab aa af HB bv;revert n0 n1 n2 n3 n4 n5;intro ag ab aa af HB dI;clear ho hb hg hat))
   go_ret2
   exact⟨_,mW,by(with_reducible repeat(first|apply kI|apply kJ|apply kw));exact kz dI.out (fun _ hk=>trivial),jR HB.out⟩
end Go.Proofs.Ytgeonpciodepgaa.P
