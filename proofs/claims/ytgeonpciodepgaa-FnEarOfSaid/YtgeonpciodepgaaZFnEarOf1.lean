/- The proof's parts ahead of the row: of no condition of their own. -/
import Derived.Test.YtgeonpciodepgaaZFnEarOf0
set_option linter.unusedVariables false
set_option linter.unusedSimpArgs false
namespace Go.Proofs.Ytgeonpciodepgaa.P
set_option maxHeartbeats 8000000
set_option maxRecDepth 100000
open Go.RowKit Go.Proofs.YtgeonpciodepgaaW.PrintWords Go.Proofs.YtgeonpciodepgaaW.PrintLast Go.Proofs.YtgeonpciodepgaaW.PrintMore Go.Proofs.YtgeonpciodepgaaW.PrintWords.Kd Go.Proofs.YtgeonpciodepgaaW.PrintMore.Kd
attribute [local go_sem] uM uQ uP uT uO uS uN uR
variable {p:Prop}
theorem Dt(h:p:=by(try simp only [List.map_toArray,List.map_cons,List.map_nil]);first|done|(simp only [aQ];rfl)|rfl|(simp only [List.length_drop,List.length_take];rfl)):p:=h
theorem yZ(h:p:=by rw[hg];exact Nat.ne_of_lt (lL (g:=aw) (o:=.cells #[.int .i64 ac,.slice (some bq) aa.length aG] 31 (0,0)) (jZ ai.out))):p:=h
theorem za(h:p:=by rw[hg];exact Nat.ne_of_gt (lL (g:=aw) (o:=.cells #[.int .i64 ac,.slice (some bq) aa.length aG] 31 (0,0)) (jZ ai.out))):p:=h
theorem nN(h:p:=by first|rfl|(simp[oV,oW]<;>rfl)|(simp[*,oV,oW]<;>rfl)):p:=h
theorem kD(h:p:=by first|rfl|(simp;done)|(simp[*];done)):p:=h
theorem ky(h:p:=by rw[hg];exact(kN (jT HB.out))):p:=h
theorem kR(h:p:=by kernel_rfl):p:=h
attribute [local go_sem high] Bo
def oP.l0:Nat->Int->List Int->Int->Int->Option (Int)
 |0,_,_,_,_=>none
 |k+1,x3,x6,x7,x8=>if x8<x7 then(if 0<=x8 then(if x8<(x6.length:Int) then(if(rd x6 x8)=x3 then(oP.l0 k x3 x6 x7 (wrap64 (x8+1))) else(some (rd x6 x8))) else(none)) else(none)) else(some x3)
def oP.f (k:Nat) (l0:List Int):Option (Int):=oP.l0 k 0 l0 (l0.length:Int) 0
theorem oP.pK:∀k,(∀y0 y1 y2 y3,LeO (oP.l0 k y0 y1 y2 y3) (oP.l0 (k+1) y0 y1 y2 y3))
 |0=>fun _ _ _ _ r h=>by simp[oP.l0]at h
 |k+1=>by intros;unfold oP.l0;exact qm (oP.pK k)
theorem oP.mono:∀a0 k,LeO (oP.f k a0) (oP.f (k+1) a0):=by intro a0 k;unfold oP.f;exact qm (oP.pK k)
theorem oP.calls {k:Nat}{A0:Option Addr}{c0:Nat}{l0:List Int}{r:Int}{w:World}(a7:Kd.C (Kd.int .i64) w A0 l0.length l0)(a8:l0.length<=c0)(h:oP.f k l0=some r):
  Calls Try.prog 109 #[.slice A0 l0.length c0] w fun e w'=>e=.returned (.int .i64 r)/\kX w w':=by
 have a6:=dm a7;have cf:=dm a8;clear a7 a8;unfold oP.f at h;have H:=h;clear h;have H':=dm H;clear H
 go_enter Try.func109,Try.ntmps109
 go_wp2
 go_loopg [8] k (fun kq v8 w'=>∃ (ab:Int),v8=.int .i64 ab/\jP (oP.l0 kq 0 l0 (l0.length:Int) ab=some r)/\jP (kq<=k)/\kX w w')
 case atStart=>exact⟨(0),(kD),H',⟨Nat.le_refl _⟩,by repeat(first|exact kX.refl _|apply kX.step)⟩
 case round=>
  clear H';try clear c1
  obtain⟨ab,rfl,HA,bA,⟨m1,rfl⟩⟩:=hrel;cases gk with
  |zero=>exact absurd HA.out (by simp[oP.l0])
  |succ k1=>
   have H:=HA.out;clear HA;simp only [oP.l0]at H
   replace H:=mf H;rcases H with⟨b5,H⟩|⟨b5,H⟩
   ·skip
    obtain⟨eq,H⟩:=lh H
    obtain⟨aY,H⟩:=lh H
    by_cases c5:(rd l0 ab)=0
    ·rw[if_pos c5]at H;have b6:=beq_iff_eq.mpr c5;have cT:=bne_eq_false_iff_eq.mpr c5;clear c5;have H':=dm H;clear H;have bd:0<=(ab:Int):=jX;have bf:ab<(l0.length:Int):=jX;obtain⟨cD,b7,cm⟩:=lC a6.out ab bd bf;cases b7;replace bd:=eq_true bd;replace bf:=eq_true bf
     go_wp2
     go_roundg k1
     case measure=>have:=bA.out;omega
     case rel=>exact⟨(wrap64 (ab+1)),(kD),H',⟨by have:=bA.out;omega⟩,by repeat(first|exact kX.refl _|apply kX.step)⟩
    rw[if_neg c5]at H;have b6:=beq_eq_false_iff_ne.mpr c5;have cT:=bne_iff_ne.mpr c5;obtain rfl:=Option.some.inj H;have bd:0<=(ab:Int):=jX;have bf:ab<(l0.length:Int):=jX;obtain⟨cD,b7,cm⟩:=lC a6.out ab bd bf;cases b7;replace bd:=eq_true bd;replace bf:=eq_true bf
    go_wp2
    go_ret
    exact⟨kD,by repeat(first|exact kX.refl _|apply kX.step)⟩
   obtain rfl:=Option.some.inj H
   go_wp2
   go_ret
   exact⟨kD,by repeat(first|exact kX.refl _|apply kX.step)⟩
def cmp_isNaN_int.f (a0:Int):Option (Bool):=some (a0 !=a0)
theorem cmp_isNaN_int.calls {a0:Int}{r:Bool}{w:World}(h:cmp_isNaN_int.f a0=some r):
  Calls Try.prog 129 #[.int .i64 a0] w fun e w'=>e=.returned (.bool r)/\kX w w':=by
 unfold cmp_isNaN_int.f at h;have H:=h;clear h;obtain rfl:=Option.some.inj H
 go_enter Try.func129,Try.ntmps129
 go_wp2
 go_ret
 exact⟨kD,by repeat(first|exact kX.refl _|apply kX.step)⟩
def cmp_Compare_int.f (a0:Int) (a1:Int):Option (Int):=(cmp_isNaN_int.f a0).bind fun bh=>((cmp_isNaN_int.f a1).bind fun aD=>(if bh=true then(if aD=true then(some 0) else(some (-1))) else(if aD=true then(some 1) else(if a0<a1 then(some (-1)) else(if a0>a1 then(some 1) else(some 0))))))
theorem cmp_Compare_int.calls {a0:Int}{a1:Int}{r:Int}{w:World}(h:cmp_Compare_int.f a0 a1=some r):
  Calls Try.prog 110 #[.int .i64 a0,.int .i64 a1] w fun e w'=>e=.returned (.int .i64 r)/\kX w w':=by
 unfold cmp_Compare_int.f at h;have H:=h;clear h;obtain⟨bh,A3,H⟩:=kW H;(try dsimp only at H);obtain⟨aD,A4,H⟩:=kW H;(try dsimp only at H)
 rcases mr H with⟨h_,H_⟩|⟨h_,H_⟩<;> (subst h_;clear H;have H:=H_;clear H_)
 ·skip
  rcases mr H with⟨h_,H_⟩|⟨h_,H_⟩<;> (subst h_;clear H;have H:=H_;clear H_)
  ·obtain rfl:=Option.some.inj H
   go_enter Try.func110,Try.ntmps110
   go_wp2_with (first|((with_reducible refine kY 129 rfl ?_);refine lH 8 rfl Try.func129 (cmp_isNaN_int.calls A3.out) ?_;rintro e w' ⟨rfl,⟨nd,rfl⟩⟩;refine⟨_,rfl,?_⟩)|((with_reducible refine kY 129 rfl ?_);refine lH 10 rfl Try.func129 (cmp_isNaN_int.calls A4.out) ?_;rintro e w' ⟨rfl,⟨nd,rfl⟩⟩;refine⟨_,rfl,?_⟩))
   go_ret
   exact⟨kD,by repeat(first|exact kX.refl _|apply kX.step)⟩
  obtain rfl:=Option.some.inj H
  go_enter Try.func110,Try.ntmps110
  go_wp2_with (first|((with_reducible refine kY 129 rfl ?_);refine lH 8 rfl Try.func129 (cmp_isNaN_int.calls A3.out) ?_;rintro e w' ⟨rfl,⟨nd,rfl⟩⟩;refine⟨_,rfl,?_⟩)|((with_reducible refine kY 129 rfl ?_);refine lH 10 rfl Try.func129 (cmp_isNaN_int.calls A4.out) ?_;rintro e w' ⟨rfl,⟨nd,rfl⟩⟩;refine⟨_,rfl,?_⟩))
  go_ret
  exact⟨kD,by repeat(first|exact kX.refl _|apply kX.step)⟩
 skip
 rcases mr H with⟨h_,H_⟩|⟨h_,H_⟩<;> (subst h_;clear H;have H:=H_;clear H_)
 ·obtain rfl:=Option.some.inj H
  go_enter Try.func110,Try.ntmps110
  go_wp2_with (first|((with_reducible refine kY 129 rfl ?_);refine lH 8 rfl Try.func129 (cmp_isNaN_int.calls A3.out) ?_;rintro e w' ⟨rfl,⟨nd,rfl⟩⟩;refine⟨_,rfl,?_⟩)|((with_reducible refine kY 129 rfl ?_);refine lH 10 rfl Try.func129 (cmp_isNaN_int.calls A4.out) ?_;rintro e w' ⟨rfl,⟨nd,rfl⟩⟩;refine⟨_,rfl,?_⟩))
  go_ret
  exact⟨kD,by repeat(first|exact kX.refl _|apply kX.step)⟩
 skip
 replace H:=mf H;rcases H with⟨b8,H⟩|⟨b8,H⟩
 ·obtain rfl:=Option.some.inj H
  go_enter Try.func110,Try.ntmps110
  go_wp2_with (first|((with_reducible refine kY 129 rfl ?_);refine lH 8 rfl Try.func129 (cmp_isNaN_int.calls A3.out) ?_;rintro e w' ⟨rfl,⟨nd,rfl⟩⟩;refine⟨_,rfl,?_⟩)|((with_reducible refine kY 129 rfl ?_);refine lH 10 rfl Try.func129 (cmp_isNaN_int.calls A4.out) ?_;rintro e w' ⟨rfl,⟨nd,rfl⟩⟩;refine⟨_,rfl,?_⟩))
  go_ret
  exact⟨kD,by repeat(first|exact kX.refl _|apply kX.step)⟩
 skip
 replace H:=mf H;rcases H with⟨b9,H⟩|⟨b9,H⟩
 ·obtain rfl:=Option.some.inj H
  go_enter Try.func110,Try.ntmps110
  go_wp2_with (first|((with_reducible refine kY 129 rfl ?_);refine lH 8 rfl Try.func129 (cmp_isNaN_int.calls A3.out) ?_;rintro e w' ⟨rfl,⟨nd,rfl⟩⟩;refine⟨_,rfl,?_⟩)|((with_reducible refine kY 129 rfl ?_);refine lH 10 rfl Try.func129 (cmp_isNaN_int.calls A4.out) ?_;rintro e w' ⟨rfl,⟨nd,rfl⟩⟩;refine⟨_,rfl,?_⟩))
  go_ret
  exact⟨kD,by repeat(first|exact kX.refl _|apply kX.step)⟩
 obtain rfl:=Option.some.inj H
 go_enter Try.func110,Try.ntmps110
 go_wp2_with (first|((with_reducible refine kY 129 rfl ?_);refine lH 8 rfl Try.func129 (cmp_isNaN_int.calls A3.out) ?_;rintro e w' ⟨rfl,⟨nd,rfl⟩⟩;refine⟨_,rfl,?_⟩)|((with_reducible refine kY 129 rfl ?_);refine lH 10 rfl Try.func129 (cmp_isNaN_int.calls A4.out) ?_;rintro e w' ⟨rfl,⟨nd,rfl⟩⟩;refine⟨_,rfl,?_⟩))
 go_ret
 exact⟨kD,by repeat(first|exact kX.refl _|apply kX.step)⟩
def pU.f (k:Nat) (ac:Int) (aI:Int) (ah:Int) (ag:Int):Option (Int):=(cmp_Compare_int.f ac ah).bind fun aK=>((cmp_Compare_int.f aI ag).bind fun aH=>((oP.f k (([aK,aH]:List Int))).bind fun aL=>(some aL)))
theorem pU.mono:∀a0 a1 a2 a3 k,LeO (pU.f k a0 a1 a2 a3) (pU.f (k+1) a0 a1 a2 a3):=by intros;unfold pU.f;exact qm oP.mono
def pU.T1:Bool×List (List Nat×List Nat):=(true,[([],[]),([0],[0]),([],[]),([2],[2]),([1,3],[1,3]),([],[]),([5],[5]),([],[]),([7],[7]),([6,8,4],[6,8]),([4,9],[4,9]),([10,9],[10]),([11,11,0,1,2,3,4,5,6,7,8,9,10,11],[11])])
def pU.B1:List Nat:=[0,1,0,4,15,0,32,0,128,511,1023,2047,4095]
theorem pU.B_:mR .any (opsOf Try.f80 1)=pU.T1:=by kernel_rfl
theorem pU.AL:nS pU.T1.2 pU.B1=true:=by kernel_rfl
theorem pU.calls {k:Nat}{ac:Int}{aI:Int}{ah:Int}{ag:Int}{r:Int}{w:World}(h:pU.f k ac aI ah ag=some r):
  Calls Try.prog 80 #[.agg #[.int .i64 ac,.int .i64 aI],.agg #[.int .i64 ah,.int .i64 ag]] w fun e w'=>e=.returned (.int .i64 r)/\Below w.heap.size w w':=by
 have bF:=Try.underlying59;have HB:=dm (Below.refl w.heap.size w);unfold pU.f at h;have H:=h;clear h;obtain⟨aK,A3,H⟩:=kW H;(try dsimp only at H);obtain⟨aH,A4,H⟩:=kW H;(try dsimp only at H);obtain⟨b_,br⟩:∃y_:List Int,y_=(([aK,aH]:List Int)):=⟨_,rfl⟩;replace H:((oP.f k b_).bind fun aL=>(some aL))=some r:=l7 br H
 have cg:=dm br;clear br;obtain⟨aL,A5,H⟩:=kW H;(try dsimp only at H);obtain rfl:=Option.some.inj H
 go_enter Try.func80,Try.ntmps80;try go_wp2_with (first|((with_reducible refine kI 2 rfl ?_);refine lu #[.int .i64 ac,.int .i64 aI] 59 ?_;intro aP hg w6 jV hb;have ak:=dm (jV);have dV:=dm (ky:w.heap.size<=aP);have dW:=dm (ky:w.heap.size<=aP);replace HB:=kg HB hb;clear hb jV hg)|((with_reducible refine kI 3 rfl ?_);refine lu #[.int .i64 ah,.int .i64 ag] 59 ?_;intro a_ hg w7 jV hb;have am:=dm (jV);have dX:=dm (ky:w.heap.size<=a_);have dY:=dm (ky:w.heap.size<=a_);replace HB:=kg HB hb;have cI:=dm ((by rw[hg];exact Nat.ne_of_lt (lL (g:=aP) (o:=.cells #[.int .i64 ac,.int .i64 aI] 59 (0,0)) (jZ ak.out)):aP≠a_));have cJ:=dm ((by rw[hg];exact Nat.ne_of_gt (lL (g:=aP) (o:=.cells #[.int .i64 ac,.int .i64 aI] 59 (0,0)) (jZ ak.out)):a_≠aP));replace ak:=jU ak hb;clear hb jV hg))
 replace ak:=dm (kQ ak.out);replace am:=dm (kQ am.out);replace HB:=dm (ma HB.out);refine mZ 13 (S:=fun w'=>w'.cell? ⟨aP,0,none⟩=some (.int .i64 ac)/\w'.cell? ⟨aP,1,none⟩=some (.int .i64 aI)/\w'.cell? ⟨a_,0,none⟩=some (.int .i64 ah)/\w'.cell? ⟨a_,1,none⟩=some (.int .i64 ag)) [] ⟨jS ak 0,jS ak 1,jS am 0,jS am 1⟩ pU.B_ pU.AL (fun hHeld HT_ HW_=>?_);generalize w7.drew=w8 at ak am HB hHeld⊢;refine jR 0 5 1 ?_;refine jR 2 7 5 ?_;refine jR 5 10 37 ?_;refine jR 7 12 165 ?_;refine kJ 1 6 167 ?_;refine kJ 3 8 175 ?_;refine kJ 6 11 239 ?_;refine kJ 8 13 495 ?_;refine lD 4 9 511 (fun K hK=>?_);refine mE Try.func110 (cmp_Compare_int.calls A3.out) ?_;rintro e w' ⟨rfl,⟨nd,rfl⟩⟩;refine⟨_,rfl,?_⟩;refine hK.out _ _ ⟨jS ak 0,jS ak 1,jS am 0,jS am 1⟩ (fun hHeld=>?_);clear hK K;refine kP 9 ?_;refine lD 9 14 1023 (fun K hK=>?_);refine mE Try.func110 (cmp_Compare_int.calls A4.out) ?_;rintro e w' ⟨rfl,⟨nd,rfl⟩⟩;refine⟨_,rfl,?_⟩;refine hK.out _ _ ⟨jS ak 0,jS ak 1,jS am 0,jS am 1⟩ (fun hHeld=>?_);clear hK K;refine kP 14 ?_;refine lD 10 15 2047 (fun K hK=>?_);refine sw (Kd.int .i64) _ 3 ?hg (N:=15) ?hd (xs:=([aK,aH]:List Int)) (inner:=[.int .i64 aK,.int .i64 aH]) (ok:=fun _=>True) (okp:=fun _=>True) ?hr ?hp (fun _ hk=>hk) trivial (Below.refl _ _) (Nat.le_refl _) (by simp) ?_;(case hd=>rfl);(case hg=>rfl);(case hr=>first|(go_simp;done)|(go_simp;rfl));(case hp=>exact(kT.one (show Kd.M (Kd.int .i64) _ _ _ aK [.int .i64 aK] from rfl) (kT.one (show Kd.M (Kd.int .i64) _ _ _ aH [.int .i64 aH] from rfl) (kT.none _ _))));intro es w9 bG hb hg_ lF;clear hg_ lF;(first|rw[←cg.out]at bG|(simp only [Int.reduceToNat]at bG;rw[←cg.out]at bG));have bN:=dm (kU bG (kN (jT HB.out)));replace ak:=jU ak hb;replace am:=jU am hb;replace HB:=kg HB hb;clear hb bG;obtain⟨cU,cW,co⟩:=kM bN.out;(first|subst co|(injection co with cL dI cM;have dJ:=cL.symm;have dK:=cM.symm;clear cL dI cM;subst dJ;subst dK));refine hK.out _ _ ⟨jS ak 0,jS ak 1,jS am 0,jS am 1⟩ (fun hHeld=>?_);clear hK K;refine kP 15 ?_;refine lD 11 16 4095 (fun K hK=>?_);refine mE Try.func109 (oP.calls (kE (ku bN.out).2.2) ((ku bN.out).2.1) A5.out) ?_;rintro e w' ⟨rfl,⟨nd,rfl⟩⟩;refine⟨_,rfl,?_⟩;refine hK.out _ _ ⟨jS ak 0,jS ak 1,jS am 0,jS am 1⟩ (fun hHeld=>?_);clear hK K;refine kP 16 ?_;refine jR 12 4 8191 ?_;refine mH (mP HT_.out (kR)) ?_;try go_wp2
 go_ret
 exact⟨nN,jT HB.out⟩
def nO.l0:Nat->List (S59)->Int->Option (Bool)
 |0,_,_=>none
 |k+1,x0,x3=>if x3<(x0.length:Int) then(if 0<=(wrap64 (x3 - 1)) then(if(wrap64 (x3 - 1))<(x0.length:Int) then(if 0<=x3 then((pU.f k ((jQ x0 (wrap64 (x3 - 1))).f0) ((jQ x0 (wrap64 (x3 - 1))).f1) ((jQ x0 x3).f0) ((jQ x0 x3).f1)).bind fun aR=>(if aR>=0 then(some false) else(nO.l0 k x0 (wrap64 (x3+1))))) else(none)) else(none)) else(none)) else(some true)
def nO.f (k:Nat) (l0:List (S59)):Option (Bool):=nO.l0 k l0 1
theorem nO.pK:∀k,(∀y0 y1,LeO (nO.l0 k y0 y1) (nO.l0 (k+1) y0 y1))
 |0=>fun _ _ r h=>by simp[nO.l0]at h
 |k+1=>by intros;unfold nO.l0;exact qm (nO.pK k) pU.mono
theorem nO.mono:∀a0 k,LeO (nO.f k a0) (nO.f (k+1) a0):=by intro a0 k;unfold nO.f;exact qm (nO.pK k) pU.mono
def nO.T4:Bool×List (List Nat×List Nat):=(true,[([],[]),([],[]),([1],[1]),([0,2],[0,2]),([3],[3]),([],[]),([],[]),([5,6],[5,6]),([7],[7]),([4,8],[4,8]),([9],[9])])
def nO.B4:List Nat:=[0,0,2,7,15,0,0,96,224,511,1023]
theorem nO.uy:mR .any (opsOf Try.f88 4)=nO.T4:=by kernel_rfl
theorem nO.ug:nS nO.T4.2 nO.B4=true:=by kernel_rfl
theorem nO.calls {k:Nat}{A0:Option Addr}{c0:Nat}{l0:List (S59)}{r:Bool}{w:World}(a7:Kd.C k59 w A0 l0.length l0)(a8:l0.length<=c0)(h:nO.f k l0=some r):
  Calls Try.prog 88 #[.slice A0 l0.length c0] w fun e w'=>e=.returned (.bool r)/\Below w.heap.size w w':=by
 have bF:=Try.underlying59;have a6:=dm a7;have cf:=dm a8;clear a7 a8;have HB:=dm (Below.refl w.heap.size w);unfold nO.f at h;have H:=h;clear h;have H':=dm H;clear H
 go_enter Try.func88,Try.ntmps88
 go_wp2
 go_loopg [3] k (fun kq v3 w'=>∃ (af:Int),v3=.int .i64 af/\jP (nO.l0 kq l0 af=some r)/\jP (kq<=k)/\jP (Below w.heap.size w w'))
 case atStart=>exact⟨(1),(kD),H',⟨Nat.le_refl _⟩,⟨jT HB.out⟩⟩
 case round=>
  clear H';obtain⟨af,rfl,HA,bA,HB⟩:=hrel;cases gk with
  |zero=>exact absurd HA.out (by simp[nO.l0])
  |succ k1=>
   have H:=HA.out;clear HA;simp only [nO.l0]at H
   replace H:=mf H;rcases H with⟨b5,H⟩|⟨b5,H⟩
   ·obtain⟨aj,aQ⟩:∃j_:Int,(wrap64 (af - 1))=j_:=⟨_,rfl⟩;replace H:(if 0<=(aj) then(if(aj)<(l0.length:Int) then(if 0<=af then((pU.f k1 ((jQ l0 (aj)).f0) ((jQ l0 (aj)).f1) ((jQ l0 af).f0) ((jQ l0 af).f1)).bind fun aR=>(if aR>=0 then(some false) else(nO.l0 k1 l0 (wrap64 (af+1))))) else(none)) else(none)) else(none))=some r:=by first|(rw[aQ]at H;exact H)|(simp only [aQ]at H⊢;exact H)
    have dZ:(IntKind.i64.wrap (af - 1))=aj:=(mJ _).trans aQ
    obtain⟨aY,H⟩:=lh H
    obtain⟨b6,H⟩:=lh H
    obtain⟨cX,H⟩:=lh H;obtain⟨aR,A7,H⟩:=kW H;(try dsimp only at H)
    replace H:=mf H;rcases H with⟨b8,H⟩|⟨b8,H⟩
    ·obtain rfl:=Option.some.inj H;try go_wp2
     replace HB:=dm (ma HB.out);have bj:0<=((aj):Int):=jX;have bk:(aj)<(l0.length:Int):=jX;obtain⟨av,ca,az,aA⟩:=ng a6.out (aj) bj bk;have aS:=aA;have aT:=az;cases ca;replace az:=ko HB az;replace aA:=ko HB aA;replace bj:=eq_true bj;replace bk:=eq_true bk;have bl:0<=(af:Int):=jX;have bm:af<(l0.length:Int):=jX;obtain⟨bO,cd,aB,aC⟩:=ng a6.out af bl bm;have aU:=aC;have aV:=aB;obtain rfl:av=bO:=(by injection cd);replace aB:=ko HB aB;replace aC:=ko HB aC;replace bl:=eq_true bl;replace bm:=eq_true bm;refine mZ 11 (S:=fun w'=>w'.cell? (av.add (((aj)).toNat*2))=some (.int .i64 ((jQ l0 (aj)).f0))/\w'.cell? ⟨(av.add (((aj)).toNat*2)).block,(av.add (((aj)).toNat*2)).off+1,none⟩=some (.int .i64 ((jQ l0 (aj)).f1))/\w'.cell? (av.add ((af).toNat*2))=some (.int .i64 ((jQ l0 af).f0))/\w'.cell? ⟨(av.add ((af).toNat*2)).block,(av.add ((af).toNat*2)).off+1,none⟩=some (.int .i64 ((jQ l0 af).f1))) [] ⟨(ko HB aT),(ko HB aS),(ko HB aV),(ko HB aU)⟩ nO.uy nO.ug (fun hHeld HT_ HW_=>?_);generalize wr.drew=w9 at HB az aA aB aC hHeld⊢;refine jR 0 10 1 ?_;refine jR 1 11 3 ?_;refine jR 2 12 7 ?_;refine jR 3 13 15 ?_;refine jR 5 15 47 ?_;refine jR 6 16 111 ?_;refine jR 7 17 239 ?_;refine kJ 4 14 255 ?_;refine kJ 8 18 511 ?_;refine lD 9 19 1023 (fun K hK=>?_);refine qg Try.func80 (kR) rfl #[.agg #[.int .i64 ((jQ l0 (aj)).f0),.int .i64 ((jQ l0 (aj)).f1)],.agg #[.int .i64 ((jQ l0 af).f0),.int .i64 ((jQ l0 af).f1)]] (by rfl) rfl rfl (Dt) ?_;refine(pU.calls A7.out).mono ?_;rintro e eu ⟨rfl,hb⟩;refine⟨_,rfl,?_⟩;replace HB:=kg HB hb;(try clear hb);refine hK.out _ _ ⟨(ko HB aT),(ko HB aS),(ko HB aV),(ko HB aU)⟩ (fun hHeld=>?_);clear hK K;refine kP 19 ?_;refine jR 10 20 2047 ?_;refine mH (mP HT_.out (kR)) ?_;try go_wp2
     go_ret
     exact⟨by first|rfl|(simp[oV,oW]<;>rfl)|(simp only [←aQ];first|rfl|(simp[oV,oW]<;>rfl))|(simp[*,oV,oW]<;>rfl),jT HB.out⟩
    have H':=dm H;clear H;try go_wp2
    replace HB:=dm (ma HB.out);have bj:0<=((aj):Int):=jX;have bk:(aj)<(l0.length:Int):=jX;obtain⟨av,ca,az,aA⟩:=ng a6.out (aj) bj bk;have aS:=aA;have aT:=az;cases ca;replace az:=ko HB az;replace aA:=ko HB aA;replace bj:=eq_true bj;replace bk:=eq_true bk;have bl:0<=(af:Int):=jX;have bm:af<(l0.length:Int):=jX;obtain⟨bO,cd,aB,aC⟩:=ng a6.out af bl bm;have aU:=aC;have aV:=aB;obtain rfl:av=bO:=(by injection cd);replace aB:=ko HB aB;replace aC:=ko HB aC;replace bl:=eq_true bl;replace bm:=eq_true bm;refine mZ 11 (S:=fun w'=>w'.cell? (av.add (((aj)).toNat*2))=some (.int .i64 ((jQ l0 (aj)).f0))/\w'.cell? ⟨(av.add (((aj)).toNat*2)).block,(av.add (((aj)).toNat*2)).off+1,none⟩=some (.int .i64 ((jQ l0 (aj)).f1))/\w'.cell? (av.add ((af).toNat*2))=some (.int .i64 ((jQ l0 af).f0))/\w'.cell? ⟨(av.add ((af).toNat*2)).block,(av.add ((af).toNat*2)).off+1,none⟩=some (.int .i64 ((jQ l0 af).f1))) [] ⟨(ko HB aT),(ko HB aS),(ko HB aV),(ko HB aU)⟩ nO.uy nO.ug (fun hHeld HT_ HW_=>?_);generalize wr.drew=ev at HB az aA aB aC hHeld⊢;refine jR 0 10 1 ?_;refine jR 1 11 3 ?_;refine jR 2 12 7 ?_;refine jR 3 13 15 ?_;refine jR 5 15 47 ?_;refine jR 6 16 111 ?_;refine jR 7 17 239 ?_;refine kJ 4 14 255 ?_;refine kJ 8 18 511 ?_;refine lD 9 19 1023 (fun K hK=>?_);refine qg Try.func80 (kR) rfl #[.agg #[.int .i64 ((jQ l0 (aj)).f0),.int .i64 ((jQ l0 (aj)).f1)],.agg #[.int .i64 ((jQ l0 af).f0),.int .i64 ((jQ l0 af).f1)]] (by rfl) rfl rfl (Dt) ?_;refine(pU.calls A7.out).mono ?_;rintro e ew ⟨rfl,hb⟩;refine⟨_,rfl,?_⟩;replace HB:=kg HB hb;(try clear hb);refine hK.out _ _ ⟨(ko HB aT),(ko HB aS),(ko HB aV),(ko HB aU)⟩ (fun hHeld=>?_);clear hK K;refine kP 19 ?_;refine jR 10 20 2047 ?_;refine mH (mP HT_.out (kR)) ?_;try go_wp2
    go_roundg k1
    case measure=>have:=bA.out;omega
    case rel=>exact⟨(wrap64 (af+1)),(kD),H',⟨by have:=bA.out;omega⟩,⟨jT HB.out⟩⟩
   obtain rfl:=Option.some.inj H
   go_wp2
   go_ret
   exact⟨nN,jT HB.out⟩
mutual
def nH.j0:Nat->Bool->Int->List (S59)->Option (Bool)
 |0,_,_,_=>none
 |k+1,dL,ba,aO=>if dL=true then(some false) else(nH.l0 k aO (aO.length:Int) 0 ba aO)
def nH.l0:Nat->List (S59)->Int->Int->Int->List (S59)->Option (Bool)
 |0,_,_,_,_,_=>none
 |k+1,bH,cN,bB,ba,aO=>if bB<cN then(if 0<=bB then(if bB<(bH.length:Int) then(if((jQ bH bB).f0)<0 then(some false) else(if((jQ bH bB).f0)>=((jQ bH bB).f1) then(some false) else(if((jQ bH bB).f1)>=ba then(some false) else(nH.l0 k bH cN (wrap64 (bB+1)) ba aO)))) else(none)) else(none)) else((nO.f k aO).bind fun bP=>(some bP))
end
def nH.f (k:Nat) (ac:Int) (aa:List (S59)):Option (Bool):=if ac<0 then(nH.j0 k true ac aa) else(nH.j0 k (decide (ac>8)) ac aa)
theorem nH.pK:∀k,(∀y0 y1 y2,LeO (nH.j0 k y0 y1 y2) (nH.j0 (k+1) y0 y1 y2))/\(∀y0 y1 y2 y3 y4,LeO (nH.l0 k y0 y1 y2 y3 y4) (nH.l0 (k+1) y0 y1 y2 y3 y4))
 |0=>⟨fun _ _ _ r h=>by simp[nH.j0]at h,fun _ _ _ _ _ r h=>by simp[nH.l0]at h⟩
 |k+1=>by
  obtain⟨ax,bX⟩:=nH.pK k;refine⟨?_,?_⟩<;>intros
  all_goals (first|unfold nH.j0|unfold nH.l0);exact qm ax bX nO.mono
theorem nH.mono:∀a0 a1 k,LeO (nH.f k a0 a1) (nH.f (k+1) a0 a1):=by intro a0 a1 k;obtain⟨ax,bX⟩:=nH.pK k;unfold nH.f;exact qm ax bX nO.mono
theorem nH.calls {k:Nat}{ac:Int}{aM:Option Addr}{aG:Nat}{aa:List (S59)}{r:Bool}{w:World}(bu:Kd.C k59 w aM aa.length aa)(bv:aa.length<=aG)(h:nH.f k ac aa=some r):
  Calls Try.prog 50 #[.agg #[.int .i64 ac,.slice aM aa.length aG]] w fun e w'=>e=.returned (.bool r)/\Below w.heap.size w w':=by
 have cY:=Try.underlying31;have bF:=Try.underlying59;have aZ:=dm bu;have bQ:=dm bv;clear bu bv;have HB:=dm (Below.refl w.heap.size w);unfold nH.f at h;have H:=h;clear h;have cp:=dm H;clear H
 go_enter Try.func50,Try.ntmps50
 go_upto_region 1 with(first|((with_reducible refine kI 1 rfl ?_);refine lu #[.int .i64 ac,.slice aM aa.length aG] 31 ?_;intro aw hg w3 jV hb;have ai:=dm (jV);have d7:=dm (ky:w.heap.size<=aw);have d8:=dm (ky:w.heap.size<=aw);replace HB:=kg HB hb;clear hb jV hg))
 (try simp only [Act.put,List.setIfInBounds_toArray,List.set_cons_zero,List.set_cons_succ])
 go_cut [12] (fun dM wc=>∃ (kq:Nat) (bC:Bool),dM=.bool bC/\jP (nH.j0 kq bC ac aa=some r)/\jP (kq<=k)/\jP (wc.heap[aw]? =some (.cells #[.int .i64 ac,(.slice aM aa.length aG)] 31 (0,0)))/\jP (Below w.heap.size w wc))
 case first=>
  have H:=cp.out;clear cp
  replace H:=mf H;rcases H with⟨aY,H⟩|⟨aY,H⟩
  ·(first|rw[aY]|(simp only [mJ,nz];rw[aY])|skip);have H':=dm H;clear H;have⟨cq,cr,ct,cu⟩:=kr (w:=w3) ai
   go_wp2
   go_meet
   case rel=>exact⟨_,(true),(kD),H',⟨by first|omega|exact Nat.le_refl _⟩,⟨jZ ai.out⟩,⟨jT HB.out⟩⟩
  (first|rw[aY]|(simp only [mJ,nz];rw[aY])|skip);have H':=dm H;clear H;have⟨cv,cw,cx,cy⟩:=kr (w:=w3) ai
  go_wp2
  go_meet
  case rel=>exact⟨_,(decide (ac>8)),(kD),H',⟨by first|omega|exact Nat.le_refl _⟩,⟨jZ ai.out⟩,⟨jT HB.out⟩⟩
 case rest=>
  clear cp;obtain⟨kq,bC,rfl,HA,cO,ai,HB⟩:=hcut;cases kq with
  |zero=>exact absurd HA.out (by simp[nH.j0])
  |succ cz=>
   have H:=HA.out;clear HA;simp only [nH.j0]at H
   rcases mr H with⟨h_,H_⟩|⟨h_,H_⟩<;> (subst h_;clear H;have H:=H_;clear H_)
   ·obtain rfl:=Option.some.inj H
    go_wp2
    go_ret
    exact⟨nN,jT HB.out⟩
   have H':=dm H;clear H;have⟨bY,bZ,b3,b4⟩:=kr (w:=wc) ai
   go_wp2
   go_loopg [16] cz (fun kq dN w'=>∃ (ae:Int),dN=.int .i64 ae/\jP (nH.l0 kq aa (aa.length:Int) ae ac aa=some r)/\jP (kq<=cz)/\jP (w'.heap[aw]? =some (.cells #[.int .i64 ac,(.slice aM aa.length aG)] 31 (0,0)))/\jP (Below w.heap.size w w'))
   case atStart=>exact⟨(0),(kD),H',⟨Nat.le_refl _⟩,⟨jZ ai.out⟩,⟨jT HB.out⟩⟩
   case round=>
    clear H';(try clear c7 bY bZ b3 b4);obtain⟨ae,rfl,HA,cP,ai,HB⟩:=hrel;cases gk with
    |zero=>exact absurd HA.out (by simp[nH.l0])
    |succ k2=>
     have H:=HA.out;clear HA;simp only [nH.l0]at H
     replace H:=mf H;rcases H with⟨b9,H⟩|⟨b9,H⟩
     ·skip
      obtain⟨d9,H⟩:=lh H
      obtain⟨d_,H⟩:=lh H
      replace H:=mf H;rcases H with⟨cE,H⟩|⟨cE,H⟩
      ·obtain rfl:=Option.some.inj H;have aE:0<=(ae:Int):=jX;have aF:ae<(aa.length:Int):=jX;obtain⟨bq,bn,aq,au⟩:=ng aZ.out ae aE aF;cases bn;replace aq:=ko HB aq;replace au:=ko HB au;replace aE:=eq_true aE;replace aF:=eq_true aF
       go_wp2_with (first|((with_reducible refine kI 4 rfl ?_);refine lu #[.int .i64 0,.int .i64 0] 59 ?_;intro al hg dO jV hb;have a4:=dm (jV);have bR:=dm (ky:w.heap.size<=al);have bS:=dm (ky:w.heap.size<=al);replace HB:=kg HB hb;have ao:=dm (yZ:aw≠al);have ay:=dm (za:al≠aw);replace ai:=jU ai hb;clear hb jV hg;have ea:=ay.out;have eb:=ao.out;have⟨dc,dd,de,df⟩:=kr (w:=dO) a4))
       go_ret
       exact⟨nN,jT HB.out⟩
      skip
      replace H:=mf H;rcases H with⟨cF,H⟩|⟨cF,H⟩
      ·obtain rfl:=Option.some.inj H;have aE:0<=(ae:Int):=jX;have aF:ae<(aa.length:Int):=jX;obtain⟨bq,bn,aq,au⟩:=ng aZ.out ae aE aF;cases bn;replace aq:=ko HB aq;replace au:=ko HB au;replace aE:=eq_true aE;replace aF:=eq_true aF
       go_wp2_with (first|((with_reducible refine kI 4 rfl ?_);refine lu #[.int .i64 0,.int .i64 0] 59 ?_;intro al hg dP jV hb;have a4:=dm (jV);have bR:=dm (ky:w.heap.size<=al);have bS:=dm (ky:w.heap.size<=al);replace HB:=kg HB hb;have ao:=dm (yZ:aw≠al);have ay:=dm (za:al≠aw);replace ai:=jU ai hb;clear hb jV hg;have ec:=ay.out;have ed:=ao.out;have⟨dg,dh,di,dj⟩:=kr (w:=dP) a4))
       go_ret
       exact⟨nN,jT HB.out⟩
      skip
      replace H:=mf H;rcases H with⟨cG,H⟩|⟨cG,H⟩
      ·obtain rfl:=Option.some.inj H;have aE:0<=(ae:Int):=jX;have aF:ae<(aa.length:Int):=jX;obtain⟨bq,bn,aq,au⟩:=ng aZ.out ae aE aF;cases bn;replace aq:=ko HB aq;replace au:=ko HB au;replace aE:=eq_true aE;replace aF:=eq_true aF
       go_wp2_with (first|((with_reducible refine kI 4 rfl ?_);refine lu #[.int .i64 0,.int .i64 0] 59 ?_;intro al hg cQ jV hb;have a4:=dm (jV);have bR:=dm (ky:w.heap.size<=al);have bS:=dm (ky:w.heap.size<=al);replace HB:=kg HB hb;have ao:=dm (yZ:aw≠al);have ay:=dm (za:al≠aw);replace ai:=jU ai hb;clear hb jV hg;have ee:=ay.out;have ef:=ao.out;have⟨dk,dl,dn,dq⟩:=kr (w:=cQ) a4;have⟨dr,dt,du,dv⟩:=kr (w:=cQ) ai))
       go_ret
       exact⟨nN,jT HB.out⟩
      have H':=dm H;clear H;have aE:0<=(ae:Int):=jX;have aF:ae<(aa.length:Int):=jX;obtain⟨bq,bn,aq,au⟩:=ng aZ.out ae aE aF;cases bn;replace aq:=ko HB aq;replace au:=ko HB au;replace aE:=eq_true aE;replace aF:=eq_true aF
      go_wp2_with (first|((with_reducible refine kI 4 rfl ?_);refine lu #[.int .i64 0,.int .i64 0] 59 ?_;intro al hg cS jV hb;have a4:=dm (jV);have bR:=dm (ky:w.heap.size<=al);have bS:=dm (ky:w.heap.size<=al);replace HB:=kg HB hb;have ao:=dm (yZ:aw≠al);have ay:=dm (za:al≠aw);replace ai:=jU ai hb;clear hb jV hg;have eg:=ay.out;have eh:=ao.out;have⟨dw,dx,dy,dz⟩:=kr (w:=cS) a4;have⟨dA,dB,dC,dD⟩:=kr (w:=cS) ai))
      go_roundg k2
      case measure=>have:=cO.out;have:=cP.out;omega
      case rel=>exact⟨(wrap64 (ae+1)),(kD),H',⟨by have:=cO.out;have:=cP.out;omega⟩,⟨lM ai.out⟩,⟨jT HB.out⟩⟩
     obtain⟨bP,dQ,H⟩:=kW H;(try dsimp only at H);obtain rfl:=Option.some.inj H;have⟨dE,dF,dG,dH⟩:=kr (w:=wr) ai
     go_wp2_with (first|((with_reducible refine kY 88 rfl ?_);refine oF 40 rfl Try.func88 (nO.calls (kE (lq aZ.out HB.out)) bQ.out dQ.out) ?_;intro ex hb;replace ai:=jU ai hb;replace HB:=kg HB hb;(try clear hb)))
     go_ret
     exact⟨nN,jT HB.out⟩
def qI.f (a0:Int) (a1:Int):Option (Int×Int):=some (mn a0 a1,mx a0 a1)
theorem qI.calls {a0:Int}{a1:Int}{r1:Int}{r2:Int}{w:World}(h:qI.f a0 a1=some (r1,r2)):
  Calls Try.prog 53 #[.int .i64 a0,.int .i64 a1] w fun e w'=>e=.returned (.agg #[.int .i64 r1,.int .i64 r2])/\Below w.heap.size w w':=by
 have bF:=Try.underlying59;have HB:=dm (Below.refl w.heap.size w);unfold qI.f at h;have H:=h;clear h;obtain⟨aj,aQ⟩:∃j_:Int,(mn a0 a1)=j_:=⟨_,rfl⟩;replace H:(some (aj,mx a0 a1))=some (r1,r2):=by first|(rw[aQ]at H;exact H)|(simp only [aQ]at H⊢;exact H)
 have ei:(if a1<a0 then a1 else a0)=aj:=aQ;obtain⟨cA,bT⟩:∃j_:Int,(mx a0 a1)=j_:=⟨_,rfl⟩;replace H:(some (aj,cA))=some (r1,r2):=by first|(rw[bT]at H;exact H)|(simp only [bT]at H⊢;exact H)
 have ej:(if a0<a1 then a1 else a0)=cA:=bT;simp only [Option.some.injEq,Prod.mk.injEq]at H;obtain⟨rfl,rfl⟩:=H
 go_enter Try.func53,Try.ntmps53
 go_wp2_with (first|((with_reducible refine kI 4 rfl ?_);refine lu #[.int .i64 0,.int .i64 0] 59 ?_;intro bU hg w5 jV hb;have ci:=dm (jV);have ek:=dm (ky:w.heap.size<=bU);have el:=dm (ky:w.heap.size<=bU);replace HB:=kg HB hb;clear hb jV hg;have⟨cv,cw,cx,cy⟩:=kr (w:=w5) ci))
 refine bodyPost_ret (results_cell_row rfl _ _ bU 59 #[.int .i64 aj,.int .i64 cA] (0,0) _ rfl (lM ci.out) Try.underlying59 rfl (kR)) rfl ?_;exact⟨by first|rfl|(simp[oV,oW]<;>rfl)|(simp only [←aQ,←bT];first|rfl|(simp[oV,oW]<;>rfl))|(simp[*,oV,oW]<;>rfl),jT HB.out⟩
def o7.l0:Nat->List (S59)->Int->Int->Int->Int->Option (Int)
 |0,_,_,_,_,_=>none
 |k+1,x0,x7,x8,bL,bM=>if x8<x7 then(if 0<=x8 then(if x8<(x0.length:Int) then(if(bL==((jQ x0 x8).f0)&&(bM==((jQ x0 x8).f1)))=true then(some x8) else(o7.l0 k x0 x7 (wrap64 (x8+1)) bL bM)) else(none)) else(none)) else(some (-1))
def o7.f (k:Nat) (l0:List (S59)) (ah:Int) (ag:Int):Option (Int):=o7.l0 k l0 (l0.length:Int) 0 ah ag
theorem o7.pK:∀k,(∀y0 y1 y2 y3 y4,LeO (o7.l0 k y0 y1 y2 y3 y4) (o7.l0 (k+1) y0 y1 y2 y3 y4))
 |0=>fun _ _ _ _ _ r h=>by simp[o7.l0]at h
 |k+1=>by intros;unfold o7.l0;exact qm (o7.pK k)
theorem o7.mono:∀a0 a1 a2 k,LeO (o7.f k a0 a1 a2) (o7.f (k+1) a0 a1 a2):=by intro a0 a1 a2 k;unfold o7.f;exact qm (o7.pK k)
theorem o7.calls {k:Nat}{A0:Option Addr}{c0:Nat}{l0:List (S59)}{ah:Int}{ag:Int}{r:Int}{w:World}(a7:Kd.C k59 w A0 l0.length l0)(a8:l0.length<=c0)(h:o7.f k l0 ah ag=some r):
  Calls Try.prog 111 #[.slice A0 l0.length c0,.agg #[.int .i64 ah,.int .i64 ag]] w fun e w'=>e=.returned (.int .i64 r)/\Below w.heap.size w w':=by
 have bF:=Try.underlying59;have a6:=dm a7;have cf:=dm a8;clear a7 a8;have HB:=dm (Below.refl w.heap.size w);unfold o7.f at h;have H:=h;clear h;have H':=dm H;clear H
 go_enter Try.func111,Try.ntmps111
 go_wp2_with (first|((with_reducible refine kI 3 rfl ?_);refine lu #[.int .i64 ah,.int .i64 ag] 59 ?_;intro aN hg w3 jV hb;have a5:=dm (jV);have cj:=dm (ky:w.heap.size<=aN);have ck:=dm (ky:w.heap.size<=aN);replace HB:=kg HB hb;clear hb jV hg))
 repeat(go_quiet (first|((with_reducible refine kI 3 rfl ?_);refine lu #[.int .i64 ah,.int .i64 ag] 59 ?_;intro aN hg w3 jV hb;have a5:=dm (jV);have cj:=dm (ky:w.heap.size<=aN);have ck:=dm (ky:w.heap.size<=aN);replace HB:=kg HB hb;clear hb jV hg));try go_wp2_with (first|((with_reducible refine kI 3 rfl ?_);refine lu #[.int .i64 ah,.int .i64 ag] 59 ?_;intro aN hg w3 jV hb;have a5:=dm (jV);have cj:=dm (ky:w.heap.size<=aN);have ck:=dm (ky:w.heap.size<=aN);replace HB:=kg HB hb;clear hb jV hg)))
 go_loopg [8] k (fun kq v8 w'=>∃ (ab:Int),v8=.int .i64 ab/\jP (o7.l0 kq l0 (l0.length:Int) ab ah ag=some r)/\jP (kq<=k)/\jP (w'.heap[aN]? =some (.cells #[.int .i64 ah,.int .i64 ag] 59 (0,0)))/\jP (Below w.heap.size w w'))
 case atStart=>exact⟨(0),(kD),H',⟨Nat.le_refl _⟩,⟨jZ a5.out⟩,⟨jT HB.out⟩⟩
 case round=>
  clear H';obtain⟨ab,rfl,HA,bA,a5,HB⟩:=hrel;cases gk with
  |zero=>exact absurd HA.out (by simp[o7.l0])
  |succ k1=>
   have H:=HA.out;clear HA;simp only [o7.l0]at H
   replace H:=mf H;rcases H with⟨aY,H⟩|⟨aY,H⟩
   ·skip
    obtain⟨b6,H⟩:=lh H
    obtain⟨cX,H⟩:=lh H
    by_cases c7:(ah==((jQ l0 ab).f0)&&(ag==((jQ l0 ab).f1)))=true
    ·rw[if_pos c7]at H;have cZ:(ah==((jQ l0 ab).f0)&&(ag==((jQ l0 ab).f1)))=true:=c7;(try(have c_:decide (ah=((jQ l0 ab).f0)&&(ag==((jQ l0 ab).f1)))=true:=by simpa using c7));(try(have db:(ah==((jQ l0 ab).f0)&&(ag==((jQ l0 ab).f1)))=true:=by simpa using c7));clear c7;obtain rfl:=Option.some.inj H;have⟨bY,bZ,b3,b4⟩:=kr (w:=wr) a5;have bo:0<=(ab:Int):=jX;have bp:ab<(l0.length:Int):=jX;obtain⟨cH,ce,aW,aX⟩:=ng a6.out ab bo bp;cases ce;replace aW:=ko HB aW;replace aX:=ko HB aX;replace bo:=eq_true bo;replace bp:=eq_true bp
     go_wp2
     repeat(go_quiet (fail);try go_wp2)
     go_ret
     exact⟨nN,jT HB.out⟩
    rw[if_neg c7]at H;have cZ:(ah==((jQ l0 ab).f0)&&(ag==((jQ l0 ab).f1)))=false:=by simpa using c7
    (try(have c_:decide (ah=((jQ l0 ab).f0)&&(ag==((jQ l0 ab).f1)))=false:=by simpa using c7));(try(have db:(ah==((jQ l0 ab).f0)&&(ag==((jQ l0 ab).f1)))=false:=by simpa using c7));(try(have et:¬ (ah=((jQ l0 ab).f0)&&(ag==((jQ l0 ab).f1))):=by simpa using c7));clear c7;have H':=dm H;clear H;have⟨dR,dS,dT,dU⟩:=kr (w:=wr) a5;have bo:0<=(ab:Int):=jX;have bp:ab<(l0.length:Int):=jX;obtain⟨cH,ce,aW,aX⟩:=ng a6.out ab bo bp;cases ce;replace aW:=ko HB aW;replace aX:=ko HB aX;replace bo:=eq_true bo;replace bp:=eq_true bp
    go_wp2
    repeat(go_quiet (fail);try go_wp2)
    go_roundg k1
    case measure=>have:=bA.out;omega
    case rel=>exact⟨(wrap64 (ab+1)),(kD),H',⟨by have:=bA.out;omega⟩,⟨jZ a5.out⟩,⟨jT HB.out⟩⟩
   obtain rfl:=Option.some.inj H
   go_wp2
   repeat(go_quiet (fail);try go_wp2)
   go_ret
   exact⟨nN,jT HB.out⟩
def r_.f (k:Nat) (l0:List (S59)) (ah:Int) (ag:Int):Option (Bool):=(o7.f k l0 ah ag).bind fun bz=>(some (decide (bz>=0)))
theorem r_.mono:∀a0 a1 a2 k,LeO (r_.f k a0 a1 a2) (r_.f (k+1) a0 a1 a2):=by intros;unfold r_.f;exact qm o7.mono
theorem r_.calls {k:Nat}{A0:Option Addr}{c0:Nat}{l0:List (S59)}{ah:Int}{ag:Int}{r:Bool}{w:World}(a7:Kd.C k59 w A0 l0.length l0)(a8:l0.length<=c0)(h:r_.f k l0 ah ag=some r):
  Calls Try.prog 81 #[.slice A0 l0.length c0,.agg #[.int .i64 ah,.int .i64 ag]] w fun e w'=>e=.returned (.bool r)/\Below w.heap.size w w':=by
 have bF:=Try.underlying59;have a6:=dm a7;have cf:=dm a8;clear a7 a8;have HB:=dm (Below.refl w.heap.size w);unfold r_.f at h;have H:=h;clear h;obtain⟨bz,A3,H⟩:=kW H;(try dsimp only at H);obtain rfl:=Option.some.inj H
 go_enter Try.func81,Try.ntmps81
 go_wp2_with (first|((with_reducible refine kI 3 rfl ?_);refine lu #[.int .i64 ah,.int .i64 ag] 59 ?_;intro cl hg w4 jV hb;have bD:=dm (jV);have em:=dm (ky:w.heap.size<=cl);have en:=dm (ky:w.heap.size<=cl);replace HB:=kg HB hb;clear hb jV hg;have⟨cq,cr,ct,cu⟩:=kr (w:=w4) bD)|((with_reducible refine kY 111 rfl ?_);refine oF 7 rfl Try.func111 (o7.calls (kE (lq a6.out HB.out)) cf.out A3.out) ?_;intro w6 hb;replace bD:=jU bD hb;replace HB:=kg HB hb;(try clear hb)))
 go_ret
 exact⟨nN,jT HB.out⟩
def qp.f (k:Nat) (ac:Int) (aa:List (S59)) (a1:Int) (a2:Int):Option (Bool):=(qI.f a1 a2).bind fun bx=>((r_.f k aa bx.1 bx.2).bind fun a9=>(some a9))
theorem qp.mono:∀a0 a1 a2 a3 k,LeO (qp.f k a0 a1 a2 a3) (qp.f (k+1) a0 a1 a2 a3):=by intros;unfold qp.f;exact qm r_.mono
theorem qp.calls {k:Nat}{ac:Int}{aM:Option Addr}{aG:Nat}{aa:List (S59)}{a1:Int}{a2:Int}{r:Bool}{w:World}(bu:Kd.C k59 w aM aa.length aa)(bv:aa.length<=aG)(h:qp.f k ac aa a1 a2=some r):
  Calls Try.prog 65 #[.agg #[.int .i64 ac,.slice aM aa.length aG],.int .i64 a1,.int .i64 a2] w fun e w'=>e=.returned (.bool r)/\Below w.heap.size w w':=by
 have cY:=Try.underlying31;have aZ:=dm bu;have bQ:=dm bv;clear bu bv;have HB:=dm (Below.refl w.heap.size w);unfold qp.f at h;have H:=h;clear h;obtain⟨⟨bV,bW⟩,A4,H⟩:=kW H;(try dsimp only at H);obtain⟨a9,A5,H⟩:=kW H;(try dsimp only at H);obtain rfl:=Option.some.inj H
 go_enter Try.func65,Try.ntmps65;try go_wp2_with (first|((with_reducible refine kI 3 rfl ?_);refine lu #[.int .i64 ac,.slice aM aa.length aG] 31 ?_;intro bE hg w6 jV hb;have ap:=dm (jV);have eo:=dm (ky:w.heap.size<=bE);have ep:=dm (ky:w.heap.size<=bE);replace HB:=kg HB hb;clear hb jV hg))
 replace ap:=dm (kQ ap.out);replace HB:=dm (ma HB.out);refine uX (n:=7) (S:=fun w'=>w'.cell? ⟨bE,0,none⟩=some (.int .i64 ac)/\w'.cell? ⟨bE,1,none⟩=some (.slice aM aa.length aG)) (ds:=[]) (lm 7 0) (kR) rfl (kR) ⟨jS ap 0,jS ap 1⟩ (fun hHeld=>?_);generalize w6.drew=w7 at ap HB hHeld⊢;refine jR 0 7 1 ?_;refine jR 2 9 5 ?_;refine jR 3 10 13 ?_;refine kJ 1 8 15 ?_;refine qz (i:=4) (N:=some 11) (lm 7 31) rfl rfl (kR) (by decide) (fun K hK=>?_);refine rD Try.func53 (qI.calls A4.out) ?_;intro w8 hb;replace ap:=jU ap hb;replace HB:=kg HB hb;(try clear hb);refine hK.out _ _ ⟨jS ap 0,jS ap 1⟩ (fun hHeld=>?_);clear hK K;refine kP 11 ?_;refine qz (i:=5) (N:=some 12) (lm 7 63) rfl rfl (kR) (by decide) (fun K hK=>?_);refine rD Try.func81 (r_.calls (kE (lq aZ.out HB.out)) bQ.out A5.out) ?_;intro w9 hb;replace ap:=jU ap hb;replace HB:=kg HB hb;(try clear hb);refine hK.out _ _ ⟨jS ap 0,jS ap 1⟩ (fun hHeld=>?_);clear hK K;refine kP 12 ?_;refine jR 6 6 127 ?_;refine mH (kR) ?_;try go_wp2
 go_ret
 exact⟨nN,jT HB.out⟩
theorem Du(h:p:=by(try simp only [List.map_toArray,List.map_cons,List.map_nil]);first|done|(rw[show(l0.take (ag:Int).toNat).length=ag.toNat from(by rw[List.length_take];have h_:(ag:Int)<=(l0.length:Int):=jX;omega)]<;>rfl)|rfl|(simp only [List.length_drop,List.length_take];rfl)):p:=h
theorem Dv(h:p:=by(try simp only [List.map_toArray,List.map_cons,List.map_nil]);first|done|(simp only [aD];rfl)|rfl|(simp only [List.length_drop,List.length_take];rfl)):p:=h
def uo.f (af:Int) (ae:List (S59)) (a1:Int):Option (Bool):=if a1>=0 then(some (decide (a1<af))) else(some false)
theorem uo.calls {af:Int}{aj:Option Addr}{ak:Nat}{ae:List (S59)}{a1:Int}{r:Bool}{w:World}(aQ:Kd.C k59 w aj ae.length ae)(aR:ae.length<=ak)(h:uo.f af ae a1=some r):
  Calls Try.prog 78 #[.agg #[.int .i64 af,.slice aj ae.length ak],.int .i64 a1] w fun e w'=>e=.returned (.bool r)/\Below w.heap.size w w':=by
 have bI:=Try.underlying31;have aA:=dm aQ;have aB:=dm aR;clear aQ aR;have HB:=dm (Below.refl w.heap.size w);unfold uo.f at h;have H:=h;clear h
 replace H:=mf H;rcases H with⟨aU,H⟩|⟨aU,H⟩
 ·obtain rfl:=Option.some.inj H
  go_enter Try.func78,Try.ntmps78
  go_wp2_with (first|((with_reducible refine kI 2 rfl ?_);refine lu #[.int .i64 af,.slice aj ae.length ak] 31 ?_;intro aS hg w4 jV hb;have bj:=dm (jV);have bA:=dm (ky:w.heap.size<=aS);have bB:=dm (ky:w.heap.size<=aS);replace HB:=kg HB hb;clear hb jV hg;have⟨bM,bN,bO,bP⟩:=kr (w:=w4) bj))
  go_ret
  exact⟨nN,jT HB.out⟩
 obtain rfl:=Option.some.inj H
 go_enter Try.func78,Try.ntmps78
 go_wp2_with (first|((with_reducible refine kI 2 rfl ?_);refine lu #[.int .i64 af,.slice aj ae.length ak] 31 ?_;intro aS hg w6 jV hb;have bj:=dm (jV);have bA:=dm (ky:w.heap.size<=aS);have bB:=dm (ky:w.heap.size<=aS);replace HB:=kg HB hb;clear hb jV hg))
 go_ret
 exact⟨nN,jT HB.out⟩
def nC.l0:Nat->List Int->List Int->Int->Int->Int->List (S59)->Option (Bool)
 |0,_,_,_,_,_,_=>none
 |k+1,x1,x7,x8,x9,aE,aF=>if x9<x8 then(if 0<=x9 then(if x9<(x7.length:Int) then((uo.f aE aF (rd x7 x9)).bind fun a3=>(if a3=true then(if x9>0 then(if 0<=(wrap64 (x9 - 1)) then(if(wrap64 (x9 - 1))<(x1.length:Int) then((qp.f k aE aF (rd x1 (wrap64 (x9 - 1))) (rd x7 x9)).bind fun ay=>(if ay=true then(nC.l0 k x1 x7 x8 (wrap64 (x9+1)) aE aF) else(some false))) else(none)) else(none)) else(nC.l0 k x1 x7 x8 (wrap64 (x9+1)) aE aF)) else(some false))) else(none)) else(none)) else(some true)
def nC.f (k:Nat) (af:Int) (ae:List (S59)) (l1:List Int):Option (Bool):=nC.l0 k l1 l1 (l1.length:Int) 0 af ae
theorem nC.pK:∀k,(∀y0 y1 y2 y3 y4 y5,LeO (nC.l0 k y0 y1 y2 y3 y4 y5) (nC.l0 (k+1) y0 y1 y2 y3 y4 y5))
 |0=>fun _ _ _ _ _ _ r h=>by simp[nC.l0]at h
 |k+1=>by intros;unfold nC.l0;exact qm (nC.pK k) qp.mono
theorem nC.mono:∀a0 a1 a2 k,LeO (nC.f k a0 a1 a2) (nC.f (k+1) a0 a1 a2):=by intro a0 a1 a2 k;unfold nC.f;exact qm (nC.pK k) qp.mono
def nC.T4:Bool×List (List Nat×List Nat):=(true,[([],[]),([],[]),([0,1],[0,1]),([2],[2]),([3,2],[3]),([4],[4]),([5,4],[4,5]),([6,4,4],[4,6]),([7],[7]),([7],[7]),([7],[7]),([10,7],[7,10]),([9,11,7],[7,9,11]),([12,7],[7,12]),([7],[7]),([8,13,14,7,7],[7,8,13,14]),([15,7],[7,15]),([7,16,4],[4,7,16]),([4,17],[4,17])])
def nC.B4:List Nat:=[0,0,3,7,15,31,63,127,255,255,255,1279,3839,7935,255,32767,65535,131071,262143]
theorem nC.uy:mR .any (opsOf Try.f51 4)=nC.T4:=by kernel_rfl
theorem nC.ug:nS nC.T4.2 nC.B4=true:=by kernel_rfl
theorem nC.calls {k:Nat}{af:Int}{aj:Option Addr}{ak:Nat}{ae:List (S59)}{A1:Option Addr}{c1:Nat}{l1:List Int}{r:Bool}{w:World}(aQ:Kd.C k59 w aj ae.length ae)(aR:ae.length<=ak)(hr1:Kd.C (Kd.int .i64) w A1 l1.length l1)(bE:l1.length<=c1)(h:nC.f k af ae l1=some r):
  Calls Try.prog 51 #[.agg #[.int .i64 af,.slice aj ae.length ak],.slice A1 l1.length c1] w fun e w'=>e=.returned (.bool r)/\Below w.heap.size w w':=by
 have bI:=Try.underlying31;have aA:=dm aQ;have aB:=dm aR;clear aQ aR;have aZ:=dm hr1;have bZ:=dm bE;clear hr1 bE;have HB:=dm (Below.refl w.heap.size w);unfold nC.f at h;have H:=h;clear h;have H':=dm H;clear H
 go_enter Try.func51,Try.ntmps51
 go_wp2_with (first|((with_reducible refine kI 2 rfl ?_);refine lu #[.int .i64 af,.slice aj ae.length ak] 31 ?_;intro aq hg w3 jV hb;have aa:=dm (jV);have bS:=dm (ky:w.heap.size<=aq);have bT:=dm (ky:w.heap.size<=aq);replace HB:=kg HB hb;clear hb jV hg))
 go_loopg [9] k (fun kq v9 w'=>∃ (ab:Int),v9=.int .i64 ab/\jP (nC.l0 kq l1 l1 (l1.length:Int) ab af ae=some r)/\jP (kq<=k)/\jP (w'.heap[aq]? =some (.cells #[.int .i64 af,(.slice aj ae.length ak)] 31 (0,0)))/\jP (Below w.heap.size w w'))
 case atStart=>exact⟨(0),(kD),H',⟨Nat.le_refl _⟩,⟨jZ aa.out⟩,⟨jT HB.out⟩⟩
 case round=>
  clear H';obtain⟨ab,rfl,HA,az,aa,HB⟩:=hrel;cases gk with
  |zero=>exact absurd HA.out (by simp[nC.l0])
  |succ k1=>
   have H:=HA.out;clear HA;simp only [nC.l0]at H
   replace H:=mf H;rcases H with⟨a4,H⟩|⟨a4,H⟩
   ·skip
    obtain⟨a_,H⟩:=lh H
    obtain⟨aY,H⟩:=lh H;obtain⟨a3,A7,H⟩:=kW H;(try dsimp only at H)
    rcases mr H with⟨h_,H_⟩|⟨h_,H_⟩<;> (subst h_;clear H;have H:=H_;clear H_)
    ·skip
     replace H:=mf H;rcases H with⟨bJ,H⟩|⟨bJ,H⟩
     ·obtain⟨ah,aD⟩:∃j_:Int,(wrap64 (ab - 1))=j_:=⟨_,rfl⟩;replace H:(if 0<=(ah) then(if(ah)<(l1.length:Int) then((qp.f k1 af ae (rd l1 (ah)) (rd l1 ab)).bind fun ay=>(if ay=true then(nC.l0 k1 l1 l1 (l1.length:Int) (wrap64 (ab+1)) af ae) else(some false))) else(none)) else(none))=some r:=by first|(rw[aD]at H;exact H)|(simp only [aD]at H⊢;exact H)
      (try rw[aD]at A7);have bQ:(IntKind.i64.wrap (ab - 1))=ah:=(mJ _).trans aD
      obtain⟨bU,H⟩:=lh H
      obtain⟨bV,H⟩:=lh H;obtain⟨ay,bF,H⟩:=kW H;(try dsimp only at H)
      rcases mr H with⟨h_,H_⟩|⟨h_,H_⟩<;> (subst h_;clear H;have H:=H_;clear H_)
      ·have H':=dm H;clear H;have ao:0<=(ab:Int):=jX;have ap:ab<(l1.length:Int):=jX;obtain⟨aC,aG,ai⟩:=lC aZ.out ab ao ap;cases aG;replace ai:=ko HB ai;replace ao:=eq_true ao;replace ap:=eq_true ap;try go_wp2
       replace aa:=dm (kQ aa.out);replace HB:=dm (ma HB.out);have aH:0<=((ah):Int):=jX;have aI:(ah)<(l1.length:Int):=jX;obtain⟨a5,ba,am⟩:=lC aZ.out (ah) aH aI;have au:=am;obtain rfl:aC=a5:=(by injection ba);replace am:=ko HB am;replace aH:=eq_true aH;replace aI:=eq_true aI;refine mZ 19 (S:=fun w'=>w'.cell? ⟨aq,0,none⟩=some (.int .i64 af)/\w'.cell? ⟨aq,1,none⟩=some (.slice aj ae.length ak)/\w'.cell? (aC.add ((ah)).toNat)=some (.int .i64 (rd l1 (ah)))) [] ⟨jS aa 0,jS aa 1,(ko HB au)⟩ nC.uy nC.ug (fun hHeld HT_ HW_=>?_);generalize wr.drew=b3 at aa HB am hHeld⊢;refine jR 1 15 2 ?_;refine kJ 0 14 3 ?_;refine lD 2 16 7 (fun K hK=>?_);refine rD Try.func78 (uo.calls (kE (lq aA.out HB.out)) aB.out A7.out) ?_;intro b4 hb;replace aa:=jU aa hb;replace HB:=kg HB hb;(try clear hb);refine hK.out _ _ ⟨jS aa 0,jS aa 1,(ko HB au)⟩ (fun hHeld=>?_);clear hK K;refine kP 16 ?_;refine jR 3 17 15 ?_;refine jR 4 18 31 ?_;refine jR 5 19 63 ?_;refine jR 6 20 127 ?_;refine jR 7 21 255 ?_;refine jR 9 23 767 ?_;refine jR 10 24 1791 ?_;refine jR 11 25 3839 ?_;refine jR 12 26 7935 ?_;refine jR 14 28 24319 ?_;refine kJ 8 22 24575 ?_;refine kJ 13 27 32767 ?_;refine lD 15 29 65535 (fun K hK=>?_);refine qg Try.func65 (kR) rfl #[.agg #[.int .i64 af,.slice aj ae.length ak],.int .i64 (rd l1 (ah)),.int .i64 (rd l1 ab)] (by rfl) rfl rfl (Dv) ?_;refine(qp.calls (kE (lq aA.out HB.out)) aB.out bF.out).mono ?_;rintro e b5 ⟨rfl,hb⟩;refine⟨_,rfl,?_⟩;replace aa:=jU aa hb;replace HB:=kg HB hb;(try clear hb);refine hK.out _ _ ⟨jS aa 0,jS aa 1,(ko HB au)⟩ (fun hHeld=>?_);clear hK K;refine kP 29 ?_;refine jR 16 30 131071 ?_;refine jR 17 31 262143 ?_;refine jR 18 32 524287 ?_;refine mH (mP HT_.out (kR)) ?_;try go_wp2
       go_roundg k1
       case measure=>have:=az.out;omega
       case rel=>exact⟨(wrap64 (ab+1)),(kD),H',⟨by have:=az.out;omega⟩,⟨jZ aa.out⟩,⟨jT HB.out⟩⟩
      obtain rfl:=Option.some.inj H;have ao:0<=(ab:Int):=jX;have ap:ab<(l1.length:Int):=jX;obtain⟨aC,aG,ai⟩:=lC aZ.out ab ao ap;cases aG;replace ai:=ko HB ai;replace ao:=eq_true ao;replace ap:=eq_true ap;try go_wp2
      replace aa:=dm (kQ aa.out);replace HB:=dm (ma HB.out);have aH:0<=((ah):Int):=jX;have aI:(ah)<(l1.length:Int):=jX;obtain⟨a5,ba,am⟩:=lC aZ.out (ah) aH aI;have au:=am;obtain rfl:aC=a5:=(by injection ba);replace am:=ko HB am;replace aH:=eq_true aH;replace aI:=eq_true aI;refine mZ 19 (S:=fun w'=>w'.cell? ⟨aq,0,none⟩=some (.int .i64 af)/\w'.cell? ⟨aq,1,none⟩=some (.slice aj ae.length ak)/\w'.cell? (aC.add ((ah)).toNat)=some (.int .i64 (rd l1 (ah)))) [] ⟨jS aa 0,jS aa 1,(ko HB au)⟩ nC.uy nC.ug (fun hHeld HT_ HW_=>?_);generalize wr.drew=b6 at aa HB am hHeld⊢;refine jR 1 15 2 ?_;refine kJ 0 14 3 ?_;refine lD 2 16 7 (fun K hK=>?_);refine rD Try.func78 (uo.calls (kE (lq aA.out HB.out)) aB.out A7.out) ?_;intro b7 hb;replace aa:=jU aa hb;replace HB:=kg HB hb;(try clear hb);refine hK.out _ _ ⟨jS aa 0,jS aa 1,(ko HB au)⟩ (fun hHeld=>?_);clear hK K;refine kP 16 ?_;refine jR 3 17 15 ?_;refine jR 4 18 31 ?_;refine jR 5 19 63 ?_;refine jR 6 20 127 ?_;refine jR 7 21 255 ?_;refine jR 9 23 767 ?_;refine jR 10 24 1791 ?_;refine jR 11 25 3839 ?_;refine jR 12 26 7935 ?_;refine jR 14 28 24319 ?_;refine kJ 8 22 24575 ?_;refine kJ 13 27 32767 ?_;refine lD 15 29 65535 (fun K hK=>?_);refine qg Try.func65 (kR) rfl #[.agg #[.int .i64 af,.slice aj ae.length ak],.int .i64 (rd l1 (ah)),.int .i64 (rd l1 ab)] (by rfl) rfl rfl (Dv) ?_;refine(qp.calls (kE (lq aA.out HB.out)) aB.out bF.out).mono ?_;rintro e b8 ⟨rfl,hb⟩;refine⟨_,rfl,?_⟩;replace aa:=jU aa hb;replace HB:=kg HB hb;(try clear hb);refine hK.out _ _ ⟨jS aa 0,jS aa 1,(ko HB au)⟩ (fun hHeld=>?_);clear hK K;refine kP 29 ?_;refine jR 16 30 131071 ?_;refine jR 17 31 262143 ?_;refine jR 18 32 524287 ?_;refine mH (mP HT_.out (kR)) ?_;try go_wp2
      go_ret
      exact⟨by first|rfl|(simp[oV,oW]<;>rfl)|(simp only [←aD];first|rfl|(simp[oV,oW]<;>rfl))|(simp[*,oV,oW]<;>rfl),jT HB.out⟩
     have H':=dm H;clear H;have ao:0<=(ab:Int):=jX;have ap:ab<(l1.length:Int):=jX;obtain⟨aC,aG,ai⟩:=lC aZ.out ab ao ap;cases aG;replace ai:=ko HB ai;replace ao:=eq_true ao;replace ap:=eq_true ap;try go_wp2
     replace aa:=dm (kQ aa.out);replace HB:=dm (ma HB.out);refine mZ 19 (S:=fun w'=>w'.cell? ⟨aq,0,none⟩=some (.int .i64 af)/\w'.cell? ⟨aq,1,none⟩=some (.slice aj ae.length ak)) [] ⟨jS aa 0,jS aa 1⟩ nC.uy nC.ug (fun hHeld HT_ HW_=>?_);generalize wr.drew=b9 at aa HB hHeld⊢;refine jR 1 15 2 ?_;refine kJ 0 14 3 ?_;refine lD 2 16 7 (fun K hK=>?_);refine rD Try.func78 (uo.calls (kE (lq aA.out HB.out)) aB.out A7.out) ?_;intro b_ hb;replace aa:=jU aa hb;replace HB:=kg HB hb;(try clear hb);refine hK.out _ _ ⟨jS aa 0,jS aa 1⟩ (fun hHeld=>?_);clear hK K;refine kP 16 ?_;refine jR 3 17 15 ?_;refine jR 4 18 31 ?_;refine jR 5 19 63 ?_;refine jR 6 20 127 ?_;refine jR 7 21 255 ?_;refine l6 8 22 511 ?_;refine l6 9 23 1023 ?_;refine l6 10 24 2047 ?_;refine l6 11 25 4095 ?_;refine l6 12 26 8191 ?_;refine l6 13 27 16383 ?_;refine l6 14 28 32767 ?_;refine l6 15 29 65535 ?_;refine l6 16 30 131071 ?_;refine jR 17 31 262143 ?_;refine jR 18 32 524287 ?_;refine mH (mP HT_.out (kR)) ?_;try go_wp2
     go_roundg k1
     case measure=>have:=az.out;omega
     case rel=>exact⟨(wrap64 (ab+1)),(kD),H',⟨by have:=az.out;omega⟩,⟨jZ aa.out⟩,⟨jT HB.out⟩⟩
    obtain rfl:=Option.some.inj H;have ao:0<=(ab:Int):=jX;have ap:ab<(l1.length:Int):=jX;obtain⟨aC,aG,ai⟩:=lC aZ.out ab ao ap;cases aG;replace ai:=ko HB ai;replace ao:=eq_true ao;replace ap:=eq_true ap;try go_wp2
    replace aa:=dm (kQ aa.out);replace HB:=dm (ma HB.out);refine mZ 19 (S:=fun w'=>w'.cell? ⟨aq,0,none⟩=some (.int .i64 af)/\w'.cell? ⟨aq,1,none⟩=some (.slice aj ae.length ak)) [] ⟨jS aa 0,jS aa 1⟩ nC.uy nC.ug (fun hHeld HT_ HW_=>?_);generalize wr.drew=ca at aa HB hHeld⊢;refine jR 1 15 2 ?_;refine kJ 0 14 3 ?_;refine lD 2 16 7 (fun K hK=>?_);refine rD Try.func78 (uo.calls (kE (lq aA.out HB.out)) aB.out A7.out) ?_;intro cd hb;replace aa:=jU aa hb;replace HB:=kg HB hb;(try clear hb);refine hK.out _ _ ⟨jS aa 0,jS aa 1⟩ (fun hHeld=>?_);clear hK K;refine kP 16 ?_;refine jR 3 17 15 ?_;refine jR 4 18 31 ?_;refine l6 5 19 63 ?_;refine l6 6 20 127 ?_;refine l6 7 21 255 ?_;refine l6 8 22 511 ?_;refine l6 9 23 1023 ?_;refine l6 10 24 2047 ?_;refine l6 11 25 4095 ?_;refine l6 12 26 8191 ?_;refine l6 13 27 16383 ?_;refine l6 14 28 32767 ?_;refine l6 15 29 65535 ?_;refine l6 16 30 131071 ?_;refine l6 17 31 262143 ?_;refine jR 18 32 524287 ?_;refine mH (mP HT_.out (kR)) ?_;try go_wp2
    go_ret
    exact⟨nN,jT HB.out⟩
   obtain rfl:=Option.some.inj H
   go_wp2
   go_ret
   exact⟨nN,jT HB.out⟩
def o8.l0:Nat->List Int->Int->Int->Int->Option (Int)
 |0,_,_,_,_=>none
 |k+1,x0,x1,x7,x8=>if x8<x7 then(if 0<=x8 then(if x8<(x0.length:Int) then(if x1=(rd x0 x8) then(some x8) else(o8.l0 k x0 x1 x7 (wrap64 (x8+1)))) else(none)) else(none)) else(some (-1))
def o8.f (k:Nat) (l0:List Int) (a1:Int):Option (Int):=o8.l0 k l0 a1 (l0.length:Int) 0
theorem o8.pK:∀k,(∀y0 y1 y2 y3,LeO (o8.l0 k y0 y1 y2 y3) (o8.l0 (k+1) y0 y1 y2 y3))
 |0=>fun _ _ _ _ r h=>by simp[o8.l0]at h
 |k+1=>by intros;unfold o8.l0;exact qm (o8.pK k)
theorem o8.mono:∀a0 a1 k,LeO (o8.f k a0 a1) (o8.f (k+1) a0 a1):=by intro a0 a1 k;unfold o8.f;exact qm (o8.pK k)
theorem o8.calls {k:Nat}{A0:Option Addr}{c0:Nat}{l0:List Int}{a1:Int}{r:Int}{w:World}(av:Kd.C (Kd.int .i64) w A0 l0.length l0)(aw:l0.length<=c0)(h:o8.f k l0 a1=some r):
  Calls Try.prog 114 #[.slice A0 l0.length c0,.int .i64 a1] w fun e w'=>e=.returned (.int .i64 r)/\kX w w':=by
 have ax:=dm av;have aX:=dm aw;clear av aw;unfold o8.f at h;have H:=h;clear h;have H':=dm H;clear H
 go_enter Try.func114,Try.ntmps114
 go_wp2
 go_loopg [8] k (fun kq v8 w'=>∃ (ac:Int),v8=.int .i64 ac/\jP (o8.l0 kq l0 a1 (l0.length:Int) ac=some r)/\jP (kq<=k)/\kX w w')
 case atStart=>exact⟨(0),(kD),H',⟨Nat.le_refl _⟩,by repeat(first|exact kX.refl _|apply kX.step)⟩
 case round=>
  clear H';obtain⟨ac,rfl,HA,az,⟨m1,rfl⟩⟩:=hrel;cases gk with
  |zero=>exact absurd HA.out (by simp[o8.l0])
  |succ k1=>
   have H:=HA.out;clear HA;simp only [o8.l0]at H
   replace H:=mf H;rcases H with⟨aU,H⟩|⟨aU,H⟩
   ·skip
    obtain⟨a4,H⟩:=lh H
    obtain⟨a_,H⟩:=lh H
    by_cases c6:a1=(rd l0 ac)
    ·rw[if_pos c6]at H;have aY:=beq_iff_eq.mpr c6;have a6:=bne_eq_false_iff_eq.mpr c6;clear c6;obtain rfl:=Option.some.inj H;have aK:0<=(ac:Int):=jX;have aL:ac<(l0.length:Int):=jX;obtain⟨bC,bd,bp⟩:=lC ax.out ac aK aL;cases bd;replace aK:=eq_true aK;replace aL:=eq_true aL
     go_wp2
     go_ret
     exact⟨kD,by repeat(first|exact kX.refl _|apply kX.step)⟩
    rw[if_neg c6]at H;have aY:=beq_eq_false_iff_ne.mpr c6;have a6:=bne_iff_ne.mpr c6;have H':=dm H;clear H;have aK:0<=(ac:Int):=jX;have aL:ac<(l0.length:Int):=jX;obtain⟨bC,bd,bp⟩:=lC ax.out ac aK aL;cases bd;replace aK:=eq_true aK;replace aL:=eq_true aL
    go_wp2
    go_roundg k1
    case measure=>have:=az.out;omega
    case rel=>exact⟨(wrap64 (ac+1)),(kD),H',⟨by have:=az.out;omega⟩,by repeat(first|exact kX.refl _|apply kX.step)⟩
   obtain rfl:=Option.some.inj H
   go_wp2
   go_ret
   exact⟨kD,by repeat(first|exact kX.refl _|apply kX.step)⟩
def rG.f (k:Nat) (l0:List Int) (a1:Int):Option (Bool):=(o8.f k l0 a1).bind fun aV=>(some (decide (aV>=0)))
theorem rG.mono:∀a0 a1 k,LeO (rG.f k a0 a1) (rG.f (k+1) a0 a1):=by intros;unfold rG.f;exact qm o8.mono
theorem rG.calls {k:Nat}{A0:Option Addr}{c0:Nat}{l0:List Int}{a1:Int}{r:Bool}{w:World}(av:Kd.C (Kd.int .i64) w A0 l0.length l0)(aw:l0.length<=c0)(h:rG.f k l0 a1=some r):
  Calls Try.prog 89 #[.slice A0 l0.length c0,.int .i64 a1] w fun e w'=>e=.returned (.bool r)/\kX w w':=by
 have ax:=dm av;have aX:=dm aw;clear av aw;unfold rG.f at h;have H:=h;clear h;obtain⟨aV,A3,H⟩:=kW H;(try dsimp only at H);obtain rfl:=Option.some.inj H
 go_enter Try.func89,Try.ntmps89
 go_wp2_with (first|((with_reducible refine kY 114 rfl ?_);refine lH 7 rfl Try.func114 (o8.calls (kE ax.out) aX.out A3.out) ?_;rintro e w' ⟨rfl,⟨nd,rfl⟩⟩;refine⟨_,rfl,?_⟩))
 go_ret
 exact⟨kD,by repeat(first|exact kX.refl _|apply kX.step)⟩
def oI.l0:Nat->List Int->List Int->Int->Int->Option (Bool)
 |0,_,_,_,_=>none
 |k+1,x0,x5,x6,x7=>if x7<x6 then(if 0<=x7 then(if x7<(x5.length:Int) then(if x7<=(x0.length:Int) then((rG.f k (x0.take (x7:Int).toNat) (rd x5 x7)).bind fun a7=>(if a7=true then(some false) else(oI.l0 k x0 x5 x6 (wrap64 (x7+1))))) else(none)) else(none)) else(none)) else(some true)
def oI.f (k:Nat) (l0:List Int):Option (Bool):=oI.l0 k l0 l0 (l0.length:Int) 0
theorem oI.pK:∀k,(∀y0 y1 y2 y3,LeO (oI.l0 k y0 y1 y2 y3) (oI.l0 (k+1) y0 y1 y2 y3))
 |0=>fun _ _ _ _ r h=>by simp[oI.l0]at h
 |k+1=>by intros;unfold oI.l0;exact qm (oI.pK k) rG.mono
theorem oI.mono:∀a0 k,LeO (oI.f k a0) (oI.f (k+1) a0):=by intro a0 k;unfold oI.f;exact qm (oI.pK k) rG.mono
theorem oI.calls {k:Nat}{A0:Option Addr}{c0:Nat}{l0:List Int}{r:Bool}{w:World}(av:Kd.C (Kd.int .i64) w A0 l0.length l0)(aw:l0.length<=c0)(h:oI.f k l0=some r):
  Calls Try.prog 52 #[.slice A0 l0.length c0] w fun e w'=>e=.returned (.bool r)/\kX w w':=by
 have ax:=dm av;have aX:=dm aw;clear av aw;unfold oI.f at h;have H:=h;clear h;have H':=dm H;clear H
 go_enter Try.func52,Try.ntmps52
 go_wp2
 go_loopg [7] k (fun kq v7 w'=>∃ (ag:Int),v7=.int .i64 ag/\jP (oI.l0 kq l0 l0 (l0.length:Int) ag=some r)/\jP (kq<=k)/\kX w w')
 case atStart=>exact⟨(0),(kD),H',⟨Nat.le_refl _⟩,by repeat(first|exact kX.refl _|apply kX.step)⟩
 case round=>
  clear H';obtain⟨ag,rfl,HA,az,⟨m1,rfl⟩⟩:=hrel;cases gk with
  |zero=>exact absurd HA.out (by simp[oI.l0])
  |succ k1=>
   have H:=HA.out;clear HA;simp only [oI.l0]at H
   replace H:=mf H;rcases H with⟨bK,H⟩|⟨bK,H⟩
   ·skip
    obtain⟨aU,H⟩:=lh H
    obtain⟨a4,H⟩:=lh H;have a_:=eq_true (of_decide_eq_true (yN):0<=ag)
    obtain⟨c6,H⟩:=mV H;have aY:=eq_true c6;have a6:=decide_eq_true c6;clear c6;obtain⟨a7,A7,H⟩:=kW H;(try dsimp only at H)
    rcases mr H with⟨h_,H_⟩|⟨h_,H_⟩<;> (subst h_;clear H;have H:=H_;clear H_)
    ·obtain rfl:=Option.some.inj H;have aM:0<=(ag:Int):=jX;have aN:ag<(l0.length:Int):=jX;obtain⟨aT,bf,bq⟩:=lC ax.out ag aM aN;cases bf;replace aM:=eq_true aM;replace aN:=eq_true aN;obtain⟨ce,bu,_,bv,_⟩:=info_parts info3;obtain⟨bW,bG,bH⟩:=BO (P:=Try.prog) (Value.int .i64) 0 45 3 .i64 Try.underlying45 bu bv (some aT) c0 l0 ag jX jX aX.out;have a8:=dm (xq (h1:=fun _=>rfl) (bG _ (wo ax.out)));have a9:=dm bH;clear bG bH bu bv
     go_wp2_with (first|((with_reducible refine uj (f:=89) rfl ?_);refine sW (some 16) rfl rfl Try.func89 (kR) rfl #[.slice (some aT) (l0.take (ag:Int).toNat).length c0,.int .i64 (rd l0 ag)] rfl (Du) ?_;refine(rG.calls (kE a8.out) a9.out A7.out).mono ?_;rintro e w' ⟨rfl,⟨nd,rfl⟩⟩;refine⟨_,rfl,?_⟩))
     go_ret
     exact⟨kD,by repeat(first|exact kX.refl _|apply kX.step)⟩
    have H':=dm H;clear H;have aM:0<=(ag:Int):=jX;have aN:ag<(l0.length:Int):=jX;obtain⟨aT,bf,bq⟩:=lC ax.out ag aM aN;cases bf;replace aM:=eq_true aM;replace aN:=eq_true aN;obtain⟨bX,bn,_,bo,_⟩:=info_parts info3;obtain⟨bR,bx,bz⟩:=BO (P:=Try.prog) (Value.int .i64) 0 45 3 .i64 Try.underlying45 bn bo (some aT) c0 l0 ag jX jX aX.out;have a8:=dm (xq (h1:=fun _=>rfl) (bx _ (wo ax.out)));have a9:=dm bz;clear bx bz bn bo
    go_wp2_with (first|((with_reducible refine uj (f:=89) rfl ?_);refine sW (some 16) rfl rfl Try.func89 (kR) rfl #[.slice (some aT) (l0.take (ag:Int).toNat).length c0,.int .i64 (rd l0 ag)] rfl (Du) ?_;refine(rG.calls (kE a8.out) a9.out A7.out).mono ?_;rintro e w' ⟨rfl,⟨nd,rfl⟩⟩;refine⟨_,rfl,?_⟩))
    go_roundg k1
    case measure=>have:=az.out;omega
    case rel=>exact⟨(wrap64 (ag+1)),(kD),H',⟨by have:=az.out;omega⟩,by repeat(first|exact kX.refl _|apply kX.step)⟩
   obtain rfl:=Option.some.inj H
   go_wp2
   go_ret
   exact⟨kD,by repeat(first|exact kX.refl _|apply kX.step)⟩
def o6.l0:Nat->List Bool->Bool->Int->Int->Option (Int)
 |0,_,_,_,_=>none
 |k+1,x0,x1,x7,x8=>if x8<x7 then(if 0<=x8 then(if x8<(x0.length:Int) then(if(x1==(l8 false x0 x8))=true then(some x8) else(o6.l0 k x0 x1 x7 (wrap64 (x8+1)))) else(none)) else(none)) else(some (-1))
def o6.f (k:Nat) (l0:List Bool) (a1:Bool):Option (Int):=o6.l0 k l0 a1 (l0.length:Int) 0
theorem o6.pK:∀k,(∀y0 y1 y2 y3,LeO (o6.l0 k y0 y1 y2 y3) (o6.l0 (k+1) y0 y1 y2 y3))
 |0=>fun _ _ _ _ r h=>by simp[o6.l0]at h
 |k+1=>by intros;unfold o6.l0;exact qm (o6.pK k)
theorem o6.mono:∀a0 a1 k,LeO (o6.f k a0 a1) (o6.f (k+1) a0 a1):=by intro a0 a1 k;unfold o6.f;exact qm (o6.pK k)
theorem o6.calls {k:Nat}{A0:Option Addr}{c0:Nat}{l0:List Bool}{a1:Bool}{r:Int}{w:World}(av:Kd.C Kd.bool w A0 l0.length l0)(aw:l0.length<=c0)(h:o6.f k l0 a1=some r):
  Calls Try.prog 90 #[.slice A0 l0.length c0,.bool a1] w fun e w'=>e=.returned (.int .i64 r)/\kX w w':=by
 have ax:=dm av;have aX:=dm aw;clear av aw;unfold o6.f at h;have H:=h;clear h;have H':=dm H;clear H
 go_enter Try.func90,Try.ntmps90
 go_wp2
 go_loopg [8] k (fun kq v8 w'=>∃ (ac:Int),v8=.int .i64 ac/\jP (o6.l0 kq l0 a1 (l0.length:Int) ac=some r)/\jP (kq<=k)/\kX w w')
 case atStart=>exact⟨(0),(kD),H',⟨Nat.le_refl _⟩,by repeat(first|exact kX.refl _|apply kX.step)⟩
 case round=>
  clear H';try clear p2
  obtain⟨ac,rfl,HA,az,⟨m1,rfl⟩⟩:=hrel;cases gk with
  |zero=>exact absurd HA.out (by simp[o6.l0])
  |succ k1=>
   have H:=HA.out;clear HA;simp only [o6.l0]at H
   replace H:=mf H;rcases H with⟨aU,H⟩|⟨aU,H⟩
   ·skip
    obtain⟨a4,H⟩:=lh H
    obtain⟨a_,H⟩:=lh H
    by_cases c6:(a1==(l8 false l0 ac))=true
    ·rw[if_pos c6]at H;have aY:(a1==(l8 false l0 ac))=true:=c6;(try(have a6:decide (a1=(l8 false l0 ac))=true:=by simpa using c6));(try(have bL:(a1==(l8 false l0 ac))=true:=by simpa using c6));clear c6;obtain rfl:=Option.some.inj H;have aO:0<=(ac:Int):=jX;have aP:ac<(l0.length:Int):=jX;obtain⟨bD,bh,br⟩:=rO ax.out ac aO aP;cases bh;replace aO:=eq_true aO;replace aP:=eq_true aP
     go_wp2
     go_ret
     exact⟨kD,by repeat(first|exact kX.refl _|apply kX.step)⟩
    rw[if_neg c6]at H;have aY:(a1==(l8 false l0 ac))=false:=by simpa using c6
    (try(have a6:decide (a1=(l8 false l0 ac))=false:=by simpa using c6));(try(have bL:(a1==(l8 false l0 ac))=false:=by simpa using c6));(try(have bY:¬ (a1=(l8 false l0 ac)):=by simpa using c6));clear c6;have H':=dm H;clear H;have aO:0<=(ac:Int):=jX;have aP:ac<(l0.length:Int):=jX;obtain⟨bD,bh,br⟩:=rO ax.out ac aO aP;cases bh;replace aO:=eq_true aO;replace aP:=eq_true aP
    go_wp2
    go_roundg k1
    case measure=>have:=az.out;omega
    case rel=>exact⟨(wrap64 (ac+1)),(kD),H',⟨by have:=az.out;omega⟩,by repeat(first|exact kX.refl _|apply kX.step)⟩
   obtain rfl:=Option.some.inj H
   go_wp2
   go_ret
   exact⟨kD,by repeat(first|exact kX.refl _|apply kX.step)⟩
def sI.f (k:Nat) (l0:List Bool) (a1:Bool):Option (Bool):=(o6.f k l0 a1).bind fun aW=>(some (decide (aW>=0)))
theorem sI.mono:∀a0 a1 k,LeO (sI.f k a0 a1) (sI.f (k+1) a0 a1):=by intros;unfold sI.f;exact qm o6.mono
theorem sI.calls {k:Nat}{A0:Option Addr}{c0:Nat}{l0:List Bool}{a1:Bool}{r:Bool}{w:World}(av:Kd.C Kd.bool w A0 l0.length l0)(aw:l0.length<=c0)(h:sI.f k l0 a1=some r):
  Calls Try.prog 54 #[.slice A0 l0.length c0,.bool a1] w fun e w'=>e=.returned (.bool r)/\kX w w':=by
 have ax:=dm av;have aX:=dm aw;clear av aw;unfold sI.f at h;have H:=h;clear h;obtain⟨aW,A3,H⟩:=kW H;(try dsimp only at H);obtain rfl:=Option.some.inj H
 go_enter Try.func54,Try.ntmps54
 go_wp2_with (first|((with_reducible refine kY 90 rfl ?_);refine lH 7 rfl Try.func90 (o6.calls (kE ax.out) aX.out A3.out) ?_;rintro e w' ⟨rfl,⟨nd,rfl⟩⟩;refine⟨_,rfl,?_⟩))
 go_ret
 exact⟨kD,by repeat(first|exact kX.refl _|apply kX.step)⟩
theorem xK(h:p:=by first|rfl|(simp[oV,oW]<;>rfl)|(simp only [←aZ];first|rfl|(simp[oV,oW]<;>rfl))|(simp[*,oV,oW]<;>rfl)):p:=h
theorem zx(h:p:=by(try simp only [List.map_toArray,List.map_cons,List.map_nil]);first|done|(simp only [bK];rfl)|rfl|(simp only [List.length_drop,List.length_take];rfl)):p:=h
theorem Eg(h:p:=by have:=bl.out;have:=bm.out;have:=ba.out;have:=bj.out;have:=bu.out;have:=b5.out;have:=cU.out;have:=eE.out;omega):p:=h
theorem xL(h:p:=by rw[hg];exact Nat.ne_of_lt (lL (g:=az) (o:=.cells #[.int .i64 ag,.slice aN ai.length aO] 31 (0,0)) (jZ ab.out))):p:=h
theorem xM(h:p:=by rw[hg];exact Nat.ne_of_gt (lL (g:=az) (o:=.cells #[.int .i64 ag,.slice aN ai.length aO] 31 (0,0)) (jZ ab.out))):p:=h
theorem zy(h:p:=by rw[hg];exact Nat.ne_of_lt (lL (g:=ax) (o:=ou ao) (jZ ac.out))):p:=h
theorem zz(h:p:=by rw[hg];exact Nat.ne_of_gt (lL (g:=ax) (o:=ou ao) (jZ ac.out))):p:=h
theorem xN(h:p:=by have:=bl.out;have:=bm.out;have:=ba.out;first|omega|exact Nat.le_refl _):p:=h
mutual
def kF.j0:Nat->List (List Int)->List Int->Bool->Int->List (S59)->Option (Bool)
 |0,_,_,_,_,_=>none
 |k+1,x1,x2,gE,ap,ay=>if gE=true then(some false) else(if 0<=ap then(if(ap:Int).toNat<=281474976710656 then(kF.l0 k x2 (List.replicate (ap:Int).toNat false) x1 (x1.length:Int) 0 ap ay [] 0) else(none)) else(none))
def kF.l0:Nat->List Int->List Bool->List (List Int)->Int->Int->Int->List (S59)->List (S59)->Int->Option (Bool)
 |0,_,_,_,_,_,_,_,_,_=>none
 |k+1,x2,x6,aM,aQ,aL,ap,ay,aA,aC=>if aL<aQ then(if 0<=aL then(if aL<(aM.length:Int) then(if((qM aM aL).length:Int)<2 then(kF.j2 k x2 x6 aL (qM aM aL) aM aQ aL true ap ay aA aC) else((nC.f k ap ay (qM aM aL)).bind fun b6=>(kF.j2 k x2 x6 aL (qM aM aL) aM aQ aL (!b6) ap ay aA aC))) else(none)) else(none)) else(if(aA.length:Int)=(ay.length:Int) then((sI.f k x6 false).bind fun cu=>(some (!cu))) else(some false))
def kF.j2:Nat->List Int->List Bool->Int->List Int->List (List Int)->Int->Int->Bool->Int->List (S59)->List (S59)->Int->Option (Bool)
 |0,_,_,_,_,_,_,_,_,_,_,_,_=>none
 |k+1,x2,x6,x7,x8,aM,aQ,aL,gF,ap,ay,aA,aC=>if gF=true then(some false) else(if 0<(x8.length:Int) then(if 0<=(wrap64 ((x8.length:Int) - 1)) then(if(wrap64 ((x8.length:Int) - 1))<(x8.length:Int) then(if(rd x8 0)=(rd x8 (wrap64 ((x8.length:Int) - 1))) then(if(x8.length:Int)<4 then(kF.j3 k x2 x6 x7 x8 (rd x8 0) (rd x8 (wrap64 ((x8.length:Int) - 1))) aM aQ aL true ap ay aA aC) else(if x7=0 then(kF.j3 k x2 x6 x7 x8 (rd x8 0) (rd x8 (wrap64 ((x8.length:Int) - 1))) aM aQ aL ((rd x8 0) !=(rd x8 (wrap64 ((x8.length:Int) - 1)))) ap ay aA aC) else(kF.j3 k x2 x6 x7 x8 (rd x8 0) (rd x8 (wrap64 ((x8.length:Int) - 1))) aM aQ aL false ap ay aA aC))) else(if x7=0 then(kF.j3 k x2 x6 x7 x8 (rd x8 0) (rd x8 (wrap64 ((x8.length:Int) - 1))) aM aQ aL ((rd x8 0) !=(rd x8 (wrap64 ((x8.length:Int) - 1)))) ap ay aA aC) else(kF.j3 k x2 x6 x7 x8 (rd x8 0) (rd x8 (wrap64 ((x8.length:Int) - 1))) aM aQ aL false ap ay aA aC))) else(none)) else(none)) else(none))
def kF.j3:Nat->List Int->List Bool->Int->List Int->Int->Int->List (List Int)->Int->Int->Bool->Int->List (S59)->List (S59)->Int->Option (Bool)
 |0,_,_,_,_,_,_,_,_,_,_,_,_,_,_=>none
 |k+1,x2,x6,x7,x8,x9,eF,aM,aQ,aL,gG,ap,ay,aA,aC=>if gG=true then(some false) else(if 1<=(wrap64 ((x8.length:Int) - 1)) then(if(wrap64 ((x8.length:Int) - 1))<=(x8.length:Int) then(if x7=0 then(if 1<=(x8.length:Int) then(kF.j4 k x2 x6 x8 (x8.drop 1) aM aQ aL ap ay aA aC) else(none)) else(if 0<=x9 then(if x9<(x6.length:Int) then(if l8 false x6 x9=true then(if 0<=eF then(if eF<(x6.length:Int) then(if l8 false x6 eF=true then(kF.j4 k x2 x6 x8 ((x8.take (wrap64 ((x8.length:Int) - 1)).toNat).drop 1) aM aQ aL ap ay aA aC) else(some false)) else(none)) else(none)) else(some false)) else(none)) else(none))) else(none)) else(none))
def kF.j4:Nat->List Int->List Bool->List Int->List Int->List (List Int)->Int->Int->Int->List (S59)->List (S59)->Int->Option (Bool)
 |0,_,_,_,_,_,_,_,_,_,_,_=>none
 |k+1,x2,x6,x8,eG,aM,aQ,aL,ap,ay,aA,aC=>(oI.f k eG).bind fun cv=>(if cv=true then(kF.l1 k x2 x6 x8 aM aQ aL eG (eG.length:Int) 0 ap ay aA aC) else(some false))
def kF.l1:Nat->List Int->List Bool->List Int->List (List Int)->Int->Int->List Int->Int->Int->Int->List (S59)->List (S59)->Int->Option (Bool)
 |0,_,_,_,_,_,_,_,_,_,_,_,_,_=>none
 |k+1,x2,x6,x8,aM,aQ,aL,cW,fD,b7,ap,ay,aA,aC=>if b7<fD then(if 0<=b7 then(if b7<(cW.length:Int) then(if 0<=(rd cW b7) then(if(rd cW b7)<(x6.length:Int) then(if l8 false x6 (rd cW b7)=true then(some false) else(kF.l1 k x2 x6 x8 aM aQ aL cW fD (wrap64 (b7+1)) ap ay aA aC)) else(none)) else(none)) else(none)) else(none)) else(kF.l2 k x2 x6 x8 1 aM aQ aL ap ay aA aC)
def kF.l2:Nat->List Int->List Bool->List Int->Int->List (List Int)->Int->Int->Int->List (S59)->List (S59)->Int->Option (Bool)
 |0,_,_,_,_,_,_,_,_,_,_,_=>none
 |k+1,x2,x6,x8,b8,aM,aQ,aL,ap,ay,aA,aC=>if b8<(x8.length:Int) then(if 0<=(wrap64 (b8 - 1)) then(if(wrap64 (b8 - 1))<(x8.length:Int) then(if 0<=b8 then((qI.f (rd x8 (wrap64 (b8 - 1))) (rd x8 b8)).bind fun a5=>(if qU aA a5.1 a5.2=true then(some false) else(kF.l2 k x2 x6 x8 (wrap64 (b8+1)) aM aQ aL ap ay (aA++[⟨a5.1,a5.2⟩]) aC))) else(none)) else(none)) else(none)) else(kF.l3 k x2 x6 aM aQ aL x8 (x8.length:Int) 0 ap ay aA aC)
def kF.l3:Nat->List Int->List Bool->List (List Int)->Int->Int->List Int->Int->Int->Int->List (S59)->List (S59)->Int->Option (Bool)
 |0,_,_,_,_,_,_,_,_,_,_,_,_=>none
 |k+1,x2,x6,aM,aQ,aL,b9,eH,bv,ap,ay,aA,aC=>if bv<eH then(if 0<=bv then(if bv<(b9.length:Int) then(if 0<=(rd b9 bv) then(if(rd b9 bv)<(x6.length:Int) then(kF.l3 k x2 (x6.set ((rd b9 bv):Int).toNat true) aM aQ aL b9 eH (wrap64 (bv+1)) ap ay aA aC) else(none)) else(none)) else(none)) else(none)) else(kF.l0 k x2 x6 aM aQ (wrap64 (aL+1)) ap ay aA aC)
end
def kF.f (k:Nat) (ag:Int) (ai:List (S59)) (l1:List (List Int)) (l2:List Int):Option (Bool):=(nH.f k ag ai).bind fun bU=>(if bU=true then(kF.j0 k l1 l2 ((l1.length:Int)==0) ag ai) else(kF.j0 k l1 l2 true ag ai))
theorem kF.pK:∀k,(∀y0 y1 y2 y3 y4,LeO (kF.j0 k y0 y1 y2 y3 y4) (kF.j0 (k+1) y0 y1 y2 y3 y4))/\(∀y0 y1 y2 y3 y4 y5 y6 y7 y8,LeO (kF.l0 k y0 y1 y2 y3 y4 y5 y6 y7 y8) (kF.l0 (k+1) y0 y1 y2 y3 y4 y5 y6 y7 y8))/\(∀y0 y1 y2 y3 y4 y5 y6 y7 y8 y9 a4 bn,LeO (kF.j2 k y0 y1 y2 y3 y4 y5 y6 y7 y8 y9 a4 bn) (kF.j2 (k+1) y0 y1 y2 y3 y4 y5 y6 y7 y8 y9 a4 bn))/\(∀y0 y1 y2 y3 y4 y5 y6 y7 y8 y9 a4 bn cX fE,LeO (kF.j3 k y0 y1 y2 y3 y4 y5 y6 y7 y8 y9 a4 bn cX fE) (kF.j3 (k+1) y0 y1 y2 y3 y4 y5 y6 y7 y8 y9 a4 bn cX fE))/\(∀y0 y1 y2 y3 y4 y5 y6 y7 y8 y9 a4,LeO (kF.j4 k y0 y1 y2 y3 y4 y5 y6 y7 y8 y9 a4) (kF.j4 (k+1) y0 y1 y2 y3 y4 y5 y6 y7 y8 y9 a4))/\(∀y0 y1 y2 y3 y4 y5 y6 y7 y8 y9 a4 bn cX,LeO (kF.l1 k y0 y1 y2 y3 y4 y5 y6 y7 y8 y9 a4 bn cX) (kF.l1 (k+1) y0 y1 y2 y3 y4 y5 y6 y7 y8 y9 a4 bn cX))/\(∀y0 y1 y2 y3 y4 y5 y6 y7 y8 y9 a4,LeO (kF.l2 k y0 y1 y2 y3 y4 y5 y6 y7 y8 y9 a4) (kF.l2 (k+1) y0 y1 y2 y3 y4 y5 y6 y7 y8 y9 a4))/\(∀y0 y1 y2 y3 y4 y5 y6 y7 y8 y9 a4 bn,LeO (kF.l3 k y0 y1 y2 y3 y4 y5 y6 y7 y8 y9 a4 bn) (kF.l3 (k+1) y0 y1 y2 y3 y4 y5 y6 y7 y8 y9 a4 bn))
 |0=>⟨fun _ _ _ _ _ r h=>by simp[kF.j0]at h,fun _ _ _ _ _ _ _ _ _ r h=>by simp[kF.l0]at h,fun _ _ _ _ _ _ _ _ _ _ _ _ r h=>by simp[kF.j2]at h,fun _ _ _ _ _ _ _ _ _ _ _ _ _ _ r h=>by simp[kF.j3]at h,fun _ _ _ _ _ _ _ _ _ _ _ r h=>by simp[kF.j4]at h,fun _ _ _ _ _ _ _ _ _ _ _ _ _ r h=>by simp[kF.l1]at h,fun _ _ _ _ _ _ _ _ _ _ _ r h=>by simp[kF.l2]at h,fun _ _ _ _ _ _ _ _ _ _ _ _ r h=>by simp[kF.l3]at h⟩
 |k+1=>by
  obtain⟨cY,cZ,c_,db,dc,dd,de,df⟩:=kF.pK k;refine⟨?_,?_,?_,?_,?_,?_,?_,?_⟩<;>intros
  all_goals (first|unfold kF.j0|unfold kF.l0|unfold kF.j2|unfold kF.j3|unfold kF.j4|unfold kF.l1|unfold kF.l2|unfold kF.l3);exact qm cY cZ c_ db dc dd de df nH.mono nC.mono oI.mono sI.mono
theorem kF.mono:∀a0 a1 a2 a3 k,LeO (kF.f k a0 a1 a2 a3) (kF.f (k+1) a0 a1 a2 a3):=by intro a0 a1 a2 a3 k;obtain⟨cY,cZ,c_,db,dc,dd,de,df⟩:=kF.pK k;unfold kF.f;exact qm cY cZ c_ db dc dd de df nH.mono nC.mono oI.mono sI.mono
def kF.T10:Bool×List (List Nat×List Nat):=(true,[([],[]),([0],[0]),([1],[1]),([],[]),([],[]),([4],[4]),([5],[5]),([3,6],[3,6]),([7],[7]),([2,0,1,2],[2]),([8,9,0,1,2,3,4,5,6,7,8,9],[8])])
def kF.B10:List Nat:=[0,1,3,0,0,16,48,120,248,7,1023]
theorem kF.LF:mR .any (opsOf Try.f19 10)=kF.T10:=by kernel_rfl
theorem kF.HV:nS kF.T10.2 kF.B10=true:=by kernel_rfl
def kF.T29:Bool×List (List Nat×List Nat):=(true,[([],[]),([],[]),([1],[1]),([0,2],[0,2]),([3],[3]),([],[]),([],[]),([5,6],[5,6]),([7],[7]),([4,8],[4,8]),([],[]),([10,9,9,0,1,2,3,4,5,6,7,8,9,10],[9,10])])
def kF.B29:List Nat:=[0,0,2,7,15,0,0,96,224,511,0,2047]
theorem kF.Gf:mR .any (opsOf Try.f19 29)=kF.T29:=by kernel_rfl
theorem kF.C_:nS kF.T29.2 kF.B29=true:=by kernel_rfl
theorem kF.calls (k:Nat) (ag:Int) (aN:Option Addr) (aO:Nat) (ai:List (S59)) (A1:Option Addr) (c1:Nat) (l1:List (List Int)) (l2:List Int) (r:Bool) (w:World) (dS:Kd.C k59 w aN ai.length ai) (dT:ai.length<=aO) (hr1:Kd.C (Kd.slice 3 (Kd.int .i64)) w A1 l1.length l1) (fF:l1.length<=c1) (h:kF.f k ag ai l1 l2=some r):
  Calls Try.prog 19 #[.agg #[.int .i64 ag,.slice aN ai.length aO],.slice A1 l1.length c1] w fun e w'=>e=.returned (.bool r)/\Below w.heap.size w w':=by
 have iU:=Try.underlying31;have iV:=Try.underlying59;have cw:=dm dS;have cx:=dm dT;clear dS dT;have gH:=dm hr1;have jc:=dm fF;clear hr1 fF;have HB:=dm (Below.refl w.heap.size w);unfold kF.f at h;have H:=h;clear h;have eI:=dm H;clear H
 go_enter Try.func19,Try.ntmps19
 go_upto_region 1 with(first|((with_reducible refine kI 2 rfl ?_);(try(refine nQ (by rfl) ?_;dsimp only));refine qd 2 #[.int .i64 ag,.slice aN ai.length aO] 31 ?_;intro az hg w5 jV hb;have ab:=dm (jV);have hX:=dm (ky:w.heap.size<=az);have hY:=dm (ky:w.heap.size<=az);replace HB:=kg HB hb;clear hb jV hg))
 (try simp only [Act.put,List.setIfInBounds_toArray,List.set_cons_zero,List.set_cons_succ])
 go_cut [25] (fun gI wc=>∃ (kq:Nat) (bZ:Bool),gI=.bool bZ/\jP (kF.j0 kq l1 l2 bZ ag ai=some r)/\jP (kq<=k)/\jP (wc.heap[az]? =some (.cells #[.int .i64 ag,(.slice aN ai.length aO)] 31 (0,0)))/\jP (Below w.heap.size w wc))
 case first=>
  have H:=eI.out;clear eI;obtain⟨bU,A6,H⟩:=kW H;(try dsimp only at H)
  rcases mr H with⟨h_,H_⟩|⟨h_,H_⟩<;> (subst h_;clear H;have H:=H_;clear H_)
  ·have H':=dm H;clear H;have⟨gJ,gK,gM,gN⟩:=kr (w:=w5) ab
   go_wp2_with (first|((with_reducible refine uj (f:=50) rfl ?_);refine sW (some 19) rfl rfl Try.func50 (kR) rfl #[.agg #[.int .i64 ag,.slice aN ai.length aO]] rfl (qH) ?_;refine(nH.calls (kE (lq cw.out HB.out)) cx.out A6.out).mono ?_;rintro e w9 ⟨rfl,hb⟩;refine⟨_,rfl,?_⟩;replace ab:=jU ab hb;replace HB:=kg HB hb;(try clear hb)))
   go_meet
   case rel=>exact⟨_,(((l1.length:Int)==0)),(kD),H',⟨by first|omega|exact Nat.le_refl _⟩,⟨jZ ab.out⟩,⟨jT HB.out⟩⟩
  have H':=dm H;clear H;have⟨f3,f4,f5,f6⟩:=kr (w:=w5) ab
  go_wp2_with (first|((with_reducible refine uj (f:=50) rfl ?_);refine sW (some 19) rfl rfl Try.func50 (kR) rfl #[.agg #[.int .i64 ag,.slice aN ai.length aO]] rfl (qH) ?_;refine(nH.calls (kE (lq cw.out HB.out)) cx.out A6.out).mono ?_;rintro e jd ⟨rfl,hb⟩;refine⟨_,rfl,?_⟩;replace ab:=jU ab hb;replace HB:=kg HB hb;(try clear hb)))
  go_meet
  case rel=>exact⟨_,(true),(kD),H',⟨by first|omega|exact Nat.le_refl _⟩,⟨jZ ab.out⟩,⟨jT HB.out⟩⟩
 case rest=>
  clear eI;obtain⟨kq,bZ,rfl,HA,bl,ab,HB⟩:=hcut;cases kq with
  |zero=>exact absurd HA.out (by simp[kF.j0])
  |succ dU=>
   have H:=HA.out;clear HA;simp only [kF.j0]at H
   rcases mr H with⟨h_,H_⟩|⟨h_,H_⟩<;> (subst h_;clear H;have H:=H_;clear H_)
   ·obtain rfl:=Option.some.inj H
    go_wp2
    go_ret
    exact⟨nN,jT HB.out⟩
   skip
   obtain⟨dh,H⟩:=mV H;have eU:=eq_true dh;have eV:=decide_eq_true dh;clear dh
   obtain⟨di,H⟩:=mV H;have eW:=eq_true di;have eX:=decide_eq_true di;clear di;obtain⟨eJ,bL⟩:∃y_:List Bool,y_=(List.replicate (ag:Int).toNat false):=⟨_,rfl⟩;replace H:(kF.l0 dU l2 eJ l1 (l1.length:Int) 0 ag ai [] 0)=some r:=l7 bL H
   have dV:=dm bL;clear bL;have H':=dm H;clear H
   go_wp2_with (first|((with_reducible refine kI 26 rfl ?_);refine Kj 26 ?_;intro ax hg gO jV hb;have ac:=dm (jV);have hZ:=dm (ky:w.heap.size<=ax);have eY:=dm (ky:w.heap.size<=ax);replace HB:=kg HB hb;have aR:=dm (xL:az≠ax);have aU:=dm (xM:ax≠az);replace ab:=jU ab hb;clear hb jV hg;have ia:=aR.out;have ib:=aU.out;have⟨ez,eA,eB,eC⟩:=kr (w:=gO) ab)|((with_reducible refine kI 29 rfl ?_);(try(refine nQ (by rfl) ?_;dsimp only));refine Al Kd.bool _ 4 rfl (N:=29) rfl 54 _ _ rfl ag rfl rfl Try.underlying54 (.bool false) 1 Br rfl (by decide) (by omega) false (ok:=fun _=>True) (okp:=fun _=>True) rfl (fun _ hk=>hk) trivial jX (Nat.le_trans (Nat.mul_le_mul_right _ (of_decide_eq_true (yN):ag.toNat<=281474976710656)) (by omega)) (Below.refl _ _) (Nat.le_refl _) ?_;intro a7 je cd hb hg_ lF;clear hg_ lF;(first|rw[←dV.out]at cd|(simp only [Int.reduceToNat]at cd;rw[←dV.out]at cd));have eZ:=dm (kU cd (kN (jT HB.out)));replace ab:=jU ab hb;replace ac:=jU ac hb;replace HB:=kg HB hb;clear hb cd))
   go_loopg [32] dU (fun kq gP w'=>∃ (aj:List Bool) (aa:Int) (af:List (S59)),gP=.int .i64 aa/\jP (kF.l0 kq l2 aj l1 (l1.length:Int) aa ag ai af 0=some r)/\jP (kq<=dU)/\jP (Kd.R Kd.bool 4 w' w.heap.size (fun _=>True) a7 aj)/\jP (w'.heap[az]? =some (.cells #[.int .i64 ag,(.slice aN ai.length aO)] 31 (0,0)))/\jP (w'.heap[ax]? =some (ou af))/\jP (Below w.heap.size w w'))
   case atStart=>exact⟨(eJ),(0),[],(kD),H',⟨Nat.le_refl _⟩,⟨jW eZ.out⟩,⟨jZ ab.out⟩,⟨jZ ac.out⟩,⟨jT HB.out⟩⟩
   case round=>
    clear H';(try clear dg eU eV eW eX ez eA eB eC);obtain⟨aj,aa,af,rfl,HA,bm,ae,ab,ac,HB⟩:=hrel;cases gk with
    |zero=>exact absurd HA.out (by simp[kF.l0])
    |succ k2=>
     have H:=HA.out;clear HA;simp only [kF.l0]at H
     replace H:=mf H;rcases H with⟨dW,H⟩|⟨dW,H⟩
     ·skip
      obtain⟨e2,H⟩:=lh H
      obtain⟨e3,H⟩:=lh H;have dE:=dm H;clear H;have cy:0<=(aa:Int):=jX;have cz:aa<(l1.length:Int):=jX;obtain⟨ic,gQ,bM,fI,bV,cl,cm⟩:=yO gH.out aa cy cz;cases fI;replace bV:=ko HB bV;have aP:=dm cm;have bW:=dm cl;clear cm cl;replace cy:=eq_true cy;replace cz:=eq_true cz
      go_upto_region 8 with(fail)
      go_cut [45] (fun gR wc=>∃ (kq:Nat) (bN:Bool),gR=.bool bN/\jP (kF.j2 kq l2 aj aa (qM l1 aa) l1 (l1.length:Int) aa bN ag ai af 0=some r)/\jP (kq<=k2)/\jP (Kd.R Kd.bool 4 wc w.heap.size (fun _=>True) a7 aj)/\jP (wc.heap[az]? =some (.cells #[.int .i64 ag,(.slice aN ai.length aO)] 31 (0,0)))/\jP (wc.heap[ax]? =some (ou af))/\jP (Below w.heap.size w wc))
      case first=>
       have H:=dE.out;clear dE
       by_cases cn:((qM l1 aa).length:Int)<2
       ·rw[if_pos cn]at H;have bO:=decide_eq_true cn;have e4:decide ((qM l1 aa).length<2)=true:=decide_eq_true (by omega);clear cn;(first|rw[bO]|(simp only [mJ,nz];rw[bO])|skip);have H':=dm H;clear H
        go_wp2
        go_meet
        case rel=>exact⟨_,(true),(kD),H',⟨by have:=bl.out;have:=bm.out;first|omega|exact Nat.le_refl _⟩,⟨jW ae.out⟩,⟨jZ ab.out⟩,⟨jZ ac.out⟩,⟨jT HB.out⟩⟩
       rw[if_neg cn]at H;have bO:=decide_eq_false cn;have e4:decide ((qM l1 aa).length<2)=false:=decide_eq_false (by omega);clear cn;(first|rw[bO]|(simp only [mJ,nz];rw[bO])|skip);obtain⟨b6,gS,H⟩:=kW H;(try dsimp only at H);have H':=dm H;clear H;have ie:=aR.out;have ig:=aU.out;have⟨f7,f8,f9,f_⟩:=kr (w:=wr) ab
       go_wp2_with (first|(go_at_call 51;refine(nC.calls (kE (lq cw.out HB.out)) cx.out (kE (lq aP.out HB.out)) bW.out gS.out).mono ?_;rintro e jf ⟨rfl,hb⟩;replace ae:=kG ae hb;replace ab:=jU ab hb;replace ac:=jU ac hb;replace HB:=kg HB hb;(try clear hb)))
       go_meet
       case rel=>exact⟨_,(!b6),(kD),H',⟨by have:=bl.out;have:=bm.out;first|omega|exact Nat.le_refl _⟩,⟨jW ae.out⟩,⟨jZ ab.out⟩,⟨jZ ac.out⟩,⟨jT HB.out⟩⟩
      case rest=>
       clear dE;(try clear dW e2 e3 bV cy cz);obtain⟨kq,bN,rfl,HA,ba,ae,ab,ac,HB⟩:=hcut;cases kq with
       |zero=>exact absurd HA.out (by simp[kF.j2])
       |succ a8=>
        have H:=HA.out;clear HA;simp only [kF.j2]at H
        rcases mr H with⟨h_,H_⟩|⟨h_,H_⟩<;> (subst h_;clear H;have H:=H_;clear H_)
        ·obtain rfl:=Option.some.inj H
         go_wp2
         go_ret
         exact⟨nN,jT HB.out⟩
        skip
        obtain⟨dZ,H⟩:=mV H;have e5:=decide_eq_true dZ;have e6:decide (0<(qM l1 aa).length)=true:=decide_eq_true (by omega);clear dZ;obtain⟨au,aZ⟩:∃j_:Int,(wrap64 (((qM l1 aa).length:Int) - 1))=j_:=⟨_,rfl⟩;replace H:(if 0<=(au) then(if(au)<((qM l1 aa).length:Int) then(if(rd (qM l1 aa) 0)=(rd (qM l1 aa) (au)) then(if((qM l1 aa).length:Int)<4 then(kF.j3 a8 l2 aj aa (qM l1 aa) (rd (qM l1 aa) 0) (rd (qM l1 aa) (au)) l1 (l1.length:Int) aa true ag ai af 0) else(if aa=0 then(kF.j3 a8 l2 aj aa (qM l1 aa) (rd (qM l1 aa) 0) (rd (qM l1 aa) (au)) l1 (l1.length:Int) aa ((rd (qM l1 aa) 0) !=(rd (qM l1 aa) (au))) ag ai af 0) else(kF.j3 a8 l2 aj aa (qM l1 aa) (rd (qM l1 aa) 0) (rd (qM l1 aa) (au)) l1 (l1.length:Int) aa false ag ai af 0))) else(if aa=0 then(kF.j3 a8 l2 aj aa (qM l1 aa) (rd (qM l1 aa) 0) (rd (qM l1 aa) (au)) l1 (l1.length:Int) aa ((rd (qM l1 aa) 0) !=(rd (qM l1 aa) (au))) ag ai af 0) else(kF.j3 a8 l2 aj aa (qM l1 aa) (rd (qM l1 aa) 0) (rd (qM l1 aa) (au)) l1 (l1.length:Int) aa false ag ai af 0))) else(none)) else(none))=some r:=by first|(rw[aZ]at H;exact H)|(simp only [aZ]at H⊢;exact H)
        have gT:(IntKind.i64.wrap (((qM l1 aa).length:Int) - 1))=au:=(mJ _).trans aZ
        obtain⟨e7,H⟩:=lh H
        obtain⟨e8,H⟩:=lh H;have dF:=dm H;clear H;try go_wp2
        replace ae:=dm (kw ae.out);replace ab:=dm (kQ ab.out);replace ac:=dm (kQ ac.out);replace HB:=dm (ma HB.out);have cA:0<=(0:Int):=(by omega);have cD:0<((qM l1 aa).length:Int):=jX;obtain⟨aK,fJ,aX⟩:=lC aP.out 0 cA cD;have bp:=aX;(try rw[show((0:Int)).toNat=0 from rfl]at bp);(try rw[show 0*1=0 from rfl]at bp);(try rw[Addr.add_zero']at bp);cases fJ;have ii:(0<(qM l1 aa).length)=True:=eq_true (by omega);(try rw[show((0:Int)).toNat=0 from rfl]at aX);(try rw[Addr.add_zero']at aX);replace aX:=ko HB aX;replace cA:=eq_true cA;replace cD:=eq_true cD;have cE:0<=((au):Int):=jX;have cF:(au)<((qM l1 aa).length:Int):=jX;obtain⟨e9,fK,bd⟩:=lC aP.out (au) cE cF;have eD:=bd;obtain rfl:aK=e9:=(by injection fK);replace bd:=ko HB bd;replace cE:=eq_true cE;replace cF:=eq_true cF;refine uX (n:=11) (S:=fun w'=>w'.cell? aK=some (.int .i64 (rd (qM l1 aa) 0))/\w'.cell? (aK.add ((au)).toNat)=some (.int .i64 (rd (qM l1 aa) (au)))) (ds:=[]) (lm 11 0) (kR) rfl (kR) ⟨(ko HB bp),(ko HB eD)⟩ (fun hHeld=>?_);refine xn kF.LF kF.HV (fun HT_ HW_=>?_);generalize wc.drew=jg at ae ab ac HB aX bd hHeld⊢;refine jR 0 46 1 ?_;refine jR 1 47 3 ?_;refine jR 3 49 11 ?_;refine jR 4 50 27 ?_;refine jR 5 51 59 ?_;refine jR 6 52 123 ?_;refine jR 7 53 251 ?_;refine kJ 2 48 255 ?_;refine jR 9 9 767 ?_;refine kJ 8 54 1023 ?_;refine jR 10 10 2047 ?_;refine mH (mP HT_.out (kR)) ?_
        go_upto_region 11 with(fail)
        go_cut [71] (fun gU wc=>∃ (kq:Nat) (bP:Bool),gU=.bool bP/\jP (kF.j3 kq l2 aj aa (qM l1 aa) (rd (qM l1 aa) 0) (rd (qM l1 aa) (au)) l1 (l1.length:Int) aa bP ag ai af 0=some r)/\jP (kq<=a8)/\jP (Kd.R Kd.bool 4 wc w.heap.size (fun _=>True) a7 aj)/\jP (wc.heap[az]? =some (.cells #[.int .i64 ag,(.slice aN ai.length aO)] 31 (0,0)))/\jP (wc.heap[ax]? =some (ou af))/\jP (Below w.heap.size w wc))
        case first=>
         have H:=dF.out;clear dF
         by_cases ce:(rd (qM l1 aa) 0)=(rd (qM l1 aa) (au))
         ·rw[if_pos ce]at H;have bQ:=beq_iff_eq.mpr ce;have fa:=bne_eq_false_iff_eq.mpr ce;clear ce;(first|rw[bQ]|(simp only [mJ,nz];rw[bQ])|skip)
          by_cases co:((qM l1 aa).length:Int)<4
          ·rw[if_pos co]at H;have fb:=decide_eq_true co;have fc:decide ((qM l1 aa).length<4)=true:=decide_eq_true (by omega);clear co;have H':=dm H;clear H
           go_wp2
           go_meet
           case rel=>exact⟨_,(true),(kD),H',⟨xN⟩,⟨jW ae.out⟩,⟨jZ ab.out⟩,⟨jZ ac.out⟩,⟨jT HB.out⟩⟩
          rw[if_neg co]at H;have fb:=decide_eq_false co;have fc:decide ((qM l1 aa).length<4)=false:=decide_eq_false (by omega);clear co
          by_cases cf:aa=0
          ·rw[if_pos cf]at H;have fd:=beq_iff_eq.mpr cf;have fe:=bne_eq_false_iff_eq.mpr cf;clear cf;have H':=dm H;clear H
           go_wp2
           go_meet
           case rel=>exact⟨_,(((rd (qM l1 aa) 0) !=(rd (qM l1 aa) (au)))),(by first|rfl|(simp;done)|(simp[*];done)|(simp only [←aZ];done)|(simp[bne, *];done)),H',⟨xN⟩,⟨jW ae.out⟩,⟨jZ ab.out⟩,⟨jZ ac.out⟩,⟨jT HB.out⟩⟩
          rw[if_neg cf]at H;have fd:=beq_eq_false_iff_ne.mpr cf;have fe:=bne_iff_ne.mpr cf;have H':=dm H;clear H
          go_wp2
          go_meet
          case rel=>exact⟨_,(false),(kD),H',⟨xN⟩,⟨jW ae.out⟩,⟨jZ ab.out⟩,⟨jZ ac.out⟩,⟨jT HB.out⟩⟩
         rw[if_neg ce]at H;have bQ:=beq_eq_false_iff_ne.mpr ce;have fa:=bne_iff_ne.mpr ce;(first|rw[bQ]|(simp only [mJ,nz];rw[bQ])|skip)
         by_cases cg:aa=0
         ·rw[if_pos cg]at H;have ff:=beq_iff_eq.mpr cg;have fg:=bne_eq_false_iff_eq.mpr cg;clear cg;have H':=dm H;clear H
          go_wp2
          go_meet
          case rel=>exact⟨_,(((rd (qM l1 aa) 0) !=(rd (qM l1 aa) (au)))),(by first|rfl|(simp;done)|(simp[*];done)|(simp only [←aZ];done)|(simp[bne, *];done)),H',⟨xN⟩,⟨jW ae.out⟩,⟨jZ ab.out⟩,⟨jZ ac.out⟩,⟨jT HB.out⟩⟩
         rw[if_neg cg]at H;have ff:=beq_eq_false_iff_ne.mpr cg;have fg:=bne_iff_ne.mpr cg;have H':=dm H;clear H
         go_wp2
         go_meet
         case rel=>exact⟨_,(false),(kD),H',⟨xN⟩,⟨jW ae.out⟩,⟨jZ ab.out⟩,⟨jZ ac.out⟩,⟨jT HB.out⟩⟩
        case rest=>
         clear dF;(try clear dj e5 e6 e7 e8 aX bd cA cE cD cF);obtain⟨kq,bP,rfl,HA,bj,ae,ab,ac,HB⟩:=hcut;cases kq with
         |zero=>exact absurd HA.out (by simp[kF.j3])
         |succ bx=>
          have H:=HA.out;clear HA;simp only [kF.j3]at H
          rcases mr H with⟨h_,H_⟩|⟨h_,H_⟩<;> (subst h_;clear H;have H:=H_;clear H_)
          ·obtain rfl:=Option.some.inj H
           go_wp2
           go_ret
           exact⟨xK,jT HB.out⟩
          skip
          obtain⟨dl,H⟩:=mV H;have fh:=eq_true dl;have fi:=decide_eq_true dl;clear dl
          obtain⟨dn,H⟩:=mV H;have fj:=eq_true dn;have fk:=decide_eq_true dn;clear dn;have dG:=dm H;clear H;obtain⟨iW,d9,_,d_,_⟩:=info_parts info3;obtain⟨gV,eK,eL,eM⟩:=KT (P:=Try.prog) (Value.int .i64) 0 45 3 .i64 .i64 Try.underlying45 d9 d_ (some aK) bM (qM l1 aa) 1 (wrap64 (((qM l1 aa).length:Int) - 1)) (by omega) (by first|omega|exact of_decide_eq_true (yN)) jX bW.out;simp only [aZ]at eK;have fm:=dm (xq (h1:=fun _=>rfl) (eL _ (wo aP.out)));have fo:=dm eM;clear eL eM d9 d_
          go_upto_if 78 with(fail)
          go_cut [11] (fun gW wc=>∃ (kq:Nat) (ak:List Int) (A2:Option Addr) (c2:Nat),gW=.slice A2 ak.length c2/\jP (Kd.C (Kd.int .i64) w A2 ak.length ak)/\jP (ak.length<=c2)/\jP (kF.j4 kq l2 aj (qM l1 aa) ak l1 (l1.length:Int) aa ag ai af 0=some r)/\jP (kq<=bx)/\jP (Kd.R Kd.bool 4 wc w.heap.size (fun _=>True) a7 aj)/\jP (wc.heap[az]? =some (.cells #[.int .i64 ag,(.slice aN ai.length aO)] 31 (0,0)))/\jP (wc.heap[ax]? =some (ou af))/\jP (Below w.heap.size w wc))
          case first=>
           have H:=dG.out;clear dG
           by_cases ch:aa=0
           ·rw[if_pos ch]at H;have bR:=beq_iff_eq.mpr ch;have fp:=bne_eq_false_iff_eq.mpr ch;clear ch;(first|rw[bR]|(simp only [mJ,nz];rw[bR])|skip)
            obtain⟨dq,H⟩:=mV H;have ij:=eq_true dq;have ik:=decide_eq_true dq;clear dq;have H':=dm H;clear H;obtain⟨iX,ea,_,eb,_⟩:=info_parts info3;obtain⟨gX,gY,eN,eO⟩:=KS (P:=Try.prog) (Value.int .i64) 0 45 3 .i64 Try.underlying45 ea eb (some aK) bM (qM l1 aa) 1 (by omega) jX bW.out;have fq:=dm (xq (h1:=fun _=>rfl) (eN _ (wo aP.out)));have ft:=dm eO;clear eN eO ea eb
            go_wp2
            go_meet
            case rel=>exact⟨_,((qM l1 aa).drop 1),gX,bM - 1,(by first|rfl|(simp[List.length_drop,List.length_take];done)|(simp[List.length_drop,List.length_take,←aZ];done)),fq,ft,H',⟨by have:=bl.out;have:=bm.out;have:=ba.out;have:=bj.out;first|omega|exact Nat.le_refl _⟩,⟨jW ae.out⟩,⟨jZ ab.out⟩,⟨jZ ac.out⟩,⟨jT HB.out⟩⟩
           rw[if_neg ch]at H;have bR:=beq_eq_false_iff_ne.mpr ch;have fp:=bne_iff_ne.mpr ch;(first|rw[bR]|(simp only [mJ,nz];rw[bR])|skip)
           obtain⟨il,H⟩:=lh H
           obtain⟨im,H⟩:=lh H;obtain⟨eP,cG⟩:∃b_:Bool,b_=(l8 false aj (rd (qM l1 aa) 0)):=⟨_,rfl⟩;replace H:(if eP=true then(if 0<=(rd (qM l1 aa) (au)) then(if(rd (qM l1 aa) (au))<(aj.length:Int) then(if l8 false aj (rd (qM l1 aa) (au))=true then(kF.j4 bx l2 aj (qM l1 aa) (((qM l1 aa).take (wrap64 (((qM l1 aa).length:Int) - 1)).toNat).drop 1) l1 (l1.length:Int) aa ag ai af 0) else(some false)) else(none)) else(none)) else(some false))=some r:=by rw[←cG]at H;exact H
           have bS:=dm cG;clear cG
           rcases mr H with⟨h_,H_⟩|⟨h_,H_⟩<;> (subst h_;clear H;have H:=H_;clear H_)
           ·skip
            obtain⟨io,H⟩:=lh H
            obtain⟨iq,H⟩:=lh H;obtain⟨eQ,cH⟩:∃b_:Bool,b_=(l8 false aj (rd (qM l1 aa) (au))):=⟨_,rfl⟩;replace H:(if eQ=true then(kF.j4 bx l2 aj (qM l1 aa) (((qM l1 aa).take (wrap64 (((qM l1 aa).length:Int) - 1)).toNat).drop 1) l1 (l1.length:Int) aa ag ai af 0) else(some false))=some r:=by rw[←cH]at H;exact H
            have b3:=dm cH;clear cH
            rcases mr H with⟨h_,H_⟩|⟨h_,H_⟩<;> (subst h_;clear H;have H:=H_;clear H_)
            ·have H':=dm H;clear H;obtain⟨iY,iZ,fL⟩:=kM ae.out;subst fL;have a9:0<=((rd (qM l1 aa) 0):Int):=jX;have a_:(rd (qM l1 aa) 0)<(aj.length:Int):=jX;obtain⟨b4,ci,aY⟩:=rO (ku ae.out).2.2 (rd (qM l1 aa) 0) a9 a_;(try rw[←bS.out]at aY);(try rw[←b3.out]at aY);cases ci;replace a9:=eq_true a9;replace a_:=eq_true a_;have bz:0<=((rd (qM l1 aa) (au)):Int):=jX;have bA:(rd (qM l1 aa) (au))<(aj.length:Int):=jX;obtain⟨cI,dH,bf⟩:=rO (ku ae.out).2.2 (rd (qM l1 aa) (au)) bz bA;(try rw[←bS.out]at bf);(try rw[←b3.out]at bf);obtain rfl:b4=cI:=(by injection dH);replace bz:=eq_true bz;replace bA:=eq_true bA
             go_wp2
             go_meet
             case rel=>exact⟨_,(((qM l1 aa).take (wrap64 (((qM l1 aa).length:Int) - 1)).toNat).drop 1),gV,bM - 1,(by first|rfl|(simp[List.length_drop,List.length_take];done)|(simp[List.length_drop,List.length_take,←aZ];done)),fm,fo,H',⟨by have:=bl.out;have:=bm.out;have:=ba.out;have:=bj.out;first|omega|exact Nat.le_refl _⟩,⟨jW ae.out⟩,⟨jZ ab.out⟩,⟨jZ ac.out⟩,⟨jT HB.out⟩⟩
            obtain rfl:=Option.some.inj H;obtain⟨i1,i2,fM⟩:=kM ae.out;subst fM;have a9:0<=((rd (qM l1 aa) 0):Int):=jX;have a_:(rd (qM l1 aa) 0)<(aj.length:Int):=jX;obtain⟨b4,ci,aY⟩:=rO (ku ae.out).2.2 (rd (qM l1 aa) 0) a9 a_;(try rw[←bS.out]at aY);(try rw[←b3.out]at aY);cases ci;replace a9:=eq_true a9;replace a_:=eq_true a_;have bz:0<=((rd (qM l1 aa) (au)):Int):=jX;have bA:(rd (qM l1 aa) (au))<(aj.length:Int):=jX;obtain⟨cI,dH,bf⟩:=rO (ku ae.out).2.2 (rd (qM l1 aa) (au)) bz bA;(try rw[←bS.out]at bf);(try rw[←b3.out]at bf);obtain rfl:b4=cI:=(by injection dH);replace bz:=eq_true bz;replace bA:=eq_true bA
            go_wp2
            go_ret
            exact⟨xK,jT HB.out⟩
           obtain rfl:=Option.some.inj H;obtain⟨i3,i4,fN⟩:=kM ae.out;subst fN;have a9:0<=((rd (qM l1 aa) 0):Int):=jX;have a_:(rd (qM l1 aa) 0)<(aj.length:Int):=jX;obtain⟨b4,ci,aY⟩:=rO (ku ae.out).2.2 (rd (qM l1 aa) 0) a9 a_;(try rw[←bS.out]at aY);cases ci;replace a9:=eq_true a9;replace a_:=eq_true a_
           go_wp2
           go_ret
           exact⟨xK,jT HB.out⟩
          case rest=>
           clear dG;(try clear dk fh fi fj fk);obtain⟨kq,ak,A2,c2,rfl,ei,fG,HA,bu,ae,ab,ac,HB⟩:=hcut;cases kq with
           |zero=>exact absurd HA.out (by simp[kF.j4])
           |succ bX=>
            have H:=HA.out;clear HA;simp only [kF.j4]at H;obtain⟨cv,fH,H⟩:=kW H;(try dsimp only at H)
            rcases mr H with⟨h_,H_⟩|⟨h_,H_⟩<;> (subst h_;clear H;have H:=H_;clear H_)
            ·have H':=dm H;clear H
             go_wp2_with (first|((with_reducible refine uj (f:=52) rfl ?_);refine sW (some 94) rfl rfl Try.func52 (kR) rfl #[.slice A2 ak.length c2] rfl (qH) ?_;refine(oI.calls (kE (lq ei.out HB.out)) fG.out fH.out).mono ?_;rintro e w' ⟨rfl,⟨nd,rfl⟩⟩;refine⟨_,rfl,?_⟩))
             go_loopg [98] bX (fun kq gZ w'=>∃ (aE:Int),gZ=.int .i64 aE/\jP (kF.l1 kq l2 aj (qM l1 aa) l1 (l1.length:Int) aa ak (ak.length:Int) aE ag ai af 0=some r)/\jP (kq<=bX)/\jP (Kd.R Kd.bool 4 w' w.heap.size (fun _=>True) a7 aj)/\jP (w'.heap[az]? =some (.cells #[.int .i64 ag,(.slice aN ai.length aO)] 31 (0,0)))/\jP (w'.heap[ax]? =some (ou af))/\jP (Below w.heap.size w w'))
             case atStart=>exact⟨(0),(kD),H',⟨Nat.le_refl _⟩,⟨jW ae.out⟩,⟨jZ ab.out⟩,⟨jZ ac.out⟩,⟨jT HB.out⟩⟩
             case round=>
              clear H';(try clear c2 dr);obtain⟨aE,rfl,HA,b5,ae,ab,ac,HB⟩:=hrel;cases gk with
              |zero=>exact absurd HA.out (by simp[kF.l1])
              |succ k6=>
               have H:=HA.out;clear HA;simp only [kF.l1]at H
               replace H:=mf H;rcases H with⟨ej,H⟩|⟨ej,H⟩
               ·skip
                obtain⟨ir,H⟩:=lh H
                obtain⟨iu,H⟩:=lh H
                obtain⟨iv,H⟩:=lh H
                obtain⟨iw,H⟩:=lh H;obtain⟨eR,cJ⟩:∃b_:Bool,b_=(l8 false aj (rd ak aE)):=⟨_,rfl⟩;replace H:(if eR=true then(some false) else(kF.l1 k6 l2 aj (qM l1 aa) l1 (l1.length:Int) aa ak (ak.length:Int) (wrap64 (aE+1)) ag ai af 0))=some r:=by rw[←cJ]at H;exact H
                have eo:=dm cJ;clear cJ
                rcases mr H with⟨h_,H_⟩|⟨h_,H_⟩<;> (subst h_;clear H;have H:=H_;clear H_)
                ·obtain rfl:=Option.some.inj H;have bB:0<=(aE:Int):=jX;have bC:aE<(ak.length:Int):=jX;obtain⟨fu,dI,bh⟩:=lC ei.out aE bB bC;cases dI;replace bh:=ko HB bh;replace bB:=eq_true bB;replace bC:=eq_true bC;obtain⟨i5,i6,fO⟩:=kM ae.out;subst fO;have bD:0<=((rd ak aE):Int):=jX;have bE:(rd ak aE)<(aj.length:Int):=jX;obtain⟨fv,dJ,bY⟩:=rO (ku ae.out).2.2 (rd ak aE) bD bE;(try rw[←eo.out]at bY);cases dJ;replace bD:=eq_true bD;replace bE:=eq_true bE
                 go_wp2
                 go_ret
                 exact⟨xK,jT HB.out⟩
                have H':=dm H;clear H;have bB:0<=(aE:Int):=jX;have bC:aE<(ak.length:Int):=jX;obtain⟨fu,dI,bh⟩:=lC ei.out aE bB bC;cases dI;replace bh:=ko HB bh;replace bB:=eq_true bB;replace bC:=eq_true bC;obtain⟨i7,i8,fP⟩:=kM ae.out;subst fP;have bD:0<=((rd ak aE):Int):=jX;have bE:(rd ak aE)<(aj.length:Int):=jX;obtain⟨fv,dJ,bY⟩:=rO (ku ae.out).2.2 (rd ak aE) bD bE;(try rw[←eo.out]at bY);cases dJ;replace bD:=eq_true bD;replace bE:=eq_true bE
                go_wp2
                go_roundg k6
                case measure=>have:=bl.out;have:=bm.out;have:=ba.out;have:=bj.out;have:=bu.out;have:=b5.out;omega
                case rel=>exact⟨(wrap64 (aE+1)),(kD),H',⟨by have:=bl.out;have:=bm.out;have:=ba.out;have:=bj.out;have:=bu.out;have:=b5.out;omega⟩,⟨jW ae.out⟩,⟨jZ ab.out⟩,⟨jZ ac.out⟩,⟨jT HB.out⟩⟩
               have H':=dm H;clear H
               go_wp2
               go_loopg [14] k6 (fun kq g0 w'=>∃ (al:Int) (ao:List (S59)),g0=.int .i64 al/\jP (kF.l2 kq l2 aj (qM l1 aa) al l1 (l1.length:Int) aa ag ai ao 0=some r)/\jP (kq<=k6)/\jP (Kd.R Kd.bool 4 w' w.heap.size (fun _=>True) a7 aj)/\jP (w'.heap[az]? =some (.cells #[.int .i64 ag,(.slice aN ai.length aO)] 31 (0,0)))/\jP (w'.heap[ax]? =some (ou ao))/\jP (Below w.heap.size w w'))
               case atStart=>exact⟨(1),(af),(kD),H',⟨Nat.le_refl _⟩,⟨jW ae.out⟩,⟨jZ ab.out⟩,⟨jZ ac.out⟩,⟨jT HB.out⟩⟩
               case round=>
                clear H';(try clear ej);obtain⟨al,ao,rfl,HA,cU,ae,ab,ac,HB⟩:=hrel;cases gk with
                |zero=>exact absurd HA.out (by simp[kF.l2])
                |succ k7=>
                 have H:=HA.out;clear HA;simp only [kF.l2]at H
                 replace H:=mf H;rcases H with⟨eq,H⟩|⟨eq,H⟩
                 ·obtain⟨aH,bK⟩:∃j_:Int,(wrap64 (al - 1))=j_:=⟨_,rfl⟩;replace H:(if 0<=(aH) then(if(aH)<((qM l1 aa).length:Int) then(if 0<=al then((qI.f (rd (qM l1 aa) (aH)) (rd (qM l1 aa) al)).bind fun a5=>(if qU ao a5.1 a5.2=true then(some false) else(kF.l2 k7 l2 aj (qM l1 aa) (wrap64 (al+1)) l1 (l1.length:Int) aa ag ai (ao++[⟨a5.1,a5.2⟩]) 0))) else(none)) else(none)) else(none))=some r:=by first|(rw[bK]at H;exact H)|(simp only [bK]at H⊢;exact H)
                  have g2:(IntKind.i64.wrap (al - 1))=aH:=(mJ _).trans bK
                  obtain⟨ix,H⟩:=lh H
                  obtain⟨iy,H⟩:=lh H
                  obtain⟨iz,H⟩:=lh H;obtain⟨⟨aV,aW⟩,ev,H⟩:=kW H;(try dsimp only at H)
                  by_cases dt:qU ao aV aW=true
                  ·rw[if_pos dt]at H;obtain rfl:=Option.some.inj H;try go_wp2
                   replace ae:=dm (kw ae.out);replace ab:=dm (kQ ab.out);replace ac:=dm (kQ ac.out);replace HB:=dm (ma HB.out);have bF:0<=((aH):Int):=jX;have bG:(aH)<((qM l1 aa).length:Int):=jX;obtain⟨cL,dK,aS⟩:=lC aP.out (aH) bF bG;have av:=aS;obtain rfl:aK=cL:=(by injection dK);replace aS:=ko HB aS;replace bF:=eq_true bF;replace bG:=eq_true bG;have bH:0<=(al:Int):=jX;have bI:al<((qM l1 aa).length:Int):=jX;obtain⟨cM,dL,aT⟩:=lC aP.out al bH bI;have aw:=aT;obtain rfl:aK=cM:=(by injection dL);replace aT:=ko HB aT;replace bH:=eq_true bH;replace bI:=eq_true bI;refine uX (n:=12) (S:=fun w'=>w'.cell? (aK.add ((aH)).toNat)=some (.int .i64 (rd (qM l1 aa) (aH)))/\w'.cell? (aK.add (al).toNat)=some (.int .i64 (rd (qM l1 aa) al))) (ds:=[]) (lm 12 0) (kR) rfl (kR) ⟨(ko HB av),(ko HB aw)⟩ (fun hHeld=>?_);refine xn kF.Gf kF.C_ (fun HT_ HW_=>?_);generalize wr.drew=jh at ae ab ac HB aS aT hHeld⊢;refine jR 0 113 1 ?_;refine jR 1 114 3 ?_;refine jR 2 115 7 ?_;refine jR 3 116 15 ?_;refine jR 5 118 47 ?_;refine jR 6 119 111 ?_;refine jR 7 120 239 ?_;refine kJ 4 117 255 ?_;refine kJ 8 121 511 ?_;refine qZ (σ:=Nat) 1 (lm 12 2047) (fun s_=>[(122,.agg #[.int .i64 aV,.int .i64 aW]),(15,.pointer (some ⟨s_,0,none⟩))]) (fun s_ w'=>(w'.cell? (aK.add ((aH)).toNat)=some (.int .i64 (rd (qM l1 aa) (aH)))/\w'.cell? (aK.add (al).toNat)=some (.int .i64 (rd (qM l1 aa) al)))/\(Kd.R Kd.bool 4 w' w.heap.size (fun _=>True) a7 aj)/\(w'.heap[az]? =some (.cells #[.int .i64 ag,.slice aN ai.length aO] 31 (0,0)))/\(w'.heap[ax]? =some (ou ao))/\(w'.heap[s_]? =some (.cells #[.int .i64 0,.int .i64 0] 59 (0,0)))/\(w.heap.size<=s_)/\(w.heap.size<=s_)/\(az≠s_)/\(s_≠az)/\(ax≠s_)/\(s_≠ax)/\(Below w.heap.size w w')) ?_ ?_;rotate_left
                   ·intro oh;refine qF (i:=9) (j:=10) (Ni:=some 122) (Nj:=some 15) (lm 12 1023) (lm 12 1535) rfl rfl rfl rfl (qG HT_.out (kR)) (by decide) (by decide) (fun K hK=>?_) (fun K hK=>?_)
                    ·skip;refine qg Try.func53 (kR) rfl #[.int .i64 (rd (qM l1 aa) (aH)),.int .i64 (rd (qM l1 aa) al)] (by rfl) rfl rfl (zx) ?_;refine(qI.calls ev.out).mono ?_;rintro e g3 ⟨rfl,hb⟩;refine⟨_,rfl,?_⟩;replace ae:=kG ae hb;replace ab:=jU ab hb;replace ac:=jU ac hb;replace HB:=kg HB hb;(try clear hb hk);refine hK.out _ _ ⟨(ko HB av),(ko HB aw)⟩ (fun hHeld=>?_);clear hK K;refine kP 122 ?_;refine qz (i:=10) (N:=some 15) (lm 12 2047) rfl rfl (qR HT_.out (kR)) (by decide) (fun K hK=>?_);refine pR ?hg (N:=15) ?hd (cs:= #[.int .i64 0,.int .i64 0]) (t:=59) ?hr ?_;(case hd=>rfl);(case hg=>rfl);(case hr=>first|(go_simp;done)|(go_simp;rfl));intro ah hg g4 jV hb;have n0:=kG ae hb;have n1:=jU ab hb;have n2:=jU ac hb;have n3:=kg HB hb;have n4:=dm (jV);have n5:=dm (ky:w.heap.size<=ah);have n6:=dm (ky:w.heap.size<=ah);have n7:=dm (xL:az≠ah);have n8:=dm (xM:ah≠az);have n9:=dm (zy:ax≠ah);have bo:=dm (zz:ah≠ax);clear ae ab ac HB;revert n0 n1 n2 n3 n4 n5 n6 n7 n8 n9 bo;intro ae ab ac HB aI am a6 aB aF aq aG;clear hb jV hg;refine hK.out _ _ ⟨(ko HB av),(ko HB aw)⟩ (fun hHeld=>?_);clear hK K;refine kP 15 ?_;exact mK (by simp only [nE,Act.put,List.setIfInBounds_toArray,List.set_cons_zero,List.set_cons_succ]) (oh (ah) _ ⟨hHeld,(jW ae.out),(jZ ab.out),(jZ ac.out),(jZ aI.out),am.out,a6.out,aB.out,aF.out,aq.out,aG.out,(jT HB.out)⟩)
                    skip;refine pR ?hg (N:=15) ?hd (cs:= #[.int .i64 0,.int .i64 0]) (t:=59) ?hr ?_;(case hd=>rfl);(case hg=>rfl);(case hr=>first|(go_simp;done)|(go_simp;rfl));intro ah hg g3 jV hb;have n0:=kG ae hb;have n1:=jU ab hb;have n2:=jU ac hb;have n3:=kg HB hb;have n4:=dm (jV);have n5:=dm (ky:w.heap.size<=ah);have n6:=dm (ky:w.heap.size<=ah);have n7:=dm (xL:az≠ah);have n8:=dm (xM:ah≠az);have n9:=dm (zy:ax≠ah);have bo:=dm (zz:ah≠ax);clear ae ab ac HB;revert n0 n1 n2 n3 n4 n5 n6 n7 n8 n9 bo;intro ae ab ac HB aI am a6 aB aF aq aG;clear hb jV hg;refine hK.out _ _ ⟨(ko HB av),(ko HB aw)⟩ (fun hHeld=>?_);clear hK K;refine kP 15 ?_;refine qz (i:=9) (N:=some 122) (lm 12 2047) rfl rfl (qR HT_.out (kR)) (by decide) (fun K hK=>?_);refine qg Try.func53 (kR) rfl #[.int .i64 (rd (qM l1 aa) (aH)),.int .i64 (rd (qM l1 aa) al)] (by rfl) rfl rfl (zx) ?_;refine(qI.calls ev.out).mono ?_;rintro e g4 ⟨rfl,hb⟩;refine⟨_,rfl,?_⟩;replace ae:=kG ae hb;replace ab:=jU ab hb;replace ac:=jU ac hb;replace aI:=jU aI hb;replace HB:=kg HB hb;(try clear hb hk);refine hK.out _ _ ⟨(ko HB av),(ko HB aw)⟩ (fun hHeld=>?_);clear hK K;refine kP 122 ?_;exact mK (by simp only [nE,Act.put,List.setIfInBounds_toArray,List.set_cons_zero,List.set_cons_succ]) (oh (ah) _ ⟨hHeld,(jW ae.out),(jZ ab.out),(jZ ac.out),(jZ aI.out),am.out,a6.out,aB.out,aF.out,aq.out,aG.out,(jT HB.out)⟩)
                   rintro ah bq ⟨hS_,du,dv,dw,dx,dy,dz,dA,dB,dC,dD,cj⟩;have n0:jP (Kd.R Kd.bool 4 bq w.heap.size (fun _=>True) a7 aj):=⟨du⟩;have n1:jP (bq.heap[az]? =some (.cells #[.int .i64 ag,.slice aN ai.length aO] 31 (0,0))):=⟨dv⟩;have n2:jP (bq.heap[ax]? =some (ou ao)):=⟨dw⟩;have n3:jP (bq.heap[ah]? =some (.cells #[.int .i64 0,.int .i64 0] 59 (0,0))):=⟨dx⟩;have n4:jP (w.heap.size<=ah):=⟨dy⟩;have n5:jP (w.heap.size<=ah):=⟨dz⟩;have n6:jP (az≠ah):=⟨dA⟩;have n7:jP (ah≠az):=⟨dB⟩;have n8:jP (ax≠ah):=⟨dC⟩;have n9:jP (ah≠ax):=⟨dD⟩;have bo:jP (Below w.heap.size w bq):=⟨cj⟩;clear ae ab ac HB;clear du dv dw dx dy dz dA dB dC dD cj;revert n0 n1 n2 n3 n4 n5 n6 n7 n8 n9 bo;intro ae ab ac aI am a6 aB aF aq aG HB;have hHeld:bq.cell? (aK.add ((aH)).toNat)=some (.int .i64 (rd (qM l1 aa) (aH)))/\bq.cell? (aK.add (al).toNat)=some (.int .i64 (rd (qM l1 aa) al)):=hS_;refine mK (a':= ?_) ?_ ?_;rotate_left
                   ·simp only [nE,Act.put,List.setIfInBounds_toArray,List.set_cons_zero,List.set_cons_succ];rfl
                   refine qz (i:=11) (N:=none) (lm 12 4095) rfl rfl (qR HT_.out (kR)) (by decide) (fun K hK=>?_);have i9:bq.cell? ⟨ah,0,none⟩=some (.int .i64 0):=jS aI 0;have iA:=l9 aI.out 0;have ga:=aB.out;have gb:=aq.out;have gc:=aF.out;have ge:=aG.out;have i_:bq.cell? ⟨ah,1,none⟩=some (.int .i64 0):=jS aI 1;have iB:=l9 aI.out 1;have gf:=aB.out;have gg:=aq.out;have gh:=aF.out;have gi:=aG.out;refine pM (w1:= ?_) (by rfl) rfl ?_ ?_;rotate_left
                   ·go_simp
                    rfl
                   refine hK.out _ _ ⟨((cell_far (p:=⟨ah,_,none⟩) (qa av am.out) _).trans (((cell_far (p:=⟨ah,_,none⟩) (qa av am.out) _).trans (hHeld.1)))),((cell_far (p:=⟨ah,_,none⟩) (qa aw am.out) _).trans (((cell_far (p:=⟨ah,_,none⟩) (qa aw am.out) _).trans (hHeld.2))))⟩ (fun hHeld=>?_);clear hK K;refine mH (mP HT_.out (kR)) ?_;have iC:=aU.out;have iD:=aR.out;have iE:=aq.out;have iF:=aG.out;have iG:=aF.out;have iH:=aB.out;have⟨gj,gl,gm,gn⟩:=kr (w:=bq) aI
                   go_wp2_with (first|(((with_reducible refine kI 125 rfl ?_);refine Fj 125 (g:=ax) (l:=ao) (x0:=aV) (x1:=aW) (b:=true) (wU (wU ac.out aq.out _) aq.out _) dt ?_)))
                   go_ret
                   exact⟨by first|rfl|(simp[oV,oW]<;>rfl)|(simp only [←aZ,←bK];first|rfl|(simp[oV,oW]<;>rfl))|(simp[*,oV,oW]<;>rfl),jT HB.out⟩
                  rw[if_neg dt]at H;have H':=dm H;clear H;try go_wp2
                  replace ae:=dm (kw ae.out);replace ab:=dm (kQ ab.out);replace ac:=dm (kQ ac.out);replace HB:=dm (ma HB.out);have bF:0<=((aH):Int):=jX;have bG:(aH)<((qM l1 aa).length:Int):=jX;obtain⟨cL,dK,aS⟩:=lC aP.out (aH) bF bG;have av:=aS;obtain rfl:aK=cL:=(by injection dK);replace aS:=ko HB aS;replace bF:=eq_true bF;replace bG:=eq_true bG;have bH:0<=(al:Int):=jX;have bI:al<((qM l1 aa).length:Int):=jX;obtain⟨cM,dL,aT⟩:=lC aP.out al bH bI;have aw:=aT;obtain rfl:aK=cM:=(by injection dL);replace aT:=ko HB aT;replace bH:=eq_true bH;replace bI:=eq_true bI;refine uX (n:=12) (S:=fun w'=>w'.cell? (aK.add ((aH)).toNat)=some (.int .i64 (rd (qM l1 aa) (aH)))/\w'.cell? (aK.add (al).toNat)=some (.int .i64 (rd (qM l1 aa) al))) (ds:=[]) (lm 12 0) (kR) rfl (kR) ⟨(ko HB av),(ko HB aw)⟩ (fun hHeld=>?_);refine xn kF.Gf kF.C_ (fun HT_ HW_=>?_);generalize wr.drew=ji at ae ab ac HB aS aT hHeld⊢;refine jR 0 113 1 ?_;refine jR 1 114 3 ?_;refine jR 2 115 7 ?_;refine jR 3 116 15 ?_;refine jR 5 118 47 ?_;refine jR 6 119 111 ?_;refine jR 7 120 239 ?_;refine kJ 4 117 255 ?_;refine kJ 8 121 511 ?_;refine qZ (σ:=Nat) 1 (lm 12 2047) (fun s_=>[(122,.agg #[.int .i64 aV,.int .i64 aW]),(15,.pointer (some ⟨s_,0,none⟩))]) (fun s_ w'=>(w'.cell? (aK.add ((aH)).toNat)=some (.int .i64 (rd (qM l1 aa) (aH)))/\w'.cell? (aK.add (al).toNat)=some (.int .i64 (rd (qM l1 aa) al)))/\(Kd.R Kd.bool 4 w' w.heap.size (fun _=>True) a7 aj)/\(w'.heap[az]? =some (.cells #[.int .i64 ag,.slice aN ai.length aO] 31 (0,0)))/\(w'.heap[ax]? =some (ou ao))/\(w'.heap[s_]? =some (.cells #[.int .i64 0,.int .i64 0] 59 (0,0)))/\(w.heap.size<=s_)/\(w.heap.size<=s_)/\(az≠s_)/\(s_≠az)/\(ax≠s_)/\(s_≠ax)/\(Below w.heap.size w w')) ?_ ?_;rotate_left
                  ·intro oh;refine qF (i:=9) (j:=10) (Ni:=some 122) (Nj:=some 15) (lm 12 1023) (lm 12 1535) rfl rfl rfl rfl (qG HT_.out (kR)) (by decide) (by decide) (fun K hK=>?_) (fun K hK=>?_)
                   ·skip;refine qg Try.func53 (kR) rfl #[.int .i64 (rd (qM l1 aa) (aH)),.int .i64 (rd (qM l1 aa) al)] (by rfl) rfl rfl (zx) ?_;refine(qI.calls ev.out).mono ?_;rintro e g5 ⟨rfl,hb⟩;refine⟨_,rfl,?_⟩;replace ae:=kG ae hb;replace ab:=jU ab hb;replace ac:=jU ac hb;replace HB:=kg HB hb;(try clear hb hk);refine hK.out _ _ ⟨(ko HB av),(ko HB aw)⟩ (fun hHeld=>?_);clear hK K;refine kP 122 ?_;refine qz (i:=10) (N:=some 15) (lm 12 2047) rfl rfl (qR HT_.out (kR)) (by decide) (fun K hK=>?_);refine pR ?hg (N:=15) ?hd (cs:= #[.int .i64 0,.int .i64 0]) (t:=59) ?hr ?_;(case hd=>rfl);(case hg=>rfl);(case hr=>first|(go_simp;done)|(go_simp;rfl));intro ah hg g6 jV hb;have n0:=kG ae hb;have n1:=jU ab hb;have n2:=jU ac hb;have n3:=kg HB hb;have n4:=dm (jV);have n5:=dm (ky:w.heap.size<=ah);have n6:=dm (ky:w.heap.size<=ah);have n7:=dm (xL:az≠ah);have n8:=dm (xM:ah≠az);have n9:=dm (zy:ax≠ah);have bo:=dm (zz:ah≠ax);clear ae ab ac HB;revert n0 n1 n2 n3 n4 n5 n6 n7 n8 n9 bo;intro ae ab ac HB aI am a6 aB aF aq aG;clear hb jV hg;refine hK.out _ _ ⟨(ko HB av),(ko HB aw)⟩ (fun hHeld=>?_);clear hK K;refine kP 15 ?_;exact mK (by simp only [nE,Act.put,List.setIfInBounds_toArray,List.set_cons_zero,List.set_cons_succ]) (oh (ah) _ ⟨hHeld,(jW ae.out),(jZ ab.out),(jZ ac.out),(jZ aI.out),am.out,a6.out,aB.out,aF.out,aq.out,aG.out,(jT HB.out)⟩)
                   skip;refine pR ?hg (N:=15) ?hd (cs:= #[.int .i64 0,.int .i64 0]) (t:=59) ?hr ?_;(case hd=>rfl);(case hg=>rfl);(case hr=>first|(go_simp;done)|(go_simp;rfl));intro ah hg g5 jV hb;have n0:=kG ae hb;have n1:=jU ab hb;have n2:=jU ac hb;have n3:=kg HB hb;have n4:=dm (jV);have n5:=dm (ky:w.heap.size<=ah);have n6:=dm (ky:w.heap.size<=ah);have n7:=dm (xL:az≠ah);have n8:=dm (xM:ah≠az);have n9:=dm (zy:ax≠ah);have bo:=dm (zz:ah≠ax);clear ae ab ac HB;revert n0 n1 n2 n3 n4 n5 n6 n7 n8 n9 bo;intro ae ab ac HB aI am a6 aB aF aq aG;clear hb jV hg;refine hK.out _ _ ⟨(ko HB av),(ko HB aw)⟩ (fun hHeld=>?_);clear hK K;refine kP 15 ?_;refine qz (i:=9) (N:=some 122) (lm 12 2047) rfl rfl (qR HT_.out (kR)) (by decide) (fun K hK=>?_);refine qg Try.func53 (kR) rfl #[.int .i64 (rd (qM l1 aa) (aH)),.int .i64 (rd (qM l1 aa) al)] (by rfl) rfl rfl (zx) ?_;refine(qI.calls ev.out).mono ?_;rintro e g6 ⟨rfl,hb⟩;refine⟨_,rfl,?_⟩;replace ae:=kG ae hb;replace ab:=jU ab hb;replace ac:=jU ac hb;replace aI:=jU aI hb;replace HB:=kg HB hb;(try clear hb hk);refine hK.out _ _ ⟨(ko HB av),(ko HB aw)⟩ (fun hHeld=>?_);clear hK K;refine kP 122 ?_;exact mK (by simp only [nE,Act.put,List.setIfInBounds_toArray,List.set_cons_zero,List.set_cons_succ]) (oh (ah) _ ⟨hHeld,(jW ae.out),(jZ ab.out),(jZ ac.out),(jZ aI.out),am.out,a6.out,aB.out,aF.out,aq.out,aG.out,(jT HB.out)⟩)
                  rintro ah br ⟨hS_,du,dv,dw,dx,dy,dz,dA,dB,dC,dD,cj⟩;have n0:jP (Kd.R Kd.bool 4 br w.heap.size (fun _=>True) a7 aj):=⟨du⟩;have n1:jP (br.heap[az]? =some (.cells #[.int .i64 ag,.slice aN ai.length aO] 31 (0,0))):=⟨dv⟩;have n2:jP (br.heap[ax]? =some (ou ao)):=⟨dw⟩;have n3:jP (br.heap[ah]? =some (.cells #[.int .i64 0,.int .i64 0] 59 (0,0))):=⟨dx⟩;have n4:jP (w.heap.size<=ah):=⟨dy⟩;have n5:jP (w.heap.size<=ah):=⟨dz⟩;have n6:jP (az≠ah):=⟨dA⟩;have n7:jP (ah≠az):=⟨dB⟩;have n8:jP (ax≠ah):=⟨dC⟩;have n9:jP (ah≠ax):=⟨dD⟩;have bo:jP (Below w.heap.size w br):=⟨cj⟩;clear ae ab ac HB;clear du dv dw dx dy dz dA dB dC dD cj;revert n0 n1 n2 n3 n4 n5 n6 n7 n8 n9 bo;intro ae ab ac aI am a6 aB aF aq aG HB;have hHeld:br.cell? (aK.add ((aH)).toNat)=some (.int .i64 (rd (qM l1 aa) (aH)))/\br.cell? (aK.add (al).toNat)=some (.int .i64 (rd (qM l1 aa) al)):=hS_;refine mK (a':= ?_) ?_ ?_;rotate_left
                  ·simp only [nE,Act.put,List.setIfInBounds_toArray,List.set_cons_zero,List.set_cons_succ];rfl
                  refine qz (i:=11) (N:=none) (lm 12 4095) rfl rfl (qR HT_.out (kR)) (by decide) (fun K hK=>?_);have ja:br.cell? ⟨ah,0,none⟩=some (.int .i64 0):=jS aI 0;have iI:=l9 aI.out 0;have gp:=aB.out;have gq:=aq.out;have gr:=aF.out;have gt:=aG.out;have jb:br.cell? ⟨ah,1,none⟩=some (.int .i64 0):=jS aI 1;have iJ:=l9 aI.out 1;have gu:=aB.out;have gv:=aq.out;have gw:=aF.out;have gx:=aG.out;refine pM (w1:= ?_) (by rfl) rfl ?_ ?_;rotate_left
                  ·go_simp
                   rfl
                  refine hK.out _ _ ⟨((cell_far (p:=⟨ah,_,none⟩) (qa av am.out) _).trans (((cell_far (p:=⟨ah,_,none⟩) (qa av am.out) _).trans (hHeld.1)))),((cell_far (p:=⟨ah,_,none⟩) (qa aw am.out) _).trans (((cell_far (p:=⟨ah,_,none⟩) (qa aw am.out) _).trans (hHeld.2))))⟩ (fun hHeld=>?_);clear hK K;refine mH (mP HT_.out (kR)) ?_;have iK:=aU.out;have iL:=aR.out;have iM:=aq.out;have iN:=aG.out;have iO:=aF.out;have iP:=aB.out;have⟨gy,gz,gA,gB⟩:=kr (w:=br) aI
                  go_wp2_with (first|(((with_reducible refine kI 125 rfl ?_);refine Fj 125 (g:=ax) (l:=ao) (x0:=aV) (x1:=aW) (b:=false) (wU (wU ac.out aq.out _) aq.out _) (Bool.eq_false_iff.mpr dt) ?_))|((at_mapUpdate;refine Km (g:=ax) (l:=ao) (x0:=aV) (x1:=aW) (wU (wU ac.out aq.out _) aq.out _) (Bool.eq_false_iff.mpr dt) ?_;intro w_m hm_ hgm_;replace ae:=dm (kv (CF (kH (p:=⟨ah,1,none⟩) (kH (p:=⟨ah,0,none⟩) (Kn (lG ae.out aI.out (by decide)) ac.out) (fun _ hk=>hk.1.2) (.int .i64 aV)) (fun _ hk=>hk.1.2) (.int .i64 aW)) hgm_ (fun k_ hk e_=>hk.2 (Option.some.inj e_))) (fun _ _=>trivial));replace ab:=dm (yS (pQ (pQ ab.out aB.out _) aB.out _) hgm_ (fun e_=>aR.out (Option.some.inj e_)));replace ac:=dm hm_;replace HB:=dm (Ke (jT HB.out) hgm_ eY.out);clear hm_ hgm_)))
                  go_roundg k7
                  case measure=>have:=bl.out;have:=bm.out;have:=ba.out;have:=bj.out;have:=bu.out;have:=b5.out;have:=cU.out;omega
                  case rel=>exact⟨(wrap64 (al+1)),(ao++[⟨aV,aW⟩]),(kD),H',⟨by have:=bl.out;have:=bm.out;have:=ba.out;have:=bj.out;have:=bu.out;have:=b5.out;have:=cU.out;omega⟩,⟨jW ae.out⟩,⟨jZ ab.out⟩,⟨jZ ac.out⟩,⟨jT HB.out⟩⟩
                 have H':=dm H;clear H
                 go_wp2
                 go_loopg [130] k7 (fun kq fQ w'=>∃ (bk:List Bool) (aD:Int),fQ=.int .i64 aD/\jP (kF.l3 kq l2 bk l1 (l1.length:Int) aa (qM l1 aa) ((qM l1 aa).length:Int) aD ag ai ao 0=some r)/\jP (kq<=k7)/\jP (Kd.R Kd.bool 4 w' w.heap.size (fun _=>True) a7 bk)/\jP (w'.heap[az]? =some (.cells #[.int .i64 ag,(.slice aN ai.length aO)] 31 (0,0)))/\jP (w'.heap[ax]? =some (ou ao))/\jP (Below w.heap.size w w'))
                 case atStart=>exact⟨(aj),(0),(kD),H',⟨Nat.le_refl _⟩,⟨jW ae.out⟩,⟨jZ ab.out⟩,⟨jZ ac.out⟩,⟨jT HB.out⟩⟩
                 case round=>
                  clear H';(try clear eq);obtain⟨bk,aD,rfl,HA,eE,ae,ab,ac,HB⟩:=hrel;cases gk with
                  |zero=>exact absurd HA.out (by simp[kF.l3])
                  |succ k8=>
                   have H:=HA.out;clear HA;simp only [kF.l3]at H
                   replace H:=mf H;rcases H with⟨fw,H⟩|⟨fw,H⟩
                   ·skip
                    obtain⟨g7,H⟩:=lh H
                    obtain⟨g8,H⟩:=lh H
                    obtain⟨g9,H⟩:=lh H
                    obtain⟨g_,H⟩:=lh H;obtain⟨dM,bT⟩:∃y_:List Bool,y_=(bk.set ((rd (qM l1 aa) aD):Int).toNat true):=⟨_,rfl⟩;replace H:(kF.l3 k8 l2 dM l1 (l1.length:Int) aa (qM l1 aa) ((qM l1 aa).length:Int) (wrap64 (aD+1)) ag ai ao 0)=some r:=l7 bT H
                    have fx:=dm bT;clear bT;have H':=dm H;clear H;have dN:0<=(aD:Int):=jX;have dO:aD<((qM l1 aa).length:Int):=jX;obtain⟨fy,fR,ct⟩:=lC aP.out aD dN dO;obtain rfl:aK=fy:=(by injection fR);replace ct:=ko HB ct;replace dN:=eq_true dN;replace dO:=eq_true dO;have dP:0<=((rd (qM l1 aa) aD):Int):=jX;have dQ:((rd (qM l1 aa) aD):Int)<((bk.length:Int):Int):=jX;obtain⟨cS,fz,ew,ex,fA,iQ,ey⟩:=wD ae.out (by omega);(first|cases ew|(injection ew with ea_ en_ ec_;(first|subst ea_|(injection ea_ with ea_;subst ea_));subst ec_;clear en_));have fB:=dm ex;have iR:=dm ey;clear ex fA ey;obtain⟨gC,gD⟩:=sM false ae.out ((rd (qM l1 aa) aD):Int) dP dQ;replace dP:=eq_true dP;replace dQ:=eq_true dQ;have cT:=wF ae.out ((rd (qM l1 aa) aD):Int) true
                    go_wp2_with (first|((with_reducible refine vW (t:=4) (p:=136) rfl ?_);refine wB (t:=4) (p:=136) (v:= ?vo_w106) (w1:=(wr.setCell ⟨cS,((rd (qM l1 aa) aD):Int).toNat,none⟩ (.bool true))) ?hg ?ho ?hn ?hr ?_;(case ho=>rfl);(case hg=>rfl);(case hn=>rfl);(case hr=>first|(go_simp;done)|(go_simp;rfl));intro dR hw;have hg:wr.grownBy dR (some cS):=(by rw[hw];exact cT.2);have hp_:Kd.R Kd.bool 4 dR w.heap.size (fun _=>True) (.slice (some ⟨cS,0,none⟩) bk.length fz) dM:=(by rw[hw,fx.out];exact cT.1);clear cT;replace ab:=lW ab hg (lS ae.out ab.out (by decide));replace ac:=lW ac hg (mNe ae.out ac.out);replace ae:=dm (hp_);replace HB:=dm ((by rw[hw];exact nT (HB.out) fB.out:Below w.heap.size w dR));clear hg hw hp_))
                    go_roundg k8
                    case measure=>have:=bl.out;have:=bm.out;have:=ba.out;have:=bj.out;have:=bu.out;have:=b5.out;have:=cU.out;have:=eE.out;omega
                    case rel=>exact⟨(dM),(wrap64 (aD+1)),(kD),H',⟨Eg⟩,⟨jW ae.out⟩,⟨jZ ab.out⟩,⟨jZ ac.out⟩,⟨jT HB.out⟩⟩
                   have H':=dm H;clear H
                   go_wp2
                   go_roundg k8
                   case measure=>have:=bl.out;have:=bm.out;have:=ba.out;have:=bj.out;have:=bu.out;have:=b5.out;have:=cU.out;have:=eE.out;omega
                   case rel=>exact⟨(bk),(wrap64 (aa+1)),(ao),(kD),H',⟨Eg⟩,⟨jW ae.out⟩,⟨jZ ab.out⟩,⟨jZ ac.out⟩,⟨jT HB.out⟩⟩
            obtain rfl:=Option.some.inj H
            go_wp2_with (first|((with_reducible refine uj (f:=52) rfl ?_);refine sW (some 94) rfl rfl Try.func52 (kR) rfl #[.slice A2 ak.length c2] rfl (qH) ?_;refine(oI.calls (kE (lq ei.out HB.out)) fG.out fH.out).mono ?_;rintro e w' ⟨rfl,⟨nd,rfl⟩⟩;refine⟨_,rfl,?_⟩))
            go_ret
            exact⟨xK,jT HB.out⟩
     skip
     by_cases bJ:(af.length:Int)=(ai.length:Int)
     ·rw[if_pos bJ]at H;have eS:=beq_iff_eq.mpr bJ;have eT:=bne_eq_false_iff_eq.mpr bJ;clear bJ;obtain⟨cu,fS,H⟩:=kW H;(try dsimp only at H);obtain rfl:=Option.some.inj H;have hD:=aU.out;have hJ:=aR.out;have⟨fT,fU,fV,fW⟩:=kr (w:=wr) ab;obtain⟨iS,iT,fC⟩:=kM ae.out;subst fC
      go_wp2_with (first|((with_reducible refine kI 140 rfl ?_);refine Fu 140 (g:=ax) (l:=af) ac.out ?_)|(go_at_call 54;refine(sI.calls (kE (ku ae.out).2.2) ((ku ae.out).2.1) fS.out).mono ?_;rintro e w' ⟨rfl,⟨nd,rfl⟩⟩))
      go_ret
      exact⟨nN,jT HB.out⟩
     rw[if_neg bJ]at H;have eS:=beq_eq_false_iff_ne.mpr bJ;have eT:=bne_iff_ne.mpr bJ;obtain rfl:=Option.some.inj H;have hU:=aU.out;have hV:=aR.out;have⟨fX,fY,fZ,f2⟩:=kr (w:=wr) ab
     go_wp2_with (first|((with_reducible refine kI 140 rfl ?_);refine Fu 140 (g:=ax) (l:=af) ac.out ?_))
     go_ret
     exact⟨nN,jT HB.out⟩
def wT.f (k:Nat) (ab:Int) (aa:List (S59)) (l1:List (List Int)):Option (Bool):=kF.f k ab aa l1 []
theorem wT.calls {k:Nat}{ab:Int}{ac:Option Addr}{ae:Nat}{aa:List (S59)}{A1:Option Addr}{c1:Nat}{l1:List (List Int)}{r:Bool}{w:World}(af:Kd.C k59 w ac aa.length aa)(ag:aa.length<=ae)(hr1:Kd.C (Kd.slice 3 (Kd.int .i64)) w A1 l1.length l1)(ah:l1.length<=c1)(h:wT.f k ab aa l1=some r):
 Calls Try.prog 19 #[.agg #[.int .i64 ab,.slice ac aa.length ae],.slice A1 l1.length c1] w fun e w'=>e=.returned (.bool r)/\Below w.heap.size w w':=kF.calls k ab ac ae aa A1 c1 l1 [] r w af ag hr1 ah h
theorem sP(h:p:=by exact lM af.out):p:=h
theorem nU(h:p:=by exact lM ac.out):p:=h
theorem Dw(h:p:=by(try simp only [List.map_toArray,List.map_cons,List.map_nil]);first|done|(simp only [aK];rfl)|rfl|(simp only [List.length_drop,List.length_take];rfl)):p:=h
theorem xC(h:p:=by rw[hg];exact Nat.ne_of_lt (lL (g:=ah) (o:=.cells #[.int .i64 ag,.slice (some aj) aa.length az] 31 (0,0)) (jZ ac.out))):p:=h
theorem xD(h:p:=by rw[hg];exact Nat.ne_of_gt (lL (g:=ah) (o:=.cells #[.int .i64 ag,.slice (some aj) aa.length az] 31 (0,0)) (jZ ac.out))):p:=h
theorem AZ(h:p:=by rw[hg];exact Nat.ne_of_lt (lL (g:=aq) (o:=.cells #[.int .i64 ag,.int .i64 aI] 59 (0,0)) (jZ au.out))):p:=h
theorem A_(h:p:=by rw[hg];exact Nat.ne_of_gt (lL (g:=aq) (o:=.cells #[.int .i64 ag,.int .i64 aI] 59 (0,0)) (jZ au.out))):p:=h
def qE.f (a0:Int) (a1:Int) (a2:Int):Option (Bool):=if a0>=a1 then(some (decide (a0<=a2))) else(some false)
theorem qE.calls {a0:Int}{a1:Int}{a2:Int}{r:Bool}{w:World}(h:qE.f a0 a1 a2=some r):
  Calls Try.prog 75 #[.int .i64 a0,.int .i64 a1,.int .i64 a2] w fun e w'=>e=.returned (.bool r)/\kX w w':=by
 unfold qE.f at h;have H:=h;clear h
 replace H:=mf H;rcases H with⟨bJ,H⟩|⟨bJ,H⟩
 ·obtain rfl:=Option.some.inj H
  go_enter Try.func75,Try.ntmps75
  go_wp2
  go_ret
  exact⟨kD,by repeat(first|exact kX.refl _|apply kX.step)⟩
 obtain rfl:=Option.some.inj H
 go_enter Try.func75,Try.ntmps75
 go_wp2
 go_ret
 exact⟨kD,by repeat(first|exact kX.refl _|apply kX.step)⟩
def tq.f (ag:Int) (aI:Int) (ax:Int) (aN:Int):Option (Bool):=if ag<ax then(some true) else(if ag=ax then(some (decide (aI<aN))) else(some false))
theorem tq.calls {ag:Int}{aI:Int}{ax:Int}{aN:Int}{r:Bool}{w:World}(h:tq.f ag aI ax aN=some r):
  Calls Try.prog 76 #[.agg #[.int .i64 ag,.int .i64 aI],.agg #[.int .i64 ax,.int .i64 aN]] w fun e w'=>e=.returned (.bool r)/\Below w.heap.size w w':=by
 have bK:=Try.underlying59;have HB:=dm (Below.refl w.heap.size w);unfold tq.f at h;have H:=h;clear h
 replace H:=mf H;rcases H with⟨bL,H⟩|⟨bL,H⟩
 ·obtain rfl:=Option.some.inj H
  go_enter Try.func76,Try.ntmps76
  go_wp2_with (first|((with_reducible refine kI 2 rfl ?_);refine lu #[.int .i64 ag,.int .i64 aI] 59 ?_;intro aq hg w4 jV hb;have au:=dm (jV);have bh:=dm (ky:w.heap.size<=aq);have bj:=dm (ky:w.heap.size<=aq);replace HB:=kg HB hb;clear hb jV hg)|((with_reducible refine kI 3 rfl ?_);refine lu #[.int .i64 ax,.int .i64 aN] 59 ?_;intro ay hg w5 jV hb;have aR:=dm (jV);have bk:=dm (ky:w.heap.size<=ay);have bl:=dm (ky:w.heap.size<=ay);replace HB:=kg HB hb;have aF:=dm (AZ:aq≠ay);have aG:=dm (A_:ay≠aq);replace au:=jU au hb;clear hb jV hg;have dJ:=aF.out;have dK:=aG.out;have⟨bz,bA,bB,bC⟩:=kr (w:=w5) au;have⟨cU,cW,cX,cY⟩:=kr (w:=w5) aR))
  go_ret
  exact⟨nN,jT HB.out⟩
 skip
 by_cases c9:ag=ax
 ·rw[if_pos c9]at H;have bd:=beq_iff_eq.mpr c9;have bM:=bne_eq_false_iff_eq.mpr c9;clear c9;obtain rfl:=Option.some.inj H
  go_enter Try.func76,Try.ntmps76
  go_wp2_with (first|((with_reducible refine kI 2 rfl ?_);refine lu #[.int .i64 ag,.int .i64 aI] 59 ?_;intro aq hg dM jV hb;have au:=dm (jV);have bh:=dm (ky:w.heap.size<=aq);have bj:=dm (ky:w.heap.size<=aq);replace HB:=kg HB hb;clear hb jV hg)|((with_reducible refine kI 3 rfl ?_);refine lu #[.int .i64 ax,.int .i64 aN] 59 ?_;intro ay hg bG jV hb;have aR:=dm (jV);have bk:=dm (ky:w.heap.size<=ay);have bl:=dm (ky:w.heap.size<=ay);replace HB:=kg HB hb;have aF:=dm (AZ:aq≠ay);have aG:=dm (A_:ay≠aq);replace au:=jU au hb;clear hb jV hg;have dl:=aF.out;have dn:=aG.out;have⟨bN,bO,bP,bQ⟩:=kr (w:=bG) au;have⟨bR,bS,bT,bU⟩:=kr (w:=bG) aR))
  go_ret
  exact⟨nN,jT HB.out⟩
 rw[if_neg c9]at H;have bd:=beq_eq_false_iff_ne.mpr c9;have bM:=bne_iff_ne.mpr c9;obtain rfl:=Option.some.inj H
 go_enter Try.func76,Try.ntmps76
 go_wp2_with (first|((with_reducible refine kI 2 rfl ?_);refine lu #[.int .i64 ag,.int .i64 aI] 59 ?_;intro aq hg dN jV hb;have au:=dm (jV);have bh:=dm (ky:w.heap.size<=aq);have bj:=dm (ky:w.heap.size<=aq);replace HB:=kg HB hb;clear hb jV hg)|((with_reducible refine kI 3 rfl ?_);refine lu #[.int .i64 ax,.int .i64 aN] 59 ?_;intro ay hg bH jV hb;have aR:=dm (jV);have bk:=dm (ky:w.heap.size<=ay);have bl:=dm (ky:w.heap.size<=ay);replace HB:=kg HB hb;have aF:=dm (AZ:aq≠ay);have aG:=dm (A_:ay≠aq);replace au:=jU au hb;clear hb jV hg;have dq:=aF.out;have dr:=aG.out;have⟨bV,bW,bX,bY⟩:=kr (w:=bH) au;have⟨bZ,b3,b4,b5⟩:=kr (w:=bH) aR))
 go_ret
 exact⟨nN,jT HB.out⟩
mutual
def mo.j0:Nat->Bool->Int->List (S59)->Option (Bool)
 |0,_,_,_=>none
 |k+1,cZ,aH,ao=>if cZ=true then(some false) else(mo.l0 k 0 aH ao)
def mo.l0:Nat->Int->Int->List (S59)->Option (Bool)
 |0,_,_,_=>none
 |k+1,x3,aH,ao=>if x3<(ao.length:Int) then(if 0<=x3 then((qE.f ((jQ ao x3).f0) 0 (wrap64 (aH - 1))).bind fun aZ=>(if aZ=true then((qE.f ((jQ ao x3).f1) (wrap64 (((jQ ao x3).f0)+1)) (wrap64 (aH - 1))).bind fun aO=>(if aO=true then(if x3>0 then(if 0<=(wrap64 (x3 - 1)) then(if(wrap64 (x3 - 1))<(ao.length:Int) then((tq.f ((jQ ao (wrap64 (x3 - 1))).f0) ((jQ ao (wrap64 (x3 - 1))).f1) ((jQ ao x3).f0) ((jQ ao x3).f1)).bind fun aE=>(if aE=true then(mo.l0 k (wrap64 (x3+1)) aH ao) else(some false))) else(none)) else(none)) else(mo.l0 k (wrap64 (x3+1)) aH ao)) else(some false))) else(some false))) else(none)) else(some true)
end
def mo.f (k:Nat) (ag:Int) (aa:List (S59)):Option (Bool):=(qE.f ag 0 8).bind fun aS=>(if aS=true then(mo.j0 k (decide ((aa.length:Int)>64)) ag aa) else(mo.j0 k true ag aa))
def mo.T7:Bool×List (List Nat×List Nat):=(true,[([],[]),([0],[0]),([],[]),([2],[2]),([3],[3]),([1,4],[1,4]),([5],[5]),([6,5],[6]),([7],[7]),([8,7],[7,8]),([7],[7]),([10,7],[7,10]),([11,7],[7,11]),([7],[7]),([13,7],[7,13]),([14,7],[7,14]),([9,12,15,7,7],[7,9,12,15]),([16,7],[7,16]),([7,17],[7,17]),([18,16],[18]),([19],[19]),([20,19],[19,20]),([21,19,19],[19,21]),([22],[22]),([23,22],[22,23]),([22],[22]),([25,22],[22,25]),([24,26,22],[22,24,26]),([27,22],[22,27]),([22],[22]),([28,29,22,22],[22,28,29]),([30,22],[22,30]),([22,31,19],[19,22,31]),([19,32],[19,32])])
def mo.B7:List Nat:=[0,1,0,4,12,31,63,127,255,511,255,1279,3327,255,8447,24831,65535,131071,262143,524287,1048575,2097151,4194303,8388607,16777215,8388607,41943039,134217727,268435455,8388607,1073741823,2147483647,4294967295,8589934591]
theorem mo.si:mR .any (opsOf Try.f32 7)=mo.T7:=by kernel_rfl
theorem mo.rX:nS mo.T7.2 mo.B7=true:=by kernel_rfl
theorem mo.calls {k:Nat}{ag:Int}{aW:Option Addr}{az:Nat}{aa:List (S59)}{r:Bool}{w:World}(bm:Kd.C k59 w aW aa.length aa)(bn:aa.length<=az)(h:mo.f k ag aa=some r):
  Calls Try.prog 32 #[.agg #[.int .i64 ag,.slice aW aa.length az]] w fun e w'=>e=.returned (.bool r)/\Below w.heap.size w w':=by
 have dL:=Try.underlying31;have bK:=Try.underlying59;have aL:=dm bm;have dt:=dm bn;clear bm bn;have HB:=dm (Below.refl w.heap.size w);unfold mo.f at h;have H:=h;clear h;have bD:=dm H;clear H
 go_enter Try.func32,Try.ntmps32
 go_upto_region 1 with(first|((with_reducible refine kI 1 rfl ?_);(try(refine nQ (by rfl) ?_;dsimp only));refine qd 1 #[.int .i64 ag,.slice aW aa.length az] 31 ?_;intro ah hg w3 jV hb;have ac:=dm (jV);have du:=dm (ky:w.heap.size<=ah);have dv:=dm (ky:w.heap.size<=ah);replace HB:=kg HB hb;clear hb jV hg))
 (try simp only [Act.put,List.setIfInBounds_toArray,List.set_cons_zero,List.set_cons_succ])
 go_cut [14] (fun c_ wc=>∃ (kq:Nat) (aT:Bool),c_=.bool aT/\jP (mo.j0 kq aT ag aa=some r)/\jP (kq<=k)/\jP (wc.heap[ah]? =some (.cells #[.int .i64 ag,(.slice aW aa.length az)] 31 (0,0)))/\jP (Below w.heap.size w wc))
 case first=>
  have H:=bD.out;clear bD;obtain⟨aS,A4,H⟩:=kW H;(try dsimp only at H)
  rcases mr H with⟨h_,H_⟩|⟨h_,H_⟩<;> (subst h_;clear H;have H:=H_;clear H_)
  ·have H':=dm H;clear H;have⟨db,dc,dd,de⟩:=kr (w:=w3) ac
   go_wp2_with (first|((with_reducible refine kY 75 rfl ?_);refine lH 7 rfl Try.func75 (qE.calls A4.out) ?_;rintro e w' ⟨rfl,⟨nd,rfl⟩⟩;refine⟨_,rfl,?_⟩))
   go_meet
   case rel=>exact⟨_,(decide ((aa.length:Int)>64)),(kD),H',⟨by first|omega|exact Nat.le_refl _⟩,⟨jZ ac.out⟩,⟨jT HB.out⟩⟩
  have H':=dm H;clear H;have⟨bz,bA,bB,bC⟩:=kr (w:=w3) ac
  go_wp2_with (first|((with_reducible refine kY 75 rfl ?_);refine lH 7 rfl Try.func75 (qE.calls A4.out) ?_;rintro e w' ⟨rfl,⟨nd,rfl⟩⟩;refine⟨_,rfl,?_⟩))
  go_meet
  case rel=>exact⟨_,(true),(kD),H',⟨by first|omega|exact Nat.le_refl _⟩,⟨jZ ac.out⟩,⟨jT HB.out⟩⟩
 case rest=>
  clear bD;obtain⟨kq,aT,rfl,HA,bo,ac,HB⟩:=hcut;cases kq with
  |zero=>exact absurd HA.out (by simp[mo.j0])
  |succ bE=>
   have H:=HA.out;clear HA;simp only [mo.j0]at H
   rcases mr H with⟨h_,H_⟩|⟨h_,H_⟩<;> (subst h_;clear H;have H:=H_;clear H_)
   ·obtain rfl:=Option.some.inj H
    go_wp2
    go_ret
    exact⟨nN,jT HB.out⟩
   have H':=dm H;clear H
   go_wp2
   go_loopg [3] bE (fun kq v3 w'=>∃ (ab:Int),v3=.int .i64 ab/\jP (mo.l0 kq ab ag aa=some r)/\jP (kq<=bE)/\jP (w'.heap[ah]? =some (.cells #[.int .i64 ag,(.slice aW aa.length az)] 31 (0,0)))/\jP (Below w.heap.size w w'))
   case atStart=>exact⟨(0),(kD),H',⟨Nat.le_refl _⟩,⟨jZ ac.out⟩,⟨jT HB.out⟩⟩
   case round=>
    clear H';(try clear c8);obtain⟨ab,rfl,HA,bp,ac,HB⟩:=hrel;cases gk with
    |zero=>exact absurd HA.out (by simp[mo.l0])
    |succ k2=>
     have H:=HA.out;clear HA;simp only [mo.l0]at H
     replace H:=mf H;rcases H with⟨bd,H⟩|⟨bd,H⟩
     ·skip
      obtain⟨dw,H⟩:=lh H;obtain⟨aZ,aX,H⟩:=kW H;(try dsimp only at H)
      rcases mr H with⟨h_,H_⟩|⟨h_,H_⟩<;> (subst h_;clear H;have H:=H_;clear H_)
      ·obtain⟨aO,a6,H⟩:=kW H;(try dsimp only at H)
       rcases mr H with⟨h_,H_⟩|⟨h_,H_⟩<;> (subst h_;clear H;have H:=H_;clear H_)
       ·skip
        replace H:=mf H;rcases H with⟨bF,H⟩|⟨bF,H⟩
        ·obtain⟨ai,aK⟩:∃j_:Int,(wrap64 (ab - 1))=j_:=⟨_,rfl⟩;replace H:(if 0<=(ai) then(if(ai)<(aa.length:Int) then((tq.f ((jQ aa (ai)).f0) ((jQ aa (ai)).f1) ((jQ aa ab).f0) ((jQ aa ab).f1)).bind fun aE=>(if aE=true then(mo.l0 k2 (wrap64 (ab+1)) ag aa) else(some false))) else(none)) else(none))=some r:=by first|(rw[aK]at H;exact H)|(simp only [aK]at H⊢;exact H)
         (try rw[aK]at aX);(try rw[aK]at a6);have df:(IntKind.i64.wrap (ab - 1))=ai:=(mJ _).trans aK
         obtain⟨dx,H⟩:=lh H
         obtain⟨dy,H⟩:=lh H;obtain⟨aE,bI,H⟩:=kW H;(try dsimp only at H)
         rcases mr H with⟨h_,H_⟩|⟨h_,H_⟩<;> (subst h_;clear H;have H:=H_;clear H_)
         ·have H':=dm H;clear H;have⟨b6,b7,b8,b9⟩:=kr (w:=wr) ac;have av:0<=(ab:Int):=jX;have aw:ab<(aa.length:Int):=jX;obtain⟨aj,aM,al,am⟩:=ng aL.out ab av aw;cases aM;replace al:=ko HB al;replace am:=ko HB am;replace av:=eq_true av;replace aw:=eq_true aw;try go_wp2_with (first|((with_reducible refine kI 4 rfl ?_);(try(refine nQ (by rfl) ?_;dsimp only));refine qd 4 #[.int .i64 0,.int .i64 0] 59 ?_;intro ae hg a7 jV hb;have af:=dm (jV);have aU:=dm (ky:w.heap.size<=ae);have aV:=dm (ky:w.heap.size<=ae);replace HB:=kg HB hb;have ak:=dm (xC:ah≠ae);have ap:=dm (xD:ae≠ah);replace ac:=jU ac hb;clear hb jV hg;have dz:=ap.out;have dA:=ak.out;have⟨b_,ca,cd,ce⟩:=kr (w:=a7) af))
          have n0:jP (((a7.setCell ⟨ae,0,none⟩ (.int .i64 ((jQ aa ab).f0))).setCell ⟨ae,1,none⟩ (.int .i64 ((jQ aa ab).f1))).heap[ah]? =some (.cells #[.int .i64 ag,.slice (some aj) aa.length az] 31 (0,0))):=⟨nU⟩;have n1:jP (((a7.setCell ⟨ae,0,none⟩ (.int .i64 ((jQ aa ab).f0))).setCell ⟨ae,1,none⟩ (.int .i64 ((jQ aa ab).f1))).heap[ae]? =some (.cells #[.int .i64 ((jQ aa ab).f0),.int .i64 ((jQ aa ab).f1)] 59 (0,0))):=⟨sP⟩;have n2:jP (Below w.heap.size w ((a7.setCell ⟨ae,0,none⟩ (.int .i64 ((jQ aa ab).f0))).setCell ⟨ae,1,none⟩ (.int .i64 ((jQ aa ab).f1)))):=⟨jT HB.out⟩;(try clear ac af HB);generalize((a7.setCell ⟨ae,0,none⟩ (.int .i64 ((jQ aa ab).f0))).setCell ⟨ae,1,none⟩ (.int .i64 ((jQ aa ab).f1)))=dg at n0 n1 n2⊢;revert n0 n1 n2;intro ac af HB;replace ac:=dm (kQ ac.out);replace af:=dm (kQ af.out);replace HB:=dm (ma HB.out);have aP:0<=((ai):Int):=jX;have aQ:(ai)<(aa.length:Int):=jX;obtain⟨a3,bf,aA,aB⟩:=ng aL.out (ai) aP aQ;have aC:=aB;have aD:=aA;obtain rfl:aj=a3:=(by injection bf);replace aA:=ko HB aA;replace aB:=ko HB aB;replace aP:=eq_true aP;replace aQ:=eq_true aQ;refine mZ 34 (S:=fun w'=>w'.cell? ⟨ae,0,none⟩=some (.int .i64 ((jQ aa ab).f0))/\w'.cell? ⟨ae,1,none⟩=some (.int .i64 ((jQ aa ab).f1))/\w'.cell? ⟨ah,0,none⟩=some (.int .i64 ag)/\w'.cell? ⟨ah,1,none⟩=some (.slice (some aj) aa.length az)/\w'.cell? (aj.add (((ai)).toNat*2))=some (.int .i64 ((jQ aa (ai)).f0))/\w'.cell? ⟨(aj.add (((ai)).toNat*2)).block,(aj.add (((ai)).toNat*2)).off+1,none⟩=some (.int .i64 ((jQ aa (ai)).f1))) [] ⟨jS af 0,jS af 1,jS ac 0,jS ac 1,(ko HB aD),(ko HB aC)⟩ mo.si mo.rX (fun hHeld HT_ HW_=>?_);generalize dg.drew=dO at ac af HB aA aB hHeld⊢;refine jR 0 27 1 ?_;refine jR 2 29 5 ?_;refine kJ 1 28 7 ?_;refine kJ 3 30 15 ?_;refine jR 4 31 31 ?_;refine lD 5 32 63 (fun K hK=>?_);refine mE Try.func75 (qE.calls aX.out) ?_;rintro e w' ⟨rfl,⟨nd,rfl⟩⟩;refine⟨_,rfl,?_⟩;refine hK.out _ _ ⟨jS af 0,jS af 1,jS ac 0,jS ac 1,(ko HB aD),(ko HB aC)⟩ (fun hHeld=>?_);clear hK K;refine kP 32 ?_;refine jR 6 33 127 ?_;refine jR 7 34 255 ?_;refine jR 8 35 511 ?_;refine jR 10 37 1535 ?_;refine jR 13 40 9727 ?_;refine kJ 9 36 10239 ?_;refine kJ 11 38 12287 ?_;refine jR 12 39 16383 ?_;refine kJ 14 41 32767 ?_;refine jR 15 42 65535 ?_;refine lD 16 43 131071 (fun K hK=>?_);refine mE Try.func75 (qE.calls a6.out) ?_;rintro e w' ⟨rfl,⟨nd,rfl⟩⟩;refine⟨_,rfl,?_⟩;refine hK.out _ _ ⟨jS af 0,jS af 1,jS ac 0,jS ac 1,(ko HB aD),(ko HB aC)⟩ (fun hHeld=>?_);clear hK K;refine kP 43 ?_;refine jR 17 44 262143 ?_;refine jR 18 45 524287 ?_;refine jR 19 46 1048575 ?_;refine jR 20 47 2097151 ?_;refine jR 21 48 4194303 ?_;refine jR 22 49 8388607 ?_;refine jR 23 50 16777215 ?_;refine jR 25 52 50331647 ?_;refine jR 26 53 117440511 ?_;refine kJ 24 51 134217727 ?_;refine jR 27 54 268435455 ?_;refine kJ 28 55 536870911 ?_;refine kJ 29 56 1073741823 ?_;refine lD 30 57 2147483647 (fun K hK=>?_);refine qg Try.func76 (kR) rfl #[.agg #[.int .i64 ((jQ aa (ai)).f0),.int .i64 ((jQ aa (ai)).f1)],.agg #[.int .i64 ((jQ aa ab).f0),.int .i64 ((jQ aa ab).f1)]] (by rfl) rfl rfl (Dw) ?_;refine(tq.calls bI.out).mono ?_;rintro e dP ⟨rfl,hb⟩;refine⟨_,rfl,?_⟩;replace ac:=jU ac hb;replace af:=jU af hb;replace HB:=kg HB hb;(try clear hb);refine hK.out _ _ ⟨jS af 0,jS af 1,jS ac 0,jS ac 1,(ko HB aD),(ko HB aC)⟩ (fun hHeld=>?_);clear hK K;refine kP 57 ?_;refine jR 31 58 4294967295 ?_;refine jR 32 59 8589934591 ?_;refine jR 33 60 17179869183 ?_;refine mH (mP HT_.out (kR)) ?_;try go_wp2
          go_roundg k2
          case measure=>have:=bo.out;have:=bp.out;omega
          case rel=>exact⟨(wrap64 (ab+1)),(kD),H',⟨by have:=bo.out;have:=bp.out;omega⟩,⟨jZ ac.out⟩,⟨jT HB.out⟩⟩
         obtain rfl:=Option.some.inj H;have⟨cf,cg,ch,ci⟩:=kr (w:=wr) ac;have av:0<=(ab:Int):=jX;have aw:ab<(aa.length:Int):=jX;obtain⟨aj,aM,al,am⟩:=ng aL.out ab av aw;cases aM;replace al:=ko HB al;replace am:=ko HB am;replace av:=eq_true av;replace aw:=eq_true aw;try go_wp2_with (first|((with_reducible refine kI 4 rfl ?_);(try(refine nQ (by rfl) ?_;dsimp only));refine qd 4 #[.int .i64 0,.int .i64 0] 59 ?_;intro ae hg a8 jV hb;have af:=dm (jV);have aU:=dm (ky:w.heap.size<=ae);have aV:=dm (ky:w.heap.size<=ae);replace HB:=kg HB hb;have ak:=dm (xC:ah≠ae);have ap:=dm (xD:ae≠ah);replace ac:=jU ac hb;clear hb jV hg;have dB:=ap.out;have dC:=ak.out;have⟨cj,ck,cl,cm⟩:=kr (w:=a8) af))
         have n0:jP (((a8.setCell ⟨ae,0,none⟩ (.int .i64 ((jQ aa ab).f0))).setCell ⟨ae,1,none⟩ (.int .i64 ((jQ aa ab).f1))).heap[ah]? =some (.cells #[.int .i64 ag,.slice (some aj) aa.length az] 31 (0,0))):=⟨nU⟩;have n1:jP (((a8.setCell ⟨ae,0,none⟩ (.int .i64 ((jQ aa ab).f0))).setCell ⟨ae,1,none⟩ (.int .i64 ((jQ aa ab).f1))).heap[ae]? =some (.cells #[.int .i64 ((jQ aa ab).f0),.int .i64 ((jQ aa ab).f1)] 59 (0,0))):=⟨sP⟩;have n2:jP (Below w.heap.size w ((a8.setCell ⟨ae,0,none⟩ (.int .i64 ((jQ aa ab).f0))).setCell ⟨ae,1,none⟩ (.int .i64 ((jQ aa ab).f1)))):=⟨jT HB.out⟩;(try clear ac af HB);generalize((a8.setCell ⟨ae,0,none⟩ (.int .i64 ((jQ aa ab).f0))).setCell ⟨ae,1,none⟩ (.int .i64 ((jQ aa ab).f1)))=dh at n0 n1 n2⊢;revert n0 n1 n2;intro ac af HB;replace ac:=dm (kQ ac.out);replace af:=dm (kQ af.out);replace HB:=dm (ma HB.out);have aP:0<=((ai):Int):=jX;have aQ:(ai)<(aa.length:Int):=jX;obtain⟨a3,bf,aA,aB⟩:=ng aL.out (ai) aP aQ;have aC:=aB;have aD:=aA;obtain rfl:aj=a3:=(by injection bf);replace aA:=ko HB aA;replace aB:=ko HB aB;replace aP:=eq_true aP;replace aQ:=eq_true aQ;refine mZ 34 (S:=fun w'=>w'.cell? ⟨ae,0,none⟩=some (.int .i64 ((jQ aa ab).f0))/\w'.cell? ⟨ae,1,none⟩=some (.int .i64 ((jQ aa ab).f1))/\w'.cell? ⟨ah,0,none⟩=some (.int .i64 ag)/\w'.cell? ⟨ah,1,none⟩=some (.slice (some aj) aa.length az)/\w'.cell? (aj.add (((ai)).toNat*2))=some (.int .i64 ((jQ aa (ai)).f0))/\w'.cell? ⟨(aj.add (((ai)).toNat*2)).block,(aj.add (((ai)).toNat*2)).off+1,none⟩=some (.int .i64 ((jQ aa (ai)).f1))) [] ⟨jS af 0,jS af 1,jS ac 0,jS ac 1,(ko HB aD),(ko HB aC)⟩ mo.si mo.rX (fun hHeld HT_ HW_=>?_);generalize dh.drew=dQ at ac af HB aA aB hHeld⊢;refine jR 0 27 1 ?_;refine jR 2 29 5 ?_;refine kJ 1 28 7 ?_;refine kJ 3 30 15 ?_;refine jR 4 31 31 ?_;refine lD 5 32 63 (fun K hK=>?_);refine mE Try.func75 (qE.calls aX.out) ?_;rintro e w' ⟨rfl,⟨nd,rfl⟩⟩;refine⟨_,rfl,?_⟩;refine hK.out _ _ ⟨jS af 0,jS af 1,jS ac 0,jS ac 1,(ko HB aD),(ko HB aC)⟩ (fun hHeld=>?_);clear hK K;refine kP 32 ?_;refine jR 6 33 127 ?_;refine jR 7 34 255 ?_;refine jR 8 35 511 ?_;refine jR 10 37 1535 ?_;refine jR 13 40 9727 ?_;refine kJ 9 36 10239 ?_;refine kJ 11 38 12287 ?_;refine jR 12 39 16383 ?_;refine kJ 14 41 32767 ?_;refine jR 15 42 65535 ?_;refine lD 16 43 131071 (fun K hK=>?_);refine mE Try.func75 (qE.calls a6.out) ?_;rintro e w' ⟨rfl,⟨nd,rfl⟩⟩;refine⟨_,rfl,?_⟩;refine hK.out _ _ ⟨jS af 0,jS af 1,jS ac 0,jS ac 1,(ko HB aD),(ko HB aC)⟩ (fun hHeld=>?_);clear hK K;refine kP 43 ?_;refine jR 17 44 262143 ?_;refine jR 18 45 524287 ?_;refine jR 19 46 1048575 ?_;refine jR 20 47 2097151 ?_;refine jR 21 48 4194303 ?_;refine jR 22 49 8388607 ?_;refine jR 23 50 16777215 ?_;refine jR 25 52 50331647 ?_;refine jR 26 53 117440511 ?_;refine kJ 24 51 134217727 ?_;refine jR 27 54 268435455 ?_;refine kJ 28 55 536870911 ?_;refine kJ 29 56 1073741823 ?_;refine lD 30 57 2147483647 (fun K hK=>?_);refine qg Try.func76 (kR) rfl #[.agg #[.int .i64 ((jQ aa (ai)).f0),.int .i64 ((jQ aa (ai)).f1)],.agg #[.int .i64 ((jQ aa ab).f0),.int .i64 ((jQ aa ab).f1)]] (by rfl) rfl rfl (Dw) ?_;refine(tq.calls bI.out).mono ?_;rintro e dR ⟨rfl,hb⟩;refine⟨_,rfl,?_⟩;replace ac:=jU ac hb;replace af:=jU af hb;replace HB:=kg HB hb;(try clear hb);refine hK.out _ _ ⟨jS af 0,jS af 1,jS ac 0,jS ac 1,(ko HB aD),(ko HB aC)⟩ (fun hHeld=>?_);clear hK K;refine kP 57 ?_;refine jR 31 58 4294967295 ?_;refine jR 32 59 8589934591 ?_;refine jR 33 60 17179869183 ?_;refine mH (mP HT_.out (kR)) ?_;try go_wp2
         go_ret
         exact⟨by first|rfl|(simp[oV,oW]<;>rfl)|(simp only [←aK];first|rfl|(simp[oV,oW]<;>rfl))|(simp[*,oV,oW]<;>rfl),jT HB.out⟩
        have H':=dm H;clear H;have⟨cn,co,cp,cq⟩:=kr (w:=wr) ac;have av:0<=(ab:Int):=jX;have aw:ab<(aa.length:Int):=jX;obtain⟨aj,aM,al,am⟩:=ng aL.out ab av aw;cases aM;replace al:=ko HB al;replace am:=ko HB am;replace av:=eq_true av;replace aw:=eq_true aw;try go_wp2_with (first|((with_reducible refine kI 4 rfl ?_);(try(refine nQ (by rfl) ?_;dsimp only));refine qd 4 #[.int .i64 0,.int .i64 0] 59 ?_;intro ae hg a9 jV hb;have af:=dm (jV);have aU:=dm (ky:w.heap.size<=ae);have aV:=dm (ky:w.heap.size<=ae);replace HB:=kg HB hb;have ak:=dm (xC:ah≠ae);have ap:=dm (xD:ae≠ah);replace ac:=jU ac hb;clear hb jV hg;have dD:=ap.out;have dE:=ak.out;have⟨cr,ct,cu,cv⟩:=kr (w:=a9) af))
        have n0:jP (((a9.setCell ⟨ae,0,none⟩ (.int .i64 ((jQ aa ab).f0))).setCell ⟨ae,1,none⟩ (.int .i64 ((jQ aa ab).f1))).heap[ah]? =some (.cells #[.int .i64 ag,.slice (some aj) aa.length az] 31 (0,0))):=⟨nU⟩;have n1:jP (((a9.setCell ⟨ae,0,none⟩ (.int .i64 ((jQ aa ab).f0))).setCell ⟨ae,1,none⟩ (.int .i64 ((jQ aa ab).f1))).heap[ae]? =some (.cells #[.int .i64 ((jQ aa ab).f0),.int .i64 ((jQ aa ab).f1)] 59 (0,0))):=⟨sP⟩;have n2:jP (Below w.heap.size w ((a9.setCell ⟨ae,0,none⟩ (.int .i64 ((jQ aa ab).f0))).setCell ⟨ae,1,none⟩ (.int .i64 ((jQ aa ab).f1)))):=⟨jT HB.out⟩;(try clear ac af HB);generalize((a9.setCell ⟨ae,0,none⟩ (.int .i64 ((jQ aa ab).f0))).setCell ⟨ae,1,none⟩ (.int .i64 ((jQ aa ab).f1)))=di at n0 n1 n2⊢;revert n0 n1 n2;intro ac af HB;replace ac:=dm (kQ ac.out);replace af:=dm (kQ af.out);replace HB:=dm (ma HB.out);refine mZ 34 (S:=fun w'=>w'.cell? ⟨ae,0,none⟩=some (.int .i64 ((jQ aa ab).f0))/\w'.cell? ⟨ae,1,none⟩=some (.int .i64 ((jQ aa ab).f1))/\w'.cell? ⟨ah,0,none⟩=some (.int .i64 ag)/\w'.cell? ⟨ah,1,none⟩=some (.slice (some aj) aa.length az)) [] ⟨jS af 0,jS af 1,jS ac 0,jS ac 1⟩ mo.si mo.rX (fun hHeld HT_ HW_=>?_);generalize di.drew=dS at ac af HB hHeld⊢;refine jR 0 27 1 ?_;refine jR 2 29 5 ?_;refine kJ 1 28 7 ?_;refine kJ 3 30 15 ?_;refine jR 4 31 31 ?_;refine lD 5 32 63 (fun K hK=>?_);refine mE Try.func75 (qE.calls aX.out) ?_;rintro e w' ⟨rfl,⟨nd,rfl⟩⟩;refine⟨_,rfl,?_⟩;refine hK.out _ _ ⟨jS af 0,jS af 1,jS ac 0,jS ac 1⟩ (fun hHeld=>?_);clear hK K;refine kP 32 ?_;refine jR 6 33 127 ?_;refine jR 7 34 255 ?_;refine jR 8 35 511 ?_;refine jR 10 37 1535 ?_;refine jR 13 40 9727 ?_;refine kJ 9 36 10239 ?_;refine kJ 11 38 12287 ?_;refine jR 12 39 16383 ?_;refine kJ 14 41 32767 ?_;refine jR 15 42 65535 ?_;refine lD 16 43 131071 (fun K hK=>?_);refine mE Try.func75 (qE.calls a6.out) ?_;rintro e w' ⟨rfl,⟨nd,rfl⟩⟩;refine⟨_,rfl,?_⟩;refine hK.out _ _ ⟨jS af 0,jS af 1,jS ac 0,jS ac 1⟩ (fun hHeld=>?_);clear hK K;refine kP 43 ?_;refine jR 17 44 262143 ?_;refine jR 18 45 524287 ?_;refine jR 19 46 1048575 ?_;refine jR 20 47 2097151 ?_;refine jR 21 48 4194303 ?_;refine jR 22 49 8388607 ?_;refine l6 23 50 16777215 ?_;refine l6 24 51 33554431 ?_;refine l6 25 52 67108863 ?_;refine l6 26 53 134217727 ?_;refine l6 27 54 268435455 ?_;refine l6 28 55 536870911 ?_;refine l6 29 56 1073741823 ?_;refine l6 30 57 2147483647 ?_;refine l6 31 58 4294967295 ?_;refine jR 32 59 8589934591 ?_;refine jR 33 60 17179869183 ?_;refine mH (mP HT_.out (kR)) ?_;try go_wp2
        go_roundg k2
        case measure=>have:=bo.out;have:=bp.out;omega
        case rel=>exact⟨(wrap64 (ab+1)),(kD),H',⟨by have:=bo.out;have:=bp.out;omega⟩,⟨jZ ac.out⟩,⟨jT HB.out⟩⟩
       obtain rfl:=Option.some.inj H;have⟨cw,cx,cy,cz⟩:=kr (w:=wr) ac;have av:0<=(ab:Int):=jX;have aw:ab<(aa.length:Int):=jX;obtain⟨aj,aM,al,am⟩:=ng aL.out ab av aw;cases aM;replace al:=ko HB al;replace am:=ko HB am;replace av:=eq_true av;replace aw:=eq_true aw;try go_wp2_with (first|((with_reducible refine kI 4 rfl ?_);(try(refine nQ (by rfl) ?_;dsimp only));refine qd 4 #[.int .i64 0,.int .i64 0] 59 ?_;intro ae hg a_ jV hb;have af:=dm (jV);have aU:=dm (ky:w.heap.size<=ae);have aV:=dm (ky:w.heap.size<=ae);replace HB:=kg HB hb;have ak:=dm (xC:ah≠ae);have ap:=dm (xD:ae≠ah);replace ac:=jU ac hb;clear hb jV hg;have dF:=ap.out;have dG:=ak.out;have⟨cA,cD,cE,cF⟩:=kr (w:=a_) af))
       have n0:jP (((a_.setCell ⟨ae,0,none⟩ (.int .i64 ((jQ aa ab).f0))).setCell ⟨ae,1,none⟩ (.int .i64 ((jQ aa ab).f1))).heap[ah]? =some (.cells #[.int .i64 ag,.slice (some aj) aa.length az] 31 (0,0))):=⟨nU⟩;have n1:jP (((a_.setCell ⟨ae,0,none⟩ (.int .i64 ((jQ aa ab).f0))).setCell ⟨ae,1,none⟩ (.int .i64 ((jQ aa ab).f1))).heap[ae]? =some (.cells #[.int .i64 ((jQ aa ab).f0),.int .i64 ((jQ aa ab).f1)] 59 (0,0))):=⟨sP⟩;have n2:jP (Below w.heap.size w ((a_.setCell ⟨ae,0,none⟩ (.int .i64 ((jQ aa ab).f0))).setCell ⟨ae,1,none⟩ (.int .i64 ((jQ aa ab).f1)))):=⟨jT HB.out⟩;(try clear ac af HB);generalize((a_.setCell ⟨ae,0,none⟩ (.int .i64 ((jQ aa ab).f0))).setCell ⟨ae,1,none⟩ (.int .i64 ((jQ aa ab).f1)))=dj at n0 n1 n2⊢;revert n0 n1 n2;intro ac af HB;replace ac:=dm (kQ ac.out);replace af:=dm (kQ af.out);replace HB:=dm (ma HB.out);refine mZ 34 (S:=fun w'=>w'.cell? ⟨ae,0,none⟩=some (.int .i64 ((jQ aa ab).f0))/\w'.cell? ⟨ae,1,none⟩=some (.int .i64 ((jQ aa ab).f1))/\w'.cell? ⟨ah,0,none⟩=some (.int .i64 ag)/\w'.cell? ⟨ah,1,none⟩=some (.slice (some aj) aa.length az)) [] ⟨jS af 0,jS af 1,jS ac 0,jS ac 1⟩ mo.si mo.rX (fun hHeld HT_ HW_=>?_);generalize dj.drew=dT at ac af HB hHeld⊢;refine jR 0 27 1 ?_;refine jR 2 29 5 ?_;refine kJ 1 28 7 ?_;refine kJ 3 30 15 ?_;refine jR 4 31 31 ?_;refine lD 5 32 63 (fun K hK=>?_);refine mE Try.func75 (qE.calls aX.out) ?_;rintro e w' ⟨rfl,⟨nd,rfl⟩⟩;refine⟨_,rfl,?_⟩;refine hK.out _ _ ⟨jS af 0,jS af 1,jS ac 0,jS ac 1⟩ (fun hHeld=>?_);clear hK K;refine kP 32 ?_;refine jR 6 33 127 ?_;refine jR 7 34 255 ?_;refine jR 8 35 511 ?_;refine jR 10 37 1535 ?_;refine jR 13 40 9727 ?_;refine kJ 9 36 10239 ?_;refine kJ 11 38 12287 ?_;refine jR 12 39 16383 ?_;refine kJ 14 41 32767 ?_;refine jR 15 42 65535 ?_;refine lD 16 43 131071 (fun K hK=>?_);refine mE Try.func75 (qE.calls a6.out) ?_;rintro e w' ⟨rfl,⟨nd,rfl⟩⟩;refine⟨_,rfl,?_⟩;refine hK.out _ _ ⟨jS af 0,jS af 1,jS ac 0,jS ac 1⟩ (fun hHeld=>?_);clear hK K;refine kP 43 ?_;refine jR 17 44 262143 ?_;refine jR 18 45 524287 ?_;refine jR 19 46 1048575 ?_;refine l6 20 47 2097151 ?_;refine l6 21 48 4194303 ?_;refine l6 22 49 8388607 ?_;refine l6 23 50 16777215 ?_;refine l6 24 51 33554431 ?_;refine l6 25 52 67108863 ?_;refine l6 26 53 134217727 ?_;refine l6 27 54 268435455 ?_;refine l6 28 55 536870911 ?_;refine l6 29 56 1073741823 ?_;refine l6 30 57 2147483647 ?_;refine l6 31 58 4294967295 ?_;refine l6 32 59 8589934591 ?_;refine jR 33 60 17179869183 ?_;refine mH (mP HT_.out (kR)) ?_;try go_wp2
       go_ret
       exact⟨nN,jT HB.out⟩
      obtain rfl:=Option.some.inj H;have⟨cG,cH,cI,cJ⟩:=kr (w:=wr) ac;have av:0<=(ab:Int):=jX;have aw:ab<(aa.length:Int):=jX;obtain⟨aj,aM,al,am⟩:=ng aL.out ab av aw;cases aM;replace al:=ko HB al;replace am:=ko HB am;replace av:=eq_true av;replace aw:=eq_true aw;try go_wp2_with (first|((with_reducible refine kI 4 rfl ?_);(try(refine nQ (by rfl) ?_;dsimp only));refine qd 4 #[.int .i64 0,.int .i64 0] 59 ?_;intro ae hg ba jV hb;have af:=dm (jV);have aU:=dm (ky:w.heap.size<=ae);have aV:=dm (ky:w.heap.size<=ae);replace HB:=kg HB hb;have ak:=dm (xC:ah≠ae);have ap:=dm (xD:ae≠ah);replace ac:=jU ac hb;clear hb jV hg;have dH:=ap.out;have dI:=ak.out;have⟨cL,cM,cN,cO⟩:=kr (w:=ba) af))
      have n0:jP (((ba.setCell ⟨ae,0,none⟩ (.int .i64 ((jQ aa ab).f0))).setCell ⟨ae,1,none⟩ (.int .i64 ((jQ aa ab).f1))).heap[ah]? =some (.cells #[.int .i64 ag,.slice (some aj) aa.length az] 31 (0,0))):=⟨nU⟩;have n1:jP (((ba.setCell ⟨ae,0,none⟩ (.int .i64 ((jQ aa ab).f0))).setCell ⟨ae,1,none⟩ (.int .i64 ((jQ aa ab).f1))).heap[ae]? =some (.cells #[.int .i64 ((jQ aa ab).f0),.int .i64 ((jQ aa ab).f1)] 59 (0,0))):=⟨sP⟩;have n2:jP (Below w.heap.size w ((ba.setCell ⟨ae,0,none⟩ (.int .i64 ((jQ aa ab).f0))).setCell ⟨ae,1,none⟩ (.int .i64 ((jQ aa ab).f1)))):=⟨jT HB.out⟩;(try clear ac af HB);generalize((ba.setCell ⟨ae,0,none⟩ (.int .i64 ((jQ aa ab).f0))).setCell ⟨ae,1,none⟩ (.int .i64 ((jQ aa ab).f1)))=dk at n0 n1 n2⊢;revert n0 n1 n2;intro ac af HB;replace ac:=dm (kQ ac.out);replace af:=dm (kQ af.out);replace HB:=dm (ma HB.out);refine mZ 34 (S:=fun w'=>w'.cell? ⟨ae,0,none⟩=some (.int .i64 ((jQ aa ab).f0))/\w'.cell? ⟨ae,1,none⟩=some (.int .i64 ((jQ aa ab).f1))/\w'.cell? ⟨ah,0,none⟩=some (.int .i64 ag)/\w'.cell? ⟨ah,1,none⟩=some (.slice (some aj) aa.length az)) [] ⟨jS af 0,jS af 1,jS ac 0,jS ac 1⟩ mo.si mo.rX (fun hHeld HT_ HW_=>?_);generalize dk.drew=dU at ac af HB hHeld⊢;refine jR 0 27 1 ?_;refine jR 2 29 5 ?_;refine kJ 1 28 7 ?_;refine kJ 3 30 15 ?_;refine jR 4 31 31 ?_;refine lD 5 32 63 (fun K hK=>?_);refine mE Try.func75 (qE.calls aX.out) ?_;rintro e w' ⟨rfl,⟨nd,rfl⟩⟩;refine⟨_,rfl,?_⟩;refine hK.out _ _ ⟨jS af 0,jS af 1,jS ac 0,jS ac 1⟩ (fun hHeld=>?_);clear hK K;refine kP 32 ?_;refine jR 6 33 127 ?_;refine jR 7 34 255 ?_;refine l6 8 35 511 ?_;refine l6 9 36 1023 ?_;refine l6 10 37 2047 ?_;refine l6 11 38 4095 ?_;refine l6 12 39 8191 ?_;refine l6 13 40 16383 ?_;refine l6 14 41 32767 ?_;refine l6 15 42 65535 ?_;refine l6 16 43 131071 ?_;refine l6 17 44 262143 ?_;refine jR 18 45 524287 ?_;refine jR 19 46 1048575 ?_;refine l6 20 47 2097151 ?_;refine l6 21 48 4194303 ?_;refine l6 22 49 8388607 ?_;refine l6 23 50 16777215 ?_;refine l6 24 51 33554431 ?_;refine l6 25 52 67108863 ?_;refine l6 26 53 134217727 ?_;refine l6 27 54 268435455 ?_;refine l6 28 55 536870911 ?_;refine l6 29 56 1073741823 ?_;refine l6 30 57 2147483647 ?_;refine l6 31 58 4294967295 ?_;refine l6 32 59 8589934591 ?_;refine jR 33 60 17179869183 ?_;refine mH (mP HT_.out (kR)) ?_;try go_wp2
      go_ret
      exact⟨nN,jT HB.out⟩
     obtain rfl:=Option.some.inj H;have⟨cP,cQ,cS,cT⟩:=kr (w:=wr) ac
     go_wp2
     go_ret
     exact⟨nN,jT HB.out⟩
attribute [local go_sem high] Bo
def rH.f (a0:Int) (a1:Int):Option (Int×Int):=if a0<a1 then(some (a0,a1)) else(some (a1,a0))
theorem rH.calls {a0:Int}{a1:Int}{r1:Int}{r2:Int}{w:World}(h:rH.f a0 a1=some (r1,r2)):
  Calls Try.prog 46 #[.int .i64 a0,.int .i64 a1] w fun e w'=>e=.returned (.agg #[.int .i64 r1,.int .i64 r2])/\Below w.heap.size w w':=by
 have bQ:=Try.underlying59;have HB:=dm (Below.refl w.heap.size w);unfold rH.f at h;have H:=h;clear h
 replace H:=mf H;rcases H with⟨a7,H⟩|⟨a7,H⟩
 ·simp only [Option.some.injEq,Prod.mk.injEq]at H;obtain⟨rfl,rfl⟩:=H
  go_enter Try.func46,Try.ntmps46
  go_wp2_with (first|((with_reducible refine kI 4 rfl ?_);refine lu #[.int .i64 0,.int .i64 0] 59 ?_;intro aD hg w4 jV hb;have aT:=dm (jV);have bD:=dm (ky:w.heap.size<=aD);have bE:=dm (ky:w.heap.size<=aD);replace HB:=kg HB hb;clear hb jV hg;have⟨cg,ch,ci,cj⟩:=kr (w:=w4) aT))
  refine bodyPost_ret (results_cell_row rfl _ _ aD 59 #[.int .i64 a0,.int .i64 a1] (0,0) _ rfl (lM aT.out) Try.underlying59 rfl (by kernel_rfl)) rfl ?_;exact⟨nN,jT HB.out⟩
 simp only [Option.some.injEq,Prod.mk.injEq]at H;obtain⟨rfl,rfl⟩:=H
 go_enter Try.func46,Try.ntmps46
 go_wp2_with (first|((with_reducible refine kI 4 rfl ?_);refine lu #[.int .i64 0,.int .i64 0] 59 ?_;intro aD hg w6 jV hb;have aT:=dm (jV);have bD:=dm (ky:w.heap.size<=aD);have bE:=dm (ky:w.heap.size<=aD);replace HB:=kg HB hb;clear hb jV hg;have⟨bn,bo,bp,bq⟩:=kr (w:=w6) aT))
 refine bodyPost_ret (results_cell_row rfl _ _ aD 59 #[.int .i64 a1,.int .i64 a0] (0,0) _ rfl (lM aT.out) Try.underlying59 rfl (by kernel_rfl)) rfl ?_;exact⟨nN,jT HB.out⟩
def oC.l0:Nat->List Int->Int->Int->Option (Bool)
 |0,_,_,_=>none
 |k+1,x0,x1,x5=>if x5<(x0.length:Int) then(if 0<=x5 then(if(rd x0 x5)=x1 then(some true) else(oC.l0 k x0 x1 (wrap64 (x5+1)))) else(none)) else(some false)
def oC.f (k:Nat) (l0:List Int) (a1:Int):Option (Bool):=oC.l0 k l0 a1 0
theorem oC.calls {k:Nat}{A0:Option Addr}{c0:Nat}{l0:List Int}{a1:Int}{r:Bool}{w:World}(bL:Kd.C (Kd.int .i64) w A0 l0.length l0)(bM:l0.length<=c0)(h:oC.f k l0 a1=some r):
  Calls Try.prog 47 #[.slice A0 l0.length c0,.int .i64 a1] w fun e w'=>e=.returned (.bool r)/\kX w w':=by
 have bN:=dm bL;have cw:=dm bM;clear bL bM;unfold oC.f at h;have H:=h;clear h;have H':=dm H;clear H
 go_enter Try.func47,Try.ntmps47
 go_wp2
 go_loopg [5] k (fun kq v5 w'=>∃ (af:Int),v5=.int .i64 af/\jP (oC.l0 kq l0 a1 af=some r)/\jP (kq<=k)/\kX w w')
 case atStart=>exact⟨(0),(kD),H',⟨Nat.le_refl _⟩,by repeat(first|exact kX.refl _|apply kX.step)⟩
 case round=>
  clear H';try clear p2
  obtain⟨af,rfl,HA,aK,⟨m1,rfl⟩⟩:=hrel;cases gk with
  |zero=>exact absurd HA.out (by simp[oC.l0])
  |succ k1=>
   have H:=HA.out;clear HA;simp only [oC.l0]at H
   replace H:=mf H;rcases H with⟨a7,H⟩|⟨a7,H⟩
   ·skip
    obtain⟨cr,H⟩:=lh H
    by_cases c5:(rd l0 af)=a1
    ·rw[if_pos c5]at H;have a8:=beq_iff_eq.mpr c5;have bR:=bne_eq_false_iff_eq.mpr c5;clear c5;obtain rfl:=Option.some.inj H;have aM:0<=(af:Int):=jX;have aN:af<(l0.length:Int):=jX;obtain⟨bF,a9,bf⟩:=lC bN.out af aM aN;cases a9;replace aM:=eq_true aM;replace aN:=eq_true aN
     go_wp2
     go_ret
     exact⟨kD,by repeat(first|exact kX.refl _|apply kX.step)⟩
    rw[if_neg c5]at H;have a8:=beq_eq_false_iff_ne.mpr c5;have bR:=bne_iff_ne.mpr c5;have H':=dm H;clear H;have aM:0<=(af:Int):=jX;have aN:af<(l0.length:Int):=jX;obtain⟨bF,a9,bf⟩:=lC bN.out af aM aN;cases a9;replace aM:=eq_true aM;replace aN:=eq_true aN
    go_wp2
    go_roundg k1
    case measure=>have:=aK.out;omega
    case rel=>exact⟨(wrap64 (af+1)),(kD),H',⟨by have:=aK.out;omega⟩,by repeat(first|exact kX.refl _|apply kX.step)⟩
   obtain rfl:=Option.some.inj H
   go_wp2
   go_ret
   exact⟨kD,by repeat(first|exact kX.refl _|apply kX.step)⟩
def oz.f (k:Nat) (ab:Int) (aa:List (S59)) (a1:Int):Option (Bool):=(mo.f k ab aa).bind fun aX=>(if aX=true then((qE.f a1 0 (wrap64 (ab - 1))).bind fun az=>(some az)) else(some false))
theorem oz.calls {k:Nat}{ab:Int}{aj:Option Addr}{ai:Nat}{aa:List (S59)}{a1:Int}{r:Bool}{w:World}(aw:Kd.C k59 w aj aa.length aa)(ax:aa.length<=ai)(h:oz.f k ab aa a1=some r):
  Calls Try.prog 85 #[.agg #[.int .i64 ab,.slice aj aa.length ai],.int .i64 a1] w fun e w'=>e=.returned (.bool r)/\Below w.heap.size w w':=by
 have br:=Try.underlying31;have ay:=dm aw;have aG:=dm ax;clear aw ax;have HB:=dm (Below.refl w.heap.size w);unfold oz.f at h;have H:=h;clear h;obtain⟨aX,A3,H⟩:=kW H;(try dsimp only at H)
 rcases mr H with⟨h_,H_⟩|⟨h_,H_⟩<;> (subst h_;clear H;have H:=H_;clear H_)
 ·obtain⟨az,A5,H⟩:=kW H;(try dsimp only at H);obtain rfl:=Option.some.inj H
  go_enter Try.func85,Try.ntmps85
  go_wp2_with (first|((with_reducible refine kI 2 rfl ?_);refine lu #[.int .i64 ab,.slice aj aa.length ai] 31 ?_;intro aU hg w6 jV hb;have am:=dm (jV);have bG:=dm (ky:w.heap.size<=aU);have bH:=dm (ky:w.heap.size<=aU);replace HB:=kg HB hb;clear hb jV hg;have⟨bn,bo,bp,bq⟩:=kr (w:=w6) am)|((with_reducible refine kY 32 rfl ?_);refine oF 6 rfl Try.func32 (mo.calls (kE (lq ay.out HB.out)) aG.out A3.out) ?_;intro w8 hb;replace am:=jU am hb;replace HB:=kg HB hb;(try clear hb);have⟨bu,bv,bx,bz⟩:=kr (w:=w8) am)|(go_at_call 75;refine(qE.calls A5.out).mono ?_;rintro e w' ⟨rfl,⟨nd,rfl⟩⟩))
  go_ret
  exact⟨nN,jT HB.out⟩
 obtain rfl:=Option.some.inj H
 go_enter Try.func85,Try.ntmps85
 go_wp2_with (first|((with_reducible refine kI 2 rfl ?_);refine lu #[.int .i64 ab,.slice aj aa.length ai] 31 ?_;intro aU hg bO jV hb;have am:=dm (jV);have bG:=dm (ky:w.heap.size<=aU);have bH:=dm (ky:w.heap.size<=aU);replace HB:=kg HB hb;clear hb jV hg;have⟨bW,bX,bY,bZ⟩:=kr (w:=bO) am)|((with_reducible refine kY 32 rfl ?_);refine oF 6 rfl Try.func32 (mo.calls (kE (lq ay.out HB.out)) aG.out A3.out) ?_;intro ck hb;replace am:=jU am hb;replace HB:=kg HB hb;(try clear hb)))
 go_ret
 exact⟨nN,jT HB.out⟩
def oN.l0:Nat->Int->Int->Int->Int->List (S59)->Option (Bool)
 |0,_,_,_,_,_=>none
 |k+1,x1,x2,x7,bh,aH=>if x7<(aH.length:Int) then(if 0<=x7 then((rH.f x1 x2).bind fun ba=>(if(((jQ aH x7).f0)==ba.1&&(((jQ aH x7).f1)==ba.2))=true then(some true) else(oN.l0 k x1 x2 (wrap64 (x7+1)) bh aH))) else(none)) else(some false)
def oN.f (k:Nat) (ab:Int) (aa:List (S59)) (a1:Int) (a2:Int):Option (Bool):=oN.l0 k a1 a2 0 ab aa
def oN.T4:Bool×List (List Nat×List Nat):=(true,[([],[]),([0],[0]),([],[]),([1,2],[1,2]),([3],[3]),([],[]),([],[]),([5,6],[5,6]),([4,7],[4,7])])
def oN.B4:List Nat:=[0,1,0,7,15,0,0,96,255]
theorem oN.uy:mR .any (opsOf Try.f113 4)=oN.T4:=by kernel_rfl
theorem oN.ug:nS oN.T4.2 oN.B4=true:=by kernel_rfl
theorem oN.calls {k:Nat}{ab:Int}{aj:Option Addr}{ai:Nat}{aa:List (S59)}{a1:Int}{a2:Int}{r:Bool}{w:World}(aw:Kd.C k59 w aj aa.length aa)(ax:aa.length<=ai)(h:oN.f k ab aa a1 a2=some r):
  Calls Try.prog 113 #[.agg #[.int .i64 ab,.slice aj aa.length ai],.int .i64 a1,.int .i64 a2] w fun e w'=>e=.returned (.bool r)/\Below w.heap.size w w':=by
 have br:=Try.underlying31;have bQ:=Try.underlying59;have ay:=dm aw;have aG:=dm ax;clear aw ax;have HB:=dm (Below.refl w.heap.size w);unfold oN.f at h;have H:=h;clear h;have H':=dm H;clear H
 go_enter Try.func113,Try.ntmps113
 go_wp2_with (first|((with_reducible refine kI 3 rfl ?_);refine lu #[.int .i64 ab,.slice aj aa.length ai] 31 ?_;intro aE hg w4 jV hb;have ae:=dm (jV);have cn:=dm (ky:w.heap.size<=aE);have co:=dm (ky:w.heap.size<=aE);replace HB:=kg HB hb;clear hb jV hg))
 go_loopg [7] k (fun kq v7 w'=>∃ (ac:Int),v7=.int .i64 ac/\jP (oN.l0 kq a1 a2 ac ab aa=some r)/\jP (kq<=k)/\jP (w'.heap[aE]? =some (.cells #[.int .i64 ab,(.slice aj aa.length ai)] 31 (0,0)))/\jP (Below w.heap.size w w'))
 case atStart=>exact⟨(0),(kD),H',⟨Nat.le_refl _⟩,⟨jZ ae.out⟩,⟨jT HB.out⟩⟩
 case round=>
  clear H';obtain⟨ac,rfl,HA,aK,ae,HB⟩:=hrel;cases gk with
  |zero=>exact absurd HA.out (by simp[oN.l0])
  |succ k1=>
   have H:=HA.out;clear HA;simp only [oN.l0]at H
   replace H:=mf H;rcases H with⟨a8,H⟩|⟨a8,H⟩
   ·skip
    obtain⟨bA,H⟩:=lh H;obtain⟨⟨aq,au⟩,A7,H⟩:=kW H;(try dsimp only at H)
    by_cases c8:(((jQ aa ac).f0)==aq&&(((jQ aa ac).f1)==au))=true
    ·rw[if_pos c8]at H;have bS:(((jQ aa ac).f0)==aq&&(((jQ aa ac).f1)==au))=true:=c8;(try(have bT:decide (((jQ aa ac).f0)=aq&&(((jQ aa ac).f1)==au))=true:=by simpa using c8));(try(have bU:(((jQ aa ac).f0)==aq&&(((jQ aa ac).f1)==au))=true:=by simpa using c8));clear c8;obtain rfl:=Option.some.inj H;have⟨bu,bv,bx,bz⟩:=kr (w:=wr) ae;try go_wp2
     replace ae:=dm (kQ ae.out);replace HB:=dm (ma HB.out);have aQ:0<=(ac:Int):=jX;have aR:ac<(aa.length:Int):=jX;obtain⟨ap,a_,ak,al⟩:=ng ay.out ac aQ aR;have aA:=al;have aC:=ak;cases a_;replace ak:=ko HB ak;replace al:=ko HB al;replace aQ:=eq_true aQ;replace aR:=eq_true aR;refine mZ 9 (S:=fun w'=>w'.cell? ⟨aE,0,none⟩=some (.int .i64 ab)/\w'.cell? ⟨aE,1,none⟩=some (.slice (some ap) aa.length ai)/\w'.cell? (ap.add ((ac).toNat*2))=some (.int .i64 ((jQ aa ac).f0))/\w'.cell? ⟨(ap.add ((ac).toNat*2)).block,(ap.add ((ac).toNat*2)).off+1,none⟩=some (.int .i64 ((jQ aa ac).f1))) [] ⟨jS ae 0,jS ae 1,(ko HB aC),(ko HB aA)⟩ oN.uy oN.ug (fun hHeld HT_ HW_=>?_);generalize wr.drew=bO at ae HB ak al hHeld⊢;refine jR 0 15 1 ?_;refine jR 2 17 5 ?_;refine jR 5 20 37 ?_;refine jR 6 21 101 ?_;refine kJ 1 16 103 ?_;refine jR 3 18 111 ?_;refine kJ 4 19 127 ?_;refine lD 7 22 255 (fun K hK=>?_);refine rD Try.func46 (rH.calls A7.out) ?_;intro cl hb;replace ae:=jU ae hb;replace HB:=kg HB hb;(try clear hb);refine hK.out _ _ ⟨jS ae 0,jS ae 1,(ko HB aC),(ko HB aA)⟩ (fun hHeld=>?_);clear hK K;refine kP 22 ?_;refine jR 8 23 511 ?_;refine mH (mP HT_.out (by kernel_rfl)) ?_;try go_wp2
     go_ret
     exact⟨nN,jT HB.out⟩
    rw[if_neg c8]at H;have bS:(((jQ aa ac).f0)==aq&&(((jQ aa ac).f1)==au))=false:=by simpa using c8
    (try(have bT:decide (((jQ aa ac).f0)=aq&&(((jQ aa ac).f1)==au))=false:=by simpa using c8));(try(have bU:(((jQ aa ac).f0)==aq&&(((jQ aa ac).f1)==au))=false:=by simpa using c8));(try(have ct:¬ (((jQ aa ac).f0)=aq&&(((jQ aa ac).f1)==au)):=by simpa using c8));clear c8;have H':=dm H;clear H;have⟨b3,b4,b5,b6⟩:=kr (w:=wr) ae;try go_wp2
    replace ae:=dm (kQ ae.out);replace HB:=dm (ma HB.out);have aQ:0<=(ac:Int):=jX;have aR:ac<(aa.length:Int):=jX;obtain⟨ap,a_,ak,al⟩:=ng ay.out ac aQ aR;have aA:=al;have aC:=ak;cases a_;replace ak:=ko HB ak;replace al:=ko HB al;replace aQ:=eq_true aQ;replace aR:=eq_true aR;refine mZ 9 (S:=fun w'=>w'.cell? ⟨aE,0,none⟩=some (.int .i64 ab)/\w'.cell? ⟨aE,1,none⟩=some (.slice (some ap) aa.length ai)/\w'.cell? (ap.add ((ac).toNat*2))=some (.int .i64 ((jQ aa ac).f0))/\w'.cell? ⟨(ap.add ((ac).toNat*2)).block,(ap.add ((ac).toNat*2)).off+1,none⟩=some (.int .i64 ((jQ aa ac).f1))) [] ⟨jS ae 0,jS ae 1,(ko HB aC),(ko HB aA)⟩ oN.uy oN.ug (fun hHeld HT_ HW_=>?_);generalize wr.drew=cx at ae HB ak al hHeld⊢;refine jR 0 15 1 ?_;refine jR 2 17 5 ?_;refine jR 5 20 37 ?_;refine jR 6 21 101 ?_;refine kJ 1 16 103 ?_;refine jR 3 18 111 ?_;refine kJ 4 19 127 ?_;refine lD 7 22 255 (fun K hK=>?_);refine rD Try.func46 (rH.calls A7.out) ?_;intro cm hb;replace ae:=jU ae hb;replace HB:=kg HB hb;(try clear hb);refine hK.out _ _ ⟨jS ae 0,jS ae 1,(ko HB aC),(ko HB aA)⟩ (fun hHeld=>?_);clear hK K;refine kP 22 ?_;refine jR 8 23 511 ?_;refine mH (mP HT_.out (by kernel_rfl)) ?_;try go_wp2
    go_roundg k1
    case measure=>have:=aK.out;omega
    case rel=>exact⟨(wrap64 (ac+1)),(kD),H',⟨by have:=aK.out;omega⟩,⟨jZ ae.out⟩,⟨jT HB.out⟩⟩
   obtain rfl:=Option.some.inj H;have⟨bj,bk,bl,bm⟩:=kr (w:=wr) ae
   go_wp2
   go_ret
   exact⟨nN,jT HB.out⟩
def oK.l0:Nat->Int->List Int->Int->Int->List (S59)->Option (List Int)
 |0,_,_,_,_,_=>none
 |k+1,x1,x5,x6,aI,aY=>if x6<aI then((oN.f k aI aY x1 x6).bind fun a4=>(if a4=true then(if x5.length<17592186044416 then(oK.l0 k x1 (x5++[x6]) (wrap64 (x6+1)) aI aY) else(none)) else(oK.l0 k x1 x5 (wrap64 (x6+1)) aI aY))) else(some x5)
def oK.f (k:Nat) (ab:Int) (aa:List (S59)) (a1:Int):Option (List Int):=oK.l0 k a1 (([]:List Int)) 0 ab aa
theorem oK.calls {k:Nat}{ab:Int}{aj:Option Addr}{ai:Nat}{aa:List (S59)}{a1:Int}{r:List Int}{w:World}(aw:Kd.C k59 w aj aa.length aa)(ax:aa.length<=ai)(h:oK.f k ab aa a1=some r):
  Calls Try.prog 94 #[.agg #[.int .i64 ab,.slice aj aa.length ai],.int .i64 a1] w fun e w'=>∃bP:Value,e=.returned (bP)/\Kd.R (Kd.int .i64) 3 w' w.heap.size (fun _=>True) bP r/\Below w.heap.size w w':=by
 have br:=Try.underlying31;have ay:=dm aw;have aG:=dm ax;clear aw ax;have HB:=dm (Below.refl w.heap.size w);unfold oK.f at h;have H:=h;clear h;obtain⟨bB,aV⟩:∃y_:List Int,y_=(([]:List Int)):=⟨_,rfl⟩;replace H:(oK.l0 k a1 bB 0 ab aa)=some r:=l7 aV H
 have bd:=dm aV;clear aV;have H':=dm H;clear H
 go_enter Try.func94,Try.ntmps94
 go_wp2_with (first|((with_reducible refine kI 2 rfl ?_);refine lu #[.int .i64 ab,.slice aj aa.length ai] 31 ?_;intro a5 hg w3 jV hb;have ag:=dm (jV);have cp:=dm (ky:w.heap.size<=a5);have cq:=dm (ky:w.heap.size<=a5);replace HB:=kg HB hb;clear hb jV hg)|((with_reducible refine kI 7 rfl ?_);refine pz (Kd.int .i64) rfl 3 ([]:List Int) [] (kT.none _ _) ?_;intro cu w4 a6 hb hg_ lF;clear hg_ lF;(first|rw[←bd.out]at a6|(simp only [Int.reduceToNat]at a6;rw[←bd.out]at a6));have bI:=dm (kU a6 (kN (jT HB.out)));replace ag:=jU ag hb;replace HB:=kg HB hb;clear hb a6))
 go_loopg [5,6] k (fun kq v5 v6 w'=>∃ (af:List Int) (ah:Int),v6=.int .i64 ah/\jP (oK.l0 kq a1 af ah ab aa=some r)/\jP (kq<=k)/\jP (Kd.R (Kd.int .i64) 3 w' w.heap.size (fun _=>True) v5 af)/\jP (w'.heap[a5]? =some (.cells #[.int .i64 ab,(.slice aj aa.length ai)] 31 (0,0)))/\jP (Below w.heap.size w w'))
 case atStart=>exact⟨(bB),(0),(kD),H',⟨Nat.le_refl _⟩,⟨jW bI.out⟩,⟨jZ ag.out⟩,⟨jT HB.out⟩⟩
 case round=>
  clear H';try clear p2
  obtain⟨af,ah,rfl,HA,aK,av,ag,HB⟩:=hrel;cases gk with
  |zero=>exact absurd HA.out (by simp[oK.l0])
  |succ k1=>
   have H:=HA.out;clear HA;simp only [oK.l0]at H
   replace H:=mf H;rcases H with⟨bA,H⟩|⟨bA,H⟩
   ·obtain⟨a4,A7,H⟩:=kW H;(try dsimp only at H)
    rcases mr H with⟨h_,H_⟩|⟨h_,H_⟩<;> (subst h_;clear H;have H:=H_;clear H_)
    ·skip
     obtain⟨c9,H⟩:=mV H;have bV:=dm c9;clear c9;obtain⟨bC,aW⟩:∃y_:List Int,y_=(af++[ah]):=⟨_,rfl⟩;replace H:(oK.l0 k1 a1 bC (wrap64 (ah+1)) ab aa)=some r:=l7 aW H
     have bJ:=dm aW;clear aW;have H':=dm H;clear H;have⟨b7,b8,b9,b_⟩:=kr (w:=wr) ag
     go_wp2_with (first|((with_reducible refine kY 113 rfl ?_);refine oF 17 rfl Try.func113 (oN.calls (kE (lq ay.out HB.out)) aG.out A7.out) ?_;intro cl hb;replace av:=kG av hb;replace ag:=jU ag hb;replace HB:=kg HB hb;(try clear hb))|((with_reducible refine oZ (b:=.append) (xs:= #[.tmp 18,.tmp 20]) rfl ?_);at_builtin;refine qc (Kd.int .i64) (w0:=w) w.heap.size rfl (.tmp 18) (.tmp 20) 45 3 (.int .i64 0) 8 rfl Try.underlying45 info3 rfl (by decide) (by omega) u5 af ah [.int .i64 ah] (fun _=>True) (fun _=>False) rfl rfl ?aP (fun _ hk=>hk.elim) ?aF ?aO ?aB ?aS ?aL ?_;(case aP=>exact rfl);(case aB=>exact(jT HB.out));(case aF=>exact(fun _ _=>trivial));(case aO=>exact(jW av.out));(case aS=>exact(kN (jT HB.out)));(case aL=>have:=bV.out;omega);intro cv ck ho hb hg hat;rw[←bJ.out]at ho;have n0:=lW ag hg (lS av.out ag.out (by decide));have n1:=dm (hb);have n2:=dm (ho);clear ag HB av;revert n0 n1 n2;intro ag HB bK;clear ho hb hg hat))
     go_roundg k1
     case measure=>have:=aK.out;omega
     case rel=>exact⟨(bC),(wrap64 (ah+1)),(kD),H',⟨by have:=aK.out;omega⟩,⟨jW bK.out⟩,⟨jZ ag.out⟩,⟨jT HB.out⟩⟩
    have H':=dm H;clear H;have⟨ca,cd,ce,cf⟩:=kr (w:=wr) ag
    go_wp2_with (first|((with_reducible refine kY 113 rfl ?_);refine oF 17 rfl Try.func113 (oN.calls (kE (lq ay.out HB.out)) aG.out A7.out) ?_;intro cm hb;replace av:=kG av hb;replace ag:=jU ag hb;replace HB:=kg HB hb;(try clear hb)))
    go_roundg k1
    case measure=>have:=aK.out;omega
    case rel=>exact⟨(af),(wrap64 (ah+1)),(kD),H',⟨by have:=aK.out;omega⟩,⟨jW av.out⟩,⟨jZ ag.out⟩,⟨jT HB.out⟩⟩
   obtain rfl:=Option.some.inj H;have⟨bj,bk,bl,bm⟩:=kr (w:=wr) ag
   go_wp2
   go_ret
   exact⟨_,mX,jW av.out,jT HB.out⟩
theorem AP(h:p:=by(try simp only [aw]);(try simp only [ay]);(with_reducible repeat(first|refine pO ?_ _|refine kQ ?_|refine nG ?_ _));exact ac.out):p:=h
theorem AQ(h:p:=by(try simp only [aw]);(try simp only [ay]);(with_reducible repeat(first|apply kK|apply kL|apply kw));exact ai.out):p:=h
theorem xA(h:p:=by(with_reducible repeat(first|apply sJ|apply sK|apply sj));exact ap.out):p:=h
theorem xB(h:p:=by have:=a4.out;have:=bL.out;omega):p:=h
mutual
def nZ.l0:Nat->List Bool->List Int->Int->List (S59)->Option (List Bool)
 |0,_,_,_,_=>none
 |k+1,x5,x6,aT,aU=>if(x6.length:Int)>0 then(if 0<(x6.length:Int) then((oK.f k aT aU (rd x6 0)).bind fun af=>(if 1<=(x6.length:Int) then(nZ.l1 k x5 (x6.drop (1:Int).toNat) af 0 aT aU) else(none))) else(none)) else(some x5)
def nZ.l1:Nat->List Bool->List Int->List Int->Int->Int->List (S59)->Option (List Bool)
 |0,_,_,_,_,_,_=>none
 |k+1,x5,x6,x7,x8,aT,aU=>if x8<(x7.length:Int) then(if 0<=x8 then(if 0<=(rd x7 x8) then(if(rd x7 x8)<(x5.length:Int) then(if(l8 false x5 (rd x7 x8)=true) then(nZ.l1 k x5 x6 x7 (wrap64 (x8+1)) aT aU) else(if x6.length<17592186044416 then(nZ.l1 k (x5.set ((rd x7 x8):Int).toNat true) (x6++[rd x7 x8]) x7 (wrap64 (x8+1)) aT aU) else(none))) else(none)) else(none)) else(none)) else(nZ.l0 k x5 x6 aT aU)
end
def nZ.f (k:Nat) (aa:Int) (ab:List (S59)) (a1:Int):Option (List Bool):=(oz.f k aa ab a1).bind fun bB=>(if bB=true then(if 0<=aa then(if(aa:Int).toNat<=281474976710656 then((some (List.replicate (aa:Int).toNat false:List Bool)).bind fun ax=>(if 0<=a1 then(if a1<(ax.length:Int) then(nZ.l0 k (ax.set (a1:Int).toNat true) (([a1]:List Int)) aa ab) else(none)) else(none))) else(none)) else(none)) else(some (([]:List Bool))))
theorem nZ.calls {k:Nat}{aa:Int}{ak:Option Addr}{al:Nat}{ab:List (S59)}{a1:Int}{r:List Bool}{w:World}(aW:Kd.C k59 w ak ab.length ab)(aX:ab.length<=al)(h:nZ.f k aa ab a1=some r):
  Calls Try.prog 115 #[.agg #[.int .i64 aa,.slice ak ab.length al],.int .i64 a1] w fun e w'=>∃b8:Value,e=.returned (b8)/\Kd.R Kd.bool 4 w' w.heap.size (fun _=>True) b8 r/\Below w.heap.size w w':=by
 have cY:=Try.underlying31;have aG:=dm aW;have aH:=dm aX;clear aW aX;have HB:=dm (Below.refl w.heap.size w);unfold nZ.f at h;have H:=h;clear h;obtain⟨bB,A3,H⟩:=kW H;(try dsimp only at H)
 rcases mr H with⟨h_,H_⟩|⟨h_,H_⟩<;> (subst h_;clear H;have H:=H_;clear H_)
 ·skip
  obtain⟨c5,H⟩:=mV H;have ek:=eq_true c5;have el:=decide_eq_true c5;clear c5
  obtain⟨c6,H⟩:=mV H;have em:=eq_true c6;have en:=decide_eq_true c6;clear c6;obtain⟨ax,bn⟩:∃y_:List Bool,y_=(List.replicate (aa:Int).toNat false):=⟨_,rfl⟩;replace H:(if 0<=a1 then(if a1<(ax.length:Int) then(nZ.l0 k (ax.set (a1:Int).toNat true) (([a1]:List Int)) aa ab) else(none)) else(none))=some r:=l7 bn H
  have cp:=dm bn;clear bn
  obtain⟨eo,H⟩:=lh H
  obtain⟨ep,H⟩:=lh H;obtain⟨bV,bo⟩:∃y_:List Bool,y_=(ax.set (a1:Int).toNat true):=⟨_,rfl⟩;replace H:(nZ.l0 k bV (([a1]:List Int)) aa ab)=some r:=l7 bo H
  have dB:=dm bo;clear bo;obtain⟨cZ,bp⟩:∃y_:List Int,y_=(([a1]:List Int)):=⟨_,rfl⟩;replace H:(nZ.l0 k bV cZ aa ab)=some r:=l7 bp H
  have cq:=dm bp;clear bp;have H':=dm H;clear H
  go_enter Try.func115,Try.ntmps115
  go_wp2_with (first|((with_reducible refine kI 2 rfl ?_);refine lu #[.int .i64 aa,.slice ak ab.length al] 31 ?_;intro aQ hg e5 jV hb;have ac:=dm (jV);have dC:=dm (ky:w.heap.size<=aQ);have dD:=dm (ky:w.heap.size<=aQ);replace HB:=kg HB hb;clear hb jV hg;have⟨bC,bD,bE,bF⟩:=kr (w:=e5) ac)|((with_reducible refine kY 85 rfl ?_);refine oF 11 rfl Try.func85 (oz.calls (kE (lq aG.out HB.out)) aH.out A3.out) ?_;intro ed hb;replace ac:=jU ac hb;replace HB:=kg HB hb;(try clear hb);have⟨cQ,cS,cT,cU⟩:=kr (w:=ed) ac)|((with_reducible refine kI 16 rfl ?_);refine Al Kd.bool _ 4 rfl (N:=16) rfl 54 _ _ rfl aa rfl rfl Try.underlying54 (.bool false) 1 Br rfl (by decide) (by omega) false (ok:=fun _=>True) (okp:=fun _=>True) rfl (fun _ hk=>hk) trivial jX (Nat.le_trans (Nat.mul_le_mul_right _ (of_decide_eq_true (yN):aa.toNat<=281474976710656)) (by omega)) (Below.refl _ _) (Nat.le_refl _) ?_;intro ft ee bM hb hg_ lF;clear hg_ lF;(first|rw[←cp.out]at bM|(simp only [Int.reduceToNat]at bM;rw[←cp.out]at bM));have aI:=dm (kU bM (kN (jT HB.out)));replace ac:=jU ac hb;replace HB:=kg HB hb;clear hb bM;have p9:0<=(a1:Int):=jX;have q9:(a1:Int)<((ax.length:Int):Int):=jX;obtain⟨a5,bS,ef,eg,e6,fR,eh⟩:=wD aI.out (by omega);(first|cases ef|(injection ef with ea_ en_ ec_;(first|subst ea_|(injection ea_ with ea_;subst ea_));subst ec_;clear en_));have ei:=dm eg;have fS:=dm eh;clear eg e6 eh;obtain⟨dE,ff⟩:=sM false aI.out (a1:Int) p9 q9;replace p9:=eq_true p9;replace q9:=eq_true q9;obtain⟨fg,fh⟩:=sM false aI.out (a1:Int) jX jX;have cd:=wF aI.out (a1:Int) true)|((with_reducible refine vW (t:=4) (p:=19) rfl ?_);refine wB (t:=4) (p:=19) (v:= ?vo_w17) (w1:=(ee.setCell ⟨a5,(a1:Int).toNat,none⟩ (.bool true))) ?hg ?ho ?hn ?hr ?_;(case ho=>rfl);(case hg=>rfl);(case hn=>rfl);(case hr=>first|(go_simp;done)|(go_simp;rfl));intro c_ hw;have hg:ee.grownBy c_ (some a5):=(by rw[hw];exact cd.2);have hp_:Kd.R Kd.bool 4 c_ w.heap.size (fun _=>True) (.slice (some ⟨a5,0,none⟩) ax.length bS) bV:=(by rw[hw,dB.out];exact cd.1);clear cd;replace ac:=lW ac hg (lS aI.out ac.out (by decide));replace aI:=dm (hp_);replace HB:=dm ((by rw[hw];exact nT (HB.out) ei.out:Below w.heap.size w c_));clear hg hw hp_)|((with_reducible refine kI 21 rfl ?_);refine pz (Kd.int .i64) rfl 3 ([a1]:List Int) [.int .i64 a1] (kT.one (show Kd.M (Kd.int .i64) _ _ _ a1 [.int .i64 a1] from rfl) (kT.none _ _)) ?_;intro fu e7 bN hb hg_ lF;clear hg_ lF;(first|rw[←cq.out]at bN|(simp only [Int.reduceToNat]at bN;rw[←cq.out]at bN));replace aI:=kG aI hb;have dF:=dm (kU bN (kN (jT HB.out)));replace ac:=jU ac hb;replace HB:=kg HB hb;clear hb bN))
  go_loopg [6] k (fun kq v6 w'=>∃ (aj:List Bool) (ao:List Int),jP (nZ.l0 kq aj ao aa ab=some r)/\jP (kq<=k)/\jP (Kd.R Kd.bool 4 w' w.heap.size (fun _=>True) (.slice (some ⟨a5,0,none⟩) ax.length bS) aj)/\jP (Kd.Q (Kd.int .i64) 3 w' w.heap.size (fun _=>True) v6 ao)/\jP (w'.heap[aQ]? =some (.cells #[.int .i64 aa,(.slice ak ab.length al)] 31 (0,0)))/\jP (Below w.heap.size w w'))
  case atStart=>exact⟨(bV),(cZ),H',⟨Nat.le_refl _⟩,⟨jW aI.out⟩,⟨Ae (jW dF.out)⟩,⟨jZ ac.out⟩,⟨jT HB.out⟩⟩
  case round=>
   clear H';(try clear c4 ek el em en eo ep p9 q9 bC bD cQ cS bE bF cT cU dE);obtain⟨aj,ao,HA,a4,ai,ap,ac,HB⟩:=hrel;have aw:=(ku ai.out).1;rw[aw]at ai;(try simp only [aw]);(try simp only [aw]at ac);(try simp only [aw]at ap);cases gk with
   |zero=>exact absurd HA.out (by simp[nZ.l0])
   |succ k1=>
    have H:=HA.out;clear HA;simp only [nZ.l0]at H
    by_cases bT:(ao.length:Int)>0;rotate_left
    ·rw[if_neg bT]at H;have cr:=decide_eq_false bT;have ct:decide (0<ao.length)=false:=decide_eq_false (by omega);clear bT;obtain rfl:=Option.some.inj H;obtain⟨fD,fE,eB,_⟩:=yC ap.out;subst eB
     go_wp2
     go_ret
     exact⟨_,mX,jW ai.out,jT HB.out⟩
    rw[if_pos bT]at H;have cr:=decide_eq_true bT;have ct:decide (0<ao.length)=true:=decide_eq_true (by omega);clear bT
    obtain⟨cu,H⟩:=mV H;have dG:=decide_eq_true cu;have dH:decide (0<ao.length)=true:=decide_eq_true (by omega);clear cu;obtain⟨af,e8,H⟩:=kW H;(try dsimp only at H)
    obtain⟨b9,H⟩:=mV H;have dI:=eq_true b9;have dJ:=decide_eq_true b9;clear b9;obtain⟨a_,bq⟩:∃y_:List Int,y_=(ao.drop (1:Int).toNat):=⟨_,rfl⟩;replace H:(nZ.l1 k1 aj a_ af 0 aa ab)=some r:=l7 bq H
    have cv:=dm bq;clear bq;have H':=dm H;clear H;obtain⟨fv,bW,eq,_⟩:=yC ap.out;subst eq;try go_wp2
    replace ai:=dm (kw ai.out);replace ap:=dm (sj ap.out);replace ac:=dm (kQ ac.out);replace HB:=dm (ma HB.out);have bX:0<=(0:Int):=(by omega);have bY:0<(ao.length:Int):=jX;obtain⟨a8,es,aY⟩:=lC (Af ap.out).2.2 0 bX bY;cases es;have fi:(0<ao.length)=True:=eq_true (by omega);(try rw[show((0:Int)).toNat=0 from rfl]at aY);(try rw[Addr.add_zero']at aY);replace bX:=eq_true bX;replace bY:=eq_true bY;refine uX (n:=6) (S:=fun w'=>w'.cell? ⟨aQ,0,none⟩=some (.int .i64 aa)/\w'.cell? ⟨aQ,1,none⟩=some (.slice ak ab.length al)/\w'.cell? a8=some (.int .i64 (rd ao 0))) (ds:=[]) (lm 6 0) (by kernel_rfl) rfl (by kernel_rfl) ⟨jS ac 0,jS ac 1,aY⟩ (fun hHeld=>?_);generalize wr.drew=fT at ai ap ac HB aY hHeld⊢;refine jR 1 26 2 ?_;refine jR 2 27 6 ?_;refine kJ 0 25 7 ?_;refine kJ 3 28 15 ?_;refine qz (i:=4) (N:=some 29) (lm 6 31) rfl rfl (by kernel_rfl) (by decide) (fun K hK=>?_);refine mE Try.func94 (oK.calls (kE (lq aG.out HB.out)) aH.out e8.out) ?_;rintro e ej ⟨bZ,rfl,br,hb⟩;have et:=(hb.cell (World.block_lt_of_cell? _ _ (hHeld.2.2))).trans (hHeld.2.2);refine⟨_,rfl,?_⟩;replace ai:=kG ai hb;have bI:=dm (kU (lK br (Cy (xA))) (kN (jT HB.out)));replace ap:=dm (Cx (xA) (qO br) hb);replace ac:=jU ac hb;replace HB:=kg HB hb;(try clear hb fU hk hi br);refine hK.out _ _ ⟨jS ac 0,jS ac 1,et⟩ (fun hHeld=>?_);clear hK K;refine kP 29 ?_;refine jR 5 7 63 ?_;refine mH (by kernel_rfl) ?_;have n_:=dm (uB (ok':=(fun k_=>some k_≠(bZ:Value).ownBlock)) ap.out (fun k_ hk=>hk.2));clear ap;have ap:=n_;clear n_;have cw:(1:Int)<=((ao.length:Int):Int):=jX;obtain⟨fw,cx,_,cy,_⟩:=info_parts info3;have db:=EA (P:=Try.prog) 45 3 .i64 Try.underlying45 cx 1 cy (some a8) ao.length bW 1 (by omega) cw;have bO:=Cw (k:=(1:Int).toNat) ap.out (by omega);obtain⟨dc,b3⟩:∃A1,A1=(if bW=(1:Int).toNat then(some a8) else((some a8):Option Addr).map (·.add ((1:Int).toNat*1))):=⟨_,rfl⟩;obtain⟨cz,ce⟩:∃c1,c1=bW - (1:Int).toNat:=⟨_,rfl⟩;have cf:a_.length=ao.length - (1:Int).toNat:=(by rw[cv.out,List.length_drop]);rw[←cv.out]at bO;rw[←cf,←b3,←ce]at db;replace bO:Kd.Q (Kd.int .i64) 3 ej w.heap.size (fun k_=>some k_≠(bZ:Value).ownBlock) (.slice dc a_.length cz) a_:=(by rw[b3,ce,cf];exact bO);have eu:jP ((Value.slice dc a_.length cz).ownBlock=(.slice (some a8) ao.length bW:Value).ownBlock):=⟨by rw[b3];split<;> (cases((some a8):Option Addr)<;>rfl)⟩;clear cf cx cy ap b3 ce;have dK:=dm bO;clear bO;replace cw:=eq_true cw;have n_:=dm (kv (ok':=fun k_=>(True/\some k_≠(.slice dc a_.length cz:Value).ownBlock)) bI.out (fun k_ hk=>⟨trivial,(by rw[eu.out];exact hk.2)⟩));clear bI;have bI:=n_;clear n_;try go_wp2
    go_loopg [6,8] k1 (fun kq v6 v8 w'=>∃ (az:List Bool) (ag:List Int) (ae:Int),v8=.int .i64 ae/\jP (nZ.l1 kq az ag af ae aa ab=some r)/\jP (kq<=k1)/\jP (Kd.R Kd.bool 4 w' w.heap.size (fun _=>True) (.slice (some ⟨a5,0,none⟩) aj.length bS) az)/\jP (Kd.Q (Kd.int .i64) 3 w' w.heap.size (fun k_=>some k_≠(bZ:Value).ownBlock) v6 ag)/\jP (Kd.R (Kd.int .i64) 3 w' w.heap.size (fun k_=>some k_≠(v6:Value).ownBlock) bZ af)/\jP (w'.heap[aQ]? =some (.cells #[.int .i64 aa,(.slice ak ab.length al)] 31 (0,0)))/\jP (Below w.heap.size w w'))
    case atStart=>exact⟨(aj),(a_),(0),(kD),H',⟨Nat.le_refl _⟩,⟨by(try simp only [aw]);(with_reducible repeat(first|apply kK|apply kL|apply kw));exact ai.out⟩,⟨by(try simp only [aw]);(with_reducible repeat(first|apply sJ|apply sK|apply sj));exact dK.out⟩,⟨by(try simp only [aw]);(with_reducible repeat(first|apply kK|apply kL|apply kw));exact kv bI.out (fun _ hk=>hk.2)⟩,⟨by(try simp only [aw]);(with_reducible repeat(first|refine pO ?_ _|refine kQ ?_|refine nG ?_ _));exact ac.out⟩,⟨jT HB.out⟩⟩
    case round=>
     clear H';(try clear c1 cr ct dG dH dI dJ cz cw aY bX bY);obtain⟨az,ag,ae,rfl,HA,bL,ai,ap,aC,ac,HB⟩:=hrel;have ay:=(ku ai.out).1;rw[ay]at ai;(try simp only [ay]);(try simp only [ay]at ac);(try simp only [ay]at ap);(try simp only [ay]at aC);cases gk with
     |zero=>exact absurd HA.out (by simp[nZ.l1])
     |succ k2=>
      have H:=HA.out;clear HA;simp only [nZ.l1]at H
      replace H:=mf H;rcases H with⟨dL,H⟩|⟨dL,H⟩
      ·skip
       obtain⟨fj,H⟩:=lh H
       obtain⟨fk,H⟩:=lh H
       obtain⟨fm,H⟩:=lh H;obtain⟨dd,b4⟩:∃b_:Bool,b_=(l8 false az (rd af ae)):=⟨_,rfl⟩;replace H:(if(dd=true) then(nZ.l1 k2 az ag af (wrap64 (ae+1)) aa ab) else(if ag.length<17592186044416 then(nZ.l1 k2 (az.set ((rd af ae):Int).toNat true) (ag++[rd af ae]) af (wrap64 (ae+1)) aa ab) else(none)))=some r:=by rw[←b4]at H;exact H
       have cF:=dm b4;clear b4
       by_cases cG:(dd=true)
       ·subst cG;rw[if_pos rfl]at H;(try dsimp only at H);have H':=dm H;clear H;obtain⟨fx,fy,ev⟩:=kM aC.out;subst ev;have ba:0<=(ae:Int):=jX;have bd:ae<(af.length:Int):=jX;obtain⟨bJ,cg,cW⟩:=lC (ku aC.out).2.2 ae ba bd;cases cg;replace ba:=eq_true ba;replace bd:=eq_true bd;have bf:0<=((rd af ae):Int):=jX;have bh:(rd af ae)<(az.length:Int):=jX;obtain⟨b5,ch,aD⟩:=rO (ku ai.out).2.2 (rd af ae) bf bh;(try rw[←cF.out]at aD);obtain rfl:(⟨a5,0,none⟩:Addr)=b5:=(by injection ch);(first|simp only [add_plain]at aD|simp only [sO]at aD|simp only [Addr.add,Nat.zero_add]at aD|skip);replace bf:=eq_true bf;replace bh:=eq_true bh
        go_wp2;(try simp only [←ay])
        go_roundg k2
        case measure=>have:=a4.out;have:=bL.out;omega
        case rel=>exact⟨(az),(ag),(wrap64 (ae+1)),(kD),H',⟨xB⟩,⟨AQ⟩,⟨by(try simp only [aw]);(try simp only [ay]);(with_reducible repeat(first|apply sJ|apply sK|apply sj));exact ap.out⟩,⟨by(try simp only [aw]);(try simp only [ay]);(with_reducible repeat(first|apply kK|apply kL|apply kw));exact aC.out⟩,⟨AP⟩,⟨jT HB.out⟩⟩
       replace cG:=Bool.eq_false_iff.mpr cG;subst cG;rw[if_neg Bool.false_ne_true]at H;(try dsimp only at H);obtain⟨b6,bu⟩:∃y_:List Bool,y_=(az.set ((rd af ae):Int).toNat true):=⟨_,rfl⟩;replace H:(if ag.length<17592186044416 then(nZ.l1 k2 b6 (ag++[rd af ae]) af (wrap64 (ae+1)) aa ab) else(none))=some r:=l7 bu H
       have dM:=dm bu;clear bu
       obtain⟨cH,H⟩:=mV H;have dN:=dm cH;clear cH;obtain⟨de,bv⟩:∃y_:List Int,y_=(ag++[rd af ae]):=⟨_,rfl⟩;replace H:(nZ.l1 k2 b6 de af (wrap64 (ae+1)) aa ab)=some r:=l7 bv H
       have dO:=dm bv;clear bv;have H':=dm H;clear H;obtain⟨fz,ew,ex⟩:=kM aC.out;subst ex;have ba:0<=(ae:Int):=jX;have bd:ae<(af.length:Int):=jX;obtain⟨bJ,cg,cW⟩:=lC (ku aC.out).2.2 ae ba bd;cases cg;replace ba:=eq_true ba;replace bd:=eq_true bd;have bf:0<=((rd af ae):Int):=jX;have bh:(rd af ae)<(az.length:Int):=jX;obtain⟨b5,ch,aD⟩:=rO (ku ai.out).2.2 (rd af ae) bf bh;(try rw[←cF.out]at aD);obtain rfl:(⟨a5,0,none⟩:Addr)=b5:=(by injection ch);(first|simp only [add_plain]at aD|simp only [sO]at aD|simp only [Addr.add,Nat.zero_add]at aD|skip);replace bf:=eq_true bf;replace bh:=eq_true bh;have ci:0<=(ae:Int):=jX;have cj:ae<(af.length:Int):=jX;obtain⟨dP,ey,eL⟩:=lC (ku aC.out).2.2 ae ci cj;obtain rfl:bJ=dP:=(by injection ey);replace ci:=eq_true ci;replace cj:=eq_true cj;have df:0<=((rd af ae):Int):=jX;have dg:((rd af ae):Int)<((az.length:Int):Int):=jX;obtain⟨e9,fa⟩:=sM false ai.out ((rd af ae):Int) df dg;replace df:=eq_true df;replace dg:=eq_true dg;have ck:=wF ai.out ((rd af ae):Int) true
       go_wp2_with (first|((with_reducible refine vW (t:=4) (p:=51) rfl ?_);refine wB (t:=4) (p:=51) (v:= ?vo_w39) (w1:=(wr.setCell ⟨a5,((rd af ae):Int).toNat,none⟩ (.bool true))) ?hg ?ho ?hn ?hr ?_;(case ho=>rfl);(case hg=>rfl);(case hn=>rfl);(case hr=>first|(go_simp;done)|(go_simp;rfl));intro dh hw;have hg:wr.grownBy dh (some a5):=(by rw[hw];exact ck.2);have hp_:Kd.R Kd.bool 4 dh w.heap.size (fun _=>True) (.slice (some ⟨a5,0,none⟩) az.length bS) b6:=(by rw[hw,dM.out];exact ck.1);clear ck;replace ap:=dm (GM (v:=(.slice (some ⟨a5,0,none⟩) az.length bS)) (xA) (pF ai.out) (by decide) hg);replace aC:=dm (pq (v:=(.slice (some ⟨a5,0,none⟩) az.length bS)) (jW aC.out) (pF ai.out) (by decide) hg);replace ac:=lW ac hg (lS ai.out ac.out (by decide));replace ai:=dm (hp_);replace HB:=dm ((by rw[hw];exact nT (HB.out) ei.out:Below w.heap.size w dh));clear hg hw hp_;have cl:0<=(ae:Int):=jX;have cm:ae<(af.length:Int):=jX;obtain⟨dQ,ez,eM⟩:=lC (ku aC.out).2.2 ae cl cm;obtain rfl:bJ=dQ:=(by injection ez);replace cl:=eq_true cl;replace cm:=eq_true cm)|((with_reducible refine oZ (b:=.append) (xs:= #[.tmp 52,.tmp 57]) rfl ?_);at_builtin;refine Cv (Kd.int .i64) (w0:=w) w.heap.size rfl (.tmp 52) (.tmp 57) 45 3 (.int .i64 0) 8 rfl Try.underlying45 info3 rfl (by decide) (by omega) u6 ag (rd af ae) [.int .i64 (rd af ae)] (fun k_=>some k_≠(.slice (some bJ) af.length ew:Value).ownBlock) (fun _=>False) rfl rfl ?aP (fun _ hk=>hk.elim) ?aF ?aO ?aB ?aS ?aL ?_;(case aP=>exact rfl);(case aB=>exact(jT HB.out));(case aF=>exact(fun k_ hk=>Kd.fresh' (lg (jW aC.out)) k_ hk));(case aO=>exact(xA));(case aS=>exact(kN (jT HB.out)));(case aL=>have:=dN.out;omega);intro fA fV ho hb hg hat;rw[←dO.out]at ho;have n0:=dm (pq (jW ai.out) (GQ (xA)) (by decide) hg);have n1:=dm (oO (ok:=(fun _=>True)) (by(with_reducible repeat(first|apply kK|apply kL|apply kw));exact kv aC.out (fun _ hk=>⟨trivial,hk⟩)) hg hat);have n2:=lW ac hg (Cz ap.out ac.out (by decide));have n3:=dm (hb);have n4:=dm (ho);clear ai aC ac HB ap;revert n0 n1 n2 n3 n4;intro ai aC ac HB dR;clear ho hb hg hat))
       (try simp only [←ay])
       go_roundg k2
       case measure=>have:=a4.out;have:=bL.out;omega
       case rel=>exact⟨(b6),(de),(wrap64 (ae+1)),(kD),H',⟨xB⟩,⟨AQ⟩,⟨by(try simp only [aw]);(try simp only [ay]);(with_reducible repeat(first|apply sJ|apply sK|apply sj));exact dR.out⟩,⟨by(try simp only [aw]);(try simp only [ay]);(with_reducible repeat(first|apply kK|apply kL|apply kw));exact kv aC.out (fun _ hk=>hk.2)⟩,⟨AP⟩,⟨jT HB.out⟩⟩
      have H':=dm H;clear H;obtain⟨fB,fC,eA⟩:=kM aC.out;subst eA
      go_wp2;(try simp only [←aw,←ay])
      go_roundg k2
      case measure=>have:=a4.out;have:=bL.out;omega
      case rel=>exact⟨(az),(ag),H',⟨xB⟩,⟨AQ⟩,⟨by(try simp only [aw]);(try simp only [ay]);(with_reducible repeat(first|apply sJ|apply sK|apply sj));exact uB ap.out (fun _ hk=>trivial)⟩,⟨AP⟩,⟨jT HB.out⟩⟩
 obtain⟨eC,bx⟩:∃y_:List Bool,y_=(([]:List Bool)):=⟨_,rfl⟩;replace H:(some eC)=some r:=l7 bx H
 have cI:=dm bx;clear bx;obtain rfl:=Option.some.inj H
 go_enter Try.func115,Try.ntmps115
 go_wp2_with (first|((with_reducible refine kI 2 rfl ?_);refine lu #[.int .i64 aa,.slice ak ab.length al] 31 ?_;intro aQ hg fb jV hb;have ac:=dm (jV);have dC:=dm (ky:w.heap.size<=aQ);have dD:=dm (ky:w.heap.size<=aQ);replace HB:=kg HB hb;clear hb jV hg;have⟨eN,eO,eP,eQ⟩:=kr (w:=fb) ac)|((with_reducible refine kY 85 rfl ?_);refine oF 11 rfl Try.func85 (oz.calls (kE (lq aG.out HB.out)) aH.out A3.out) ?_;intro fW hb;replace ac:=jU ac hb;replace HB:=kg HB hb;(try clear hb))|((with_reducible refine kI 13 rfl ?_);refine pz Kd.bool rfl 4 ([]:List Bool) [] (kT.none _ _) ?_;intro fF fX bP hb hg_ lF;clear hg_ lF;(first|rw[←cI.out]at bP|(simp only [Int.reduceToNat]at bP;rw[←cI.out]at bP));have dS:=dm (kU bP (kN (jT HB.out)));replace ac:=jU ac hb;replace HB:=kg HB hb;clear hb bP))
 go_ret
 exact⟨_,mX,jW dS.out,jT HB.out⟩
mutual
def oJ.l0:Nat->List Int->Int->Int->List (S59)->Option (List Int)
 |0,_,_,_,_=>none
 |k+1,x3,x4,aV,aZ=>if x4<aV then((nZ.f k aV aZ x4).bind fun aK=>(oJ.l1 k x3 x4 aK 0 aV aZ)) else(some x3)
def oJ.l1:Nat->List Int->Int->List Bool->Int->Int->List (S59)->Option (List Int)
 |0,_,_,_,_,_,_=>none
 |k+1,x3,x4,x5,x6,aV,aZ=>if 0<=x6 then(if x6<(x5.length:Int) then(if l8 false x5 x6=true then(if x3.length<17592186044416 then(oJ.l0 k (x3++[x6]) (wrap64 (x4+1)) aV aZ) else(none)) else(oJ.l1 k x3 x4 x5 (wrap64 (x6+1)) aV aZ)) else(none)) else(none)
end
def oJ.f (k:Nat) (aa:Int) (ab:List (S59)):Option (List Int):=(some (([]:List Int):List Int)).bind fun aM=>((mo.f k aa ab).bind fun a7=>(if a7=true then(oJ.l0 k aM 0 aa ab) else(some aM)))
theorem oJ.calls {k:Nat}{aa:Int}{ak:Option Addr}{al:Nat}{ab:List (S59)}{r:List Int}{w:World}(aW:Kd.C k59 w ak ab.length ab)(aX:ab.length<=al)(h:oJ.f k aa ab=some r):
  Calls Try.prog 92 #[.agg #[.int .i64 aa,.slice ak ab.length al]] w fun e w'=>∃b8:Value,e=.returned (b8)/\Kd.R (Kd.int .i64) 3 w' w.heap.size (fun _=>True) b8 r/\Below w.heap.size w w':=by
 have cY:=Try.underlying31;have aG:=dm aW;have aH:=dm aX;clear aW aX;have HB:=dm (Below.refl w.heap.size w);unfold oJ.f at h;have H:=h;clear h;obtain⟨aM,bz⟩:∃y_:List Int,y_=(([]:List Int)):=⟨_,rfl⟩;replace H:((mo.f k aa ab).bind fun a7=>(if a7=true then(oJ.l0 k aM 0 aa ab) else(some aM)))=some r:=l7 bz H
 have bK:=dm bz;clear bz;obtain⟨a7,A2,H⟩:=kW H;(try dsimp only at H)
 rcases mr H with⟨h_,H_⟩|⟨h_,H_⟩<;> (subst h_;clear H;have H:=H_;clear H_)
 ·have H':=dm H;clear H
  go_enter Try.func92,Try.ntmps92
  go_wp2_with (first|((with_reducible refine kI 1 rfl ?_);refine lu #[.int .i64 aa,.slice ak ab.length al] 31 ?_;intro a3 hg w4 jV hb;have ah:=dm (jV);have dT:=dm (ky:w.heap.size<=a3);have dU:=dm (ky:w.heap.size<=a3);replace HB:=kg HB hb;clear hb jV hg)|((with_reducible refine kI 7 rfl ?_);refine pz (Kd.int .i64) rfl 3 ([]:List Int) [] (kT.none _ _) ?_;intro eD w5 ca hb hg_ lF;clear hg_ lF;(first|rw[←bK.out]at ca|(simp only [Int.reduceToNat]at ca;rw[←bK.out]at ca));have aR:=dm (kU ca (kN (jT HB.out)));replace ah:=jU ah hb;replace HB:=kg HB hb;clear hb ca;have⟨di,dj,dk,dl⟩:=kr (w:=w5) ah)|((with_reducible refine kY 32 rfl ?_);refine oF 9 rfl Try.func32 (mo.calls (kE (lq aG.out HB.out)) aH.out A2.out) ?_;intro w8 hb;replace aR:=kG aR hb;replace ah:=jU ah hb;replace HB:=kg HB hb;(try clear hb)))
  go_loopg [3,4] k (fun kq v3 v4 w'=>∃ (aE:List Int) (aq:Int),v4=.int .i64 aq/\jP (oJ.l0 kq aE aq aa ab=some r)/\jP (kq<=k)/\jP (Kd.R (Kd.int .i64) 3 w' w.heap.size (fun _=>True) v3 aE)/\jP (w'.heap[a3]? =some (.cells #[.int .i64 aa,(.slice ak ab.length al)] 31 (0,0)))/\jP (Below w.heap.size w w'))
  case atStart=>exact⟨(aM),(0),(kD),H',⟨Nat.le_refl _⟩,⟨jW aR.out⟩,⟨jZ ah.out⟩,⟨jT HB.out⟩⟩
  case round=>
   clear H';(try clear c3 di dj dk dl);obtain⟨aE,aq,rfl,HA,a4,aA,ah,HB⟩:=hrel;cases gk with
   |zero=>exact absurd HA.out (by simp[oJ.l0])
   |succ k1=>
    have H:=HA.out;clear HA;simp only [oJ.l0]at H
    replace H:=mf H;rcases H with⟨dn,H⟩|⟨dn,H⟩
    ·obtain⟨aK,fc,H⟩:=kW H;(try dsimp only at H);have H':=dm H;clear H;have⟨bC,bD,bE,bF⟩:=kr (w:=wr) ah
     go_wp2_with (first|((with_reducible refine kY 115 rfl ?_);refine lH 20 rfl Try.func115 (nZ.calls (kE (lq aG.out HB.out)) aH.out fc.out) ?_;rintro e ed ⟨eE,rfl,br,hb⟩;refine⟨_,rfl,?_⟩;replace aA:=kG aA hb;have dV:=dm (kU br (kN (jT HB.out)));replace ah:=jU ah hb;replace HB:=kg HB hb;(try clear hb br)))
     go_loopg [6] k1 (fun kq v6 w'=>∃ (ag:Int),v6=.int .i64 ag/\jP (oJ.l1 kq aE aq aK ag aa ab=some r)/\jP (kq<=k1)/\jP (Kd.R (Kd.int .i64) 3 w' w.heap.size (fun _=>True) u3 aE)/\jP (Kd.R Kd.bool 4 w' w.heap.size (fun _=>True) eE aK)/\jP (w'.heap[a3]? =some (.cells #[.int .i64 aa,(.slice ak ab.length al)] 31 (0,0)))/\jP (Below w.heap.size w w'))
     case atStart=>exact⟨(0),(kD),H',⟨Nat.le_refl _⟩,⟨jW aA.out⟩,⟨jW dV.out⟩,⟨jZ ah.out⟩,⟨jT HB.out⟩⟩
     case round=>
      clear H';(try clear dn bC bD bE bF);obtain⟨ag,rfl,HA,bL,aA,ai,ah,HB⟩:=hrel;cases gk with
      |zero=>exact absurd HA.out (by simp[oJ.l1])
      |succ k2=>
       have H:=HA.out;clear HA;simp only [oJ.l1]at H
       obtain⟨fo,H⟩:=lh H
       obtain⟨fp,H⟩:=lh H;obtain⟨dq,b7⟩:∃b_:Bool,b_=(l8 false aK ag):=⟨_,rfl⟩;replace H:(if dq=true then(if aE.length<17592186044416 then(oJ.l0 k2 (aE++[ag]) (wrap64 (aq+1)) aa ab) else(none)) else(oJ.l1 k2 aE aq aK (wrap64 (ag+1)) aa ab))=some r:=by rw[←b7]at H;exact H
       have cM:=dm b7;clear b7
       rcases mr H with⟨h_,H_⟩|⟨h_,H_⟩<;> (subst h_;clear H;have H:=H_;clear H_)
       ·skip
        obtain⟨cO,H⟩:=mV H;have dW:=dm cO;clear cO;obtain⟨dr,bA⟩:∃y_:List Int,y_=(aE++[ag]):=⟨_,rfl⟩;replace H:(oJ.l0 k2 dr (wrap64 (aq+1)) aa ab)=some r:=l7 bA H
        have dX:=dm bA;clear bA;have H':=dm H;clear H;obtain⟨fG,fH,eF⟩:=kM ai.out;subst eF;have bj:0<=(ag:Int):=jX;have bk:ag<(aK.length:Int):=jX;obtain⟨dY,cn,bG⟩:=rO (ku ai.out).2.2 ag bj bk;(try rw[←cM.out]at bG);cases cn;replace bj:=eq_true bj;replace bk:=eq_true bk
        go_wp2_with (first|((with_reducible refine oZ (b:=.append) (xs:= #[.tmp 28,.tmp 30]) rfl ?_);at_builtin;refine qc (Kd.int .i64) (w0:=w) w.heap.size rfl (.tmp 28) (.tmp 30) 45 3 (.int .i64 0) 8 rfl Try.underlying45 info3 rfl (by decide) (by omega) u3 aE ag [.int .i64 ag] (fun _=>True) (fun _=>False) rfl rfl ?aP (fun _ hk=>hk.elim) ?aF ?aO ?aB ?aS ?aL ?_;(case aP=>exact rfl);(case aB=>exact(jT HB.out));(case aF=>exact(fun _ _=>trivial));(case aO=>exact(jW aA.out));(case aS=>exact(kN (jT HB.out)));(case aL=>have:=dW.out;omega);intro fI fY ho hb hg hat;rw[←dX.out]at ho;have n0:=dm (pq (jW ai.out) (pF (jW aA.out)) (by decide) hg);have n1:=lW ah hg (lS aA.out ah.out (by decide));have n2:=dm (hb);have n3:=dm (ho);clear ai ah HB aA;revert n0 n1 n2 n3;intro ai ah HB dZ;clear ho hb hg hat))
        go_roundg k2
        case measure=>have:=a4.out;have:=bL.out;omega
        case rel=>exact⟨(dr),(wrap64 (aq+1)),(kD),H',⟨xB⟩,⟨jW dZ.out⟩,⟨jZ ah.out⟩,⟨jT HB.out⟩⟩
       have H':=dm H;clear H;obtain⟨fJ,fK,eG⟩:=kM ai.out;subst eG;have bj:0<=(ag:Int):=jX;have bk:ag<(aK.length:Int):=jX;obtain⟨dY,cn,bG⟩:=rO (ku ai.out).2.2 ag bj bk;(try rw[←cM.out]at bG);cases cn;replace bj:=eq_true bj;replace bk:=eq_true bk
       go_wp2
       go_roundg k2
       case measure=>have:=a4.out;have:=bL.out;omega
       case rel=>exact⟨(wrap64 (ag+1)),(kD),H',⟨xB⟩,⟨jW aA.out⟩,⟨jW ai.out⟩,⟨jZ ah.out⟩,⟨jT HB.out⟩⟩
    obtain rfl:=Option.some.inj H;have⟨eR,eS,eT,eU⟩:=kr (w:=wr) ah
    go_wp2
    go_ret
    exact⟨_,mX,jW aA.out,jT HB.out⟩
 obtain rfl:=Option.some.inj H
 go_enter Try.func92,Try.ntmps92
 go_wp2_with (first|((with_reducible refine kI 1 rfl ?_);refine lu #[.int .i64 aa,.slice ak ab.length al] 31 ?_;intro a3 hg fZ jV hb;have ah:=dm (jV);have dT:=dm (ky:w.heap.size<=a3);have dU:=dm (ky:w.heap.size<=a3);replace HB:=kg HB hb;clear hb jV hg)|((with_reducible refine kI 7 rfl ?_);refine pz (Kd.int .i64) rfl 3 ([]:List Int) [] (kT.none _ _) ?_;intro eD fd bQ hb hg_ lF;clear hg_ lF;(first|rw[←bK.out]at bQ|(simp only [Int.reduceToNat]at bQ;rw[←bK.out]at bQ));have aR:=dm (kU bQ (kN (jT HB.out)));replace ah:=jU ah hb;replace HB:=kg HB hb;clear hb bQ;have⟨eV,eW,eX,eY⟩:=kr (w:=fd) ah)|((with_reducible refine kY 32 rfl ?_);refine oF 9 rfl Try.func32 (mo.calls (kE (lq aG.out HB.out)) aH.out A2.out) ?_;intro ej hb;replace aR:=kG aR hb;replace ah:=jU ah hb;replace HB:=kg HB hb;(try clear hb)))
 go_ret
 exact⟨_,mX,jW aR.out,jT HB.out⟩
def oM.l0:Nat->List Int->Int->Int->Option (Int)
 |0,_,_,_=>none
 |k+1,x3,x4,x5=>if x5<(x3.length:Int) then(if 0<=x5 then(if(rd x3 x5)=x5 then(oM.l0 k x3 (wrap64 (x4+1)) (wrap64 (x5+1))) else(oM.l0 k x3 x4 (wrap64 (x5+1)))) else(none)) else(some x4)
def oM.f (k:Nat) (aa:Int) (ab:List (S59)):Option (Int):=(mo.f k aa ab).bind fun bH=>(if bH=true then((oJ.f k aa ab).bind fun au=>(oM.l0 k au 0 0)) else(some (-1)))
theorem oM.calls {k:Nat}{aa:Int}{ak:Option Addr}{al:Nat}{ab:List (S59)}{r:Int}{w:World}(aW:Kd.C k59 w ak ab.length ab)(aX:ab.length<=al)(h:oM.f k aa ab=some r):
  Calls Try.prog 57 #[.agg #[.int .i64 aa,.slice ak ab.length al]] w fun e w'=>e=.returned (.int .i64 r)/\Below w.heap.size w w':=by
 have cY:=Try.underlying31;have aG:=dm aW;have aH:=dm aX;clear aW aX;have HB:=dm (Below.refl w.heap.size w);unfold oM.f at h;have H:=h;clear h;obtain⟨bH,A2,H⟩:=kW H;(try dsimp only at H)
 rcases mr H with⟨h_,H_⟩|⟨h_,H_⟩<;> (subst h_;clear H;have H:=H_;clear H_)
 ·obtain⟨au,A4,H⟩:=kW H;(try dsimp only at H);have H':=dm H;clear H
  go_enter Try.func57,Try.ntmps57
  go_wp2_with (first|((with_reducible refine kI 1 rfl ?_);refine lu #[.int .i64 aa,.slice ak ab.length al] 31 ?_;intro a9 hg w5 jV hb;have av:=dm (jV);have d7:=dm (ky:w.heap.size<=a9);have d8:=dm (ky:w.heap.size<=a9);replace HB:=kg HB hb;clear hb jV hg;have⟨dt,du,dv,dw⟩:=kr (w:=w5) av)|((with_reducible refine kY 32 rfl ?_);refine oF 7 rfl Try.func32 (mo.calls (kE (lq aG.out HB.out)) aH.out A2.out) ?_;intro w7 hb;replace av:=jU av hb;replace HB:=kg HB hb;(try clear hb);have⟨dx,dy,dz,dA⟩:=kr (w:=w7) av)|((with_reducible refine kY 92 rfl ?_);refine lH 10 rfl Try.func92 (oJ.calls (kE (lq aG.out HB.out)) aH.out A4.out) ?_;rintro e w9 ⟨eH,rfl,br,hb⟩;refine⟨_,rfl,?_⟩;have d9:=dm (kU br (kN (jT HB.out)));replace av:=jU av hb;replace HB:=kg HB hb;(try clear hb br)))
  go_loopg [4,5] k (fun kq v4 v5 w'=>∃ (aq:Int) (aj:Int),v4=.int .i64 aq/\v5=.int .i64 aj/\jP (oM.l0 kq au aq aj=some r)/\jP (kq<=k)/\jP (Kd.R (Kd.int .i64) 3 w' w.heap.size (fun _=>True) eH au)/\jP (w'.heap[a9]? =some (.cells #[.int .i64 aa,(.slice ak ab.length al)] 31 (0,0)))/\jP (Below w.heap.size w w'))
  case atStart=>exact⟨(0),(0),(kD),(kD),H',⟨Nat.le_refl _⟩,⟨jW d9.out⟩,⟨jZ av.out⟩,⟨jT HB.out⟩⟩
  case round=>
   clear H';(try clear c3 dt du dx dy dv dw dz dA);obtain⟨aq,aj,rfl,rfl,HA,a4,aA,av,HB⟩:=hrel;cases gk with
   |zero=>exact absurd HA.out (by simp[oM.l0])
   |succ k1=>
    have H:=HA.out;clear HA;simp only [oM.l0]at H
    replace H:=mf H;rcases H with⟨d_,H⟩|⟨d_,H⟩
    ·skip
     obtain⟨fq,H⟩:=lh H
     by_cases bR:(rd au aj)=aj
     ·rw[if_pos bR]at H;have ea:=beq_iff_eq.mpr bR;have eb:=bne_eq_false_iff_eq.mpr bR;clear bR;have H':=dm H;clear H;obtain⟨fL,fM,eI⟩:=kM aA.out;subst eI;have bl:0<=(aj:Int):=jX;have bm:aj<(au.length:Int):=jX;obtain⟨ec,co,cX⟩:=lC (ku aA.out).2.2 aj bl bm;cases co;replace bl:=eq_true bl;replace bm:=eq_true bm
      go_wp2
      go_roundg k1
      case measure=>have:=a4.out;omega
      case rel=>exact⟨(wrap64 (aq+1)),(wrap64 (aj+1)),(kD),(kD),H',⟨by have:=a4.out;omega⟩,⟨jW aA.out⟩,⟨jZ av.out⟩,⟨jT HB.out⟩⟩
     rw[if_neg bR]at H;have ea:=beq_eq_false_iff_ne.mpr bR;have eb:=bne_iff_ne.mpr bR;have H':=dm H;clear H;obtain⟨fN,fO,eJ⟩:=kM aA.out;subst eJ;have bl:0<=(aj:Int):=jX;have bm:aj<(au.length:Int):=jX;obtain⟨ec,co,cX⟩:=lC (ku aA.out).2.2 aj bl bm;cases co;replace bl:=eq_true bl;replace bm:=eq_true bm
     go_wp2
     go_roundg k1
     case measure=>have:=a4.out;omega
     case rel=>exact⟨(aq),(wrap64 (aj+1)),(kD),(kD),H',⟨by have:=a4.out;omega⟩,⟨jW aA.out⟩,⟨jZ av.out⟩,⟨jT HB.out⟩⟩
    obtain rfl:=Option.some.inj H;obtain⟨fP,fQ,eK⟩:=kM aA.out;subst eK
    go_wp2
    go_ret
    exact⟨mX,jT HB.out⟩
 obtain rfl:=Option.some.inj H
 go_enter Try.func57,Try.ntmps57
 go_wp2_with (first|((with_reducible refine kI 1 rfl ?_);refine lu #[.int .i64 aa,.slice ak ab.length al] 31 ?_;intro a9 hg fe jV hb;have av:=dm (jV);have d7:=dm (ky:w.heap.size<=a9);have d8:=dm (ky:w.heap.size<=a9);replace HB:=kg HB hb;clear hb jV hg;have⟨eZ,e2,e3,e4⟩:=kr (w:=fe) av)|((with_reducible refine kY 32 rfl ?_);refine oF 7 rfl Try.func32 (mo.calls (kE (lq aG.out HB.out)) aH.out A2.out) ?_;intro e7 hb;replace av:=jU av hb;replace HB:=kg HB hb;(try clear hb)))
 go_ret
 exact⟨mX,jT HB.out⟩
theorem Dl(h:p:=by exact lM al.out):p:=h
theorem yY(h:p:=by exact lM ah.out):p:=h
theorem AR(h:p:=by rw[hg];exact Nat.ne_of_lt (lL (g:=aq) (o:=.cells #[.int .i64 ab,.slice ao aa.length am] 31 (0,0)) (jZ ac.out))):p:=h
theorem AU(h:p:=by rw[hg];exact Nat.ne_of_gt (lL (g:=aq) (o:=.cells #[.int .i64 ab,.slice ao aa.length am] 31 (0,0)) (jZ ac.out))):p:=h
theorem Dm(h:p:=by rw[hg];exact Nat.ne_of_lt (lL (g:=ay) (o:=.cells #[.int .i64 ab,.slice ao aa.length am] 31 (0,0)) (jZ ah.out))):p:=h
theorem Dn(h:p:=by rw[hg];exact Nat.ne_of_gt (lL (g:=ay) (o:=.cells #[.int .i64 ab,.slice ao aa.length am] 31 (0,0)) (jZ ah.out))):p:=h
attribute [local go_sem high] Bo
def uw.f (k:Nat) (ab:Int) (aa:List (S59)) (a1:Int) (a2:Int):Option (Bool):=(mo.f k ab aa).bind fun bp=>(if bp=true then((oN.f k ab aa a1 a2).bind fun aY=>(some aY)) else(some false))
theorem uw.calls {k:Nat}{ab:Int}{ao:Option Addr}{am:Nat}{aa:List (S59)}{a1:Int}{a2:Int}{r:Bool}{w:World}(aW:Kd.C k59 w ao aa.length aa)(aX:aa.length<=am)(h:uw.f k ab aa a1 a2=some r):
  Calls Try.prog 86 #[.agg #[.int .i64 ab,.slice ao aa.length am],.int .i64 a1,.int .i64 a2] w fun e w'=>e=.returned (.bool r)/\Below w.heap.size w w':=by
 have b7:=Try.underlying31;have aA:=dm aW;have aQ:=dm aX;clear aW aX;have HB:=dm (Below.refl w.heap.size w);unfold uw.f at h;have H:=h;clear h;obtain⟨bp,A4,H⟩:=kW H;(try dsimp only at H)
 rcases mr H with⟨h_,H_⟩|⟨h_,H_⟩<;> (subst h_;clear H;have H:=H_;clear H_)
 ·obtain⟨aY,A6,H⟩:=kW H;(try dsimp only at H);obtain rfl:=Option.some.inj H
  go_enter Try.func86,Try.ntmps86
  go_wp2_with (first|((with_reducible refine kI 3 rfl ?_);refine lu #[.int .i64 ab,.slice ao aa.length am] 31 ?_;intro bn hg w7 jV hb;have aC:=dm (jV);have ch:=dm (ky:w.heap.size<=bn);have ci:=dm (ky:w.heap.size<=bn);replace HB:=kg HB hb;clear hb jV hg;have⟨dL,dM,dN,dO⟩:=kr (w:=w7) aC)|((with_reducible refine kY 32 rfl ?_);refine oF 8 rfl Try.func32 (mo.calls (kE (lq aA.out HB.out)) aQ.out A4.out) ?_;intro w9 hb;replace aC:=jU aC hb;replace HB:=kg HB hb;(try clear hb);have⟨cN,cO,cP,cQ⟩:=kr (w:=w9) aC)|(go_at_call 113;refine(oN.calls (kE (lq aA.out HB.out)) aQ.out A6.out).mono ?_;rintro e bx ⟨rfl,hb⟩;replace aC:=jU aC hb;replace HB:=kg HB hb;(try clear hb)))
  go_ret
  exact⟨nN,jT HB.out⟩
 obtain rfl:=Option.some.inj H
 go_enter Try.func86,Try.ntmps86
 go_wp2_with (first|((with_reducible refine kI 3 rfl ?_);refine lu #[.int .i64 ab,.slice ao aa.length am] 31 ?_;intro bn hg b8 jV hb;have aC:=dm (jV);have ch:=dm (ky:w.heap.size<=bn);have ci:=dm (ky:w.heap.size<=bn);replace HB:=kg HB hb;clear hb jV hg;have⟨bS,bT,bU,bV⟩:=kr (w:=b8) aC)|((with_reducible refine kY 32 rfl ?_);refine oF 8 rfl Try.func32 (mo.calls (kE (lq aA.out HB.out)) aQ.out A4.out) ?_;intro eB hb;replace aC:=jU aC hb;replace HB:=kg HB hb;(try clear hb)))
 go_ret
 exact⟨nN,jT HB.out⟩
def nJ.l0:Nat->Int->Int->Int->Int->List (S59)->Int->List (S59)->Option (Int× (List (S59))×Bool)
 |0,_,_,_,_,_,_,_=>none
 |k+1,x1,x2,x9,bz,aN,bq,bd=>if x9<(aN.length:Int) then(if 0<=x9 then((rH.f x1 x2).bind fun bN=>(if(!(((jQ aN x9).f0)==bN.1)||(!(((jQ aN x9).f1)==bN.2)))=true then(if bd.length<8796093022208 then(nJ.l0 k x1 x2 (wrap64 (x9+1)) bz aN bq (bd++[(⟨(jQ aN x9).f0,(jQ aN x9).f1⟩:S59)])) else(none)) else(nJ.l0 k x1 x2 (wrap64 (x9+1)) bz aN bq bd))) else(none)) else(some (bq,bd,true))
def nJ.f (k:Nat) (ab:Int) (aa:List (S59)) (a1:Int) (a2:Int):Option (Int× (List (S59))×Bool):=(uw.f k ab aa a1 a2).bind fun br=>(if br=true then(nJ.l0 k a1 a2 0 ab aa ab ([]:List (S59))) else(some (0,([]:List (S59)),false)))
def nJ.T7:Bool×List (List Nat×List Nat):=(true,[([],[]),([0],[0]),([],[]),([1,2],[1,2]),([3],[3]),([],[]),([],[]),([5,6],[5,6]),([4,7],[4,7])])
def nJ.B7:List Nat:=[0,1,0,7,15,0,0,96,255]
theorem nJ.si:mR .any (opsOf Try.f95 7)=nJ.T7:=by kernel_rfl
theorem nJ.rX:nS nJ.T7.2 nJ.B7=true:=by kernel_rfl
def nJ.T8:Bool×List (List Nat×List Nat):=(true,[([],[]),([0],[0]),([],[]),([2],[2]),([],[]),([3,4],[3,4]),([5],[5]),([6],[6]),([1,7],[1,7]),([0,1,2,3,4,5,6,7,8],[]),([9,8,8,0,1,2,3,4,5,6,7,8],[8,9])])
def nJ.B8:List Nat:=[0,1,0,4,0,28,60,124,255,511,1023]
theorem nJ.yu:mR .any (opsOf Try.f95 8)=nJ.T8:=by kernel_rfl
theorem nJ.xy:nS nJ.T8.2 nJ.B8=true:=by kernel_rfl
theorem nJ.calls {k:Nat}{ab:Int}{ao:Option Addr}{am:Nat}{aa:List (S59)}{a1:Int}{a2:Int}{r1:Int}{r2:List (S59)}{r3:Bool}{w:World}(aW:Kd.C k59 w ao aa.length aa)(aX:aa.length<=am)(h:nJ.f k ab aa a1 a2=some (r1,r2,r3)):
  Calls Try.prog 95 #[.agg #[.int .i64 ab,.slice ao aa.length am],.int .i64 a1,.int .i64 a2] w fun e w'=>∃cx:Value,e=.returned (.tuple #[.agg #[.int .i64 r1,cx],.bool r3])/\Kd.R k59 59 w' w.heap.size (fun _=>True) cx r2/\Below w.heap.size w w':=by
 have b7:=Try.underlying31;have ew:=Try.underlying59;have aA:=dm aW;have aQ:=dm aX;clear aW aX;have HB:=dm (Below.refl w.heap.size w);unfold nJ.f at h;have H:=h;clear h;obtain⟨br,A4,H⟩:=kW H;(try dsimp only at H)
 rcases mr H with⟨h_,H_⟩|⟨h_,H_⟩<;> (subst h_;clear H;have H:=H_;clear H_)
 ·have H':=dm H;clear H
  go_enter Try.func95,Try.ntmps95
  go_wp2_with (first|((with_reducible refine kI 3 rfl ?_);refine lu #[.int .i64 ab,.slice ao aa.length am] 31 ?_;intro aq hg w6 jV hb;have ac:=dm (jV);have cj:=dm (ky:w.heap.size<=aq);have ck:=dm (ky:w.heap.size<=aq);replace HB:=kg HB hb;clear hb jV hg)|((with_reducible refine kI 6 rfl ?_);refine lu #[.int .i64 0,.slice none 0 0] 31 ?_;intro av hg w7 jV hb;have ag:=dm (jV);have cl:=dm (ky:w.heap.size<=av);have cm:=dm (ky:w.heap.size<=av);replace HB:=kg HB hb;have aG:=dm (AR:aq≠av);have aH:=dm (AU:av≠aq);replace ac:=jU ac hb;clear hb jV hg;have ex:=aG.out;have ey:=aH.out;have⟨bF,bG,bH,bI⟩:=kr (w:=w7) ac)|((with_reducible refine kY 86 rfl ?_);refine oF 13 rfl Try.func86 (uw.calls (kE (lq aA.out HB.out)) aQ.out A4.out) ?_;intro cy hb;replace ac:=jU ac hb;replace ag:=jU ag hb;replace HB:=kg HB hb;(try clear hb);have⟨bW,bX,bY,bZ⟩:=kr (w:=cy) ac)|((with_reducible refine kI 8 rfl ?_);refine lu #[.int .i64 0,.slice none 0 0] 31 ?_;intro aM hg b8 jV hb;have ai:=dm (jV);have dX:=dm (ky:w.heap.size<=aM);have dY:=dm (ky:w.heap.size<=aM);replace HB:=kg HB hb;have ax:=dm (AR:aq≠aM);have aT:=dm (AU:aM≠aq);replace ac:=jU ac hb;have aI:=dm ((by rw[hg];exact Nat.ne_of_lt (lL (g:=av) (o:=.cells #[.int .i64 0,.slice none 0 0] 31 (0,0)) (jZ ag.out)):av≠aM));have a8:=dm ((by rw[hg];exact Nat.ne_of_gt (lL (g:=av) (o:=.cells #[.int .i64 0,.slice none 0 0] 31 (0,0)) (jZ ag.out)):aM≠av));replace ag:=jU ag hb;clear hb jV hg;have dZ:=aT.out;have d7:=ax.out;have d8:=a8.out;have d9:=aI.out;have⟨b3,b4,b5,b6⟩:=kr (w:=b8) ai))
  go_loopg [9] k (fun kq v9 w'=>∃ (af:Int) (ap:List (S59)) (aK:Value),v9=.int .i64 af/\jP (nJ.l0 kq a1 a2 af ab aa ab ap=some (r1,r2,r3))/\jP (kq<=k)/\jP (Kd.R k59 59 w' w.heap.size (fun _=>True) aK ap)/\jP (w'.heap[aq]? =some (.cells #[.int .i64 ab,(.slice ao aa.length am)] 31 (0,0)))/\jP (w'.heap[av]? =some (.cells #[.int .i64 0,(.slice none 0 0)] 31 (0,0)))/\jP (w'.heap[aM]? =some (.cells #[.int .i64 ab,aK] 31 (0,0)))/\jP (Below w.heap.size w w'))
  case atStart=>exact⟨(0),(([]:List (S59))),(.slice none 0 0),(by first|rfl|(simp;done)|(simp[*];done)),H',⟨Nat.le_refl _⟩,⟨by first|exact sN _ _ _ _ _|exact u_ _ _ _ _ _|exact vB _ _ _ _ _|exact vk _ _ _ _ _|exact vw _ _ _ _ _⟩,⟨lM ac.out⟩,⟨lM ag.out⟩,⟨lM ai.out⟩,⟨jT HB.out⟩⟩
  case round=>
   clear H';(try clear c5 bW bX b3 b4 bF bG bY bZ b5 b6 bH bI);obtain⟨af,ap,aK,rfl,HA,bO,ae,ac,ag,ai,HB⟩:=hrel;cases gk with
   |zero=>exact absurd HA.out (by simp[nJ.l0])
   |succ k1=>
    have H:=HA.out;clear HA;simp only [nJ.l0]at H
    replace H:=mf H;rcases H with⟨cn,H⟩|⟨cn,H⟩
    ·skip
     obtain⟨d_,H⟩:=lh H;obtain⟨⟨bu,bv⟩,cz,H⟩:=kW H;(try dsimp only at H)
     by_cases bB:(!(((jQ aa af).f0)==bu)||(!(((jQ aa af).f1)==bv)))=true
     ·rw[if_pos bB]at H;have co:(!(((jQ aa af).f0)==bu)||(!(((jQ aa af).f1)==bv)))=true:=bB;clear bB
      obtain⟨bQ,H⟩:=mV H;have cp:=dm bQ;clear bQ;obtain⟨bD,bo⟩:∃y_:List (S59),y_=(ap++[(⟨(jQ aa af).f0,(jQ aa af).f1⟩:S59)]):=⟨_,rfl⟩;replace H:(nJ.l0 k1 a1 a2 (wrap64 (af+1)) ab aa ab bD)=some (r1,r2,r3):=l7 bo H
      have cq:=dm bo;clear bo;have H':=dm H;clear H;have ea:=aG.out;have eb:=aH.out;have ec:=ax.out;have ed:=aT.out;have⟨cS,cT,cU,cW⟩:=kr (w:=wr) ac;try go_wp2
      replace ae:=dm (kw ae.out);replace ac:=dm (kQ ac.out);replace ag:=dm (kQ ag.out);replace ai:=dm (kQ ai.out);replace HB:=dm (ma HB.out);have bl:0<=(af:Int):=jX;have bm:af<(aa.length:Int):=jX;obtain⟨az,bK,aD,aE⟩:=ng aA.out af bl bm;have a5:=aE;have a6:=aD;cases bK;replace aD:=ko HB aD;replace aE:=ko HB aE;replace bl:=eq_true bl;replace bm:=eq_true bm;refine mZ 9 (S:=fun w'=>w'.cell? ⟨aq,0,none⟩=some (.int .i64 ab)/\w'.cell? ⟨aq,1,none⟩=some (.slice (some az) aa.length am)/\w'.cell? (az.add ((af).toNat*2))=some (.int .i64 ((jQ aa af).f0))/\w'.cell? ⟨(az.add ((af).toNat*2)).block,(az.add ((af).toNat*2)).off+1,none⟩=some (.int .i64 ((jQ aa af).f1))) [] ⟨jS ac 0,jS ac 1,(ko HB a6),(ko HB a5)⟩ nJ.si nJ.rX (fun hHeld HT_ HW_=>?_);generalize wr.drew=eC at ae ac ag ai HB aD aE hHeld⊢;refine jR 0 26 1 ?_;refine jR 2 28 5 ?_;refine jR 5 31 37 ?_;refine jR 6 32 101 ?_;refine kJ 1 27 103 ?_;refine jR 3 29 111 ?_;refine kJ 4 30 127 ?_;refine lD 7 33 255 (fun K hK=>?_);refine rD Try.func46 (rH.calls cz.out) ?_;intro dP hb;replace ae:=kG ae hb;replace ac:=jU ac hb;replace ag:=jU ag hb;replace ai:=jU ai hb;replace HB:=kg HB hb;(try clear hb cA hk hi);refine hK.out _ _ ⟨jS ac 0,jS ac 1,(ko HB a6),(ko HB a5)⟩ (fun hHeld=>?_);clear hK K;refine kP 33 ?_;refine jR 8 34 511 ?_;refine mH (mP HT_.out (kR)) ?_;try go_wp2
      replace ae:=dm (kw ae.out);replace ac:=dm (kQ ac.out);replace ag:=dm (kQ ag.out);replace ai:=dm (kQ ai.out);replace HB:=dm (ma HB.out);have bL:0<=(af:Int):=jX;have bM:af<(aa.length:Int):=jX;obtain⟨cr,cH,bf,bh⟩:=ng aA.out af bL bM;have bj:=bh;have bk:=bf;obtain rfl:az=cr:=(by injection cH);replace bf:=ko HB bf;replace bh:=ko HB bh;replace bL:=eq_true bL;replace bM:=eq_true bM;refine mZ 11 (S:=fun w'=>w'.cell? ⟨aM,0,none⟩=some (.int .i64 ab)/\w'.cell? ⟨aM,1,none⟩=some (aK)/\w'.cell? ⟨aq,0,none⟩=some (.int .i64 ab)/\w'.cell? ⟨aq,1,none⟩=some (.slice (some az) aa.length am)/\w'.cell? (az.add ((af).toNat*2))=some (.int .i64 ((jQ aa af).f0))/\w'.cell? ⟨(az.add ((af).toNat*2)).block,(az.add ((af).toNat*2)).off+1,none⟩=some (.int .i64 ((jQ aa af).f1))) [10] ⟨jS ai 0,jS ai 1,jS ac 0,jS ac 1,(ko HB bk),(ko HB bj)⟩ nJ.yu nJ.xy (fun hHeld HT_ HW_=>?_);generalize dP.drew=cD at ae ac ag ai HB bf bh hHeld⊢;refine jR 0 35 1 ?_;refine jR 2 37 5 ?_;refine jR 4 39 21 ?_;refine kJ 1 36 23 ?_;refine kJ 3 38 31 ?_;refine jR 5 40 63 ?_;refine kJ 6 41 127 ?_;refine lD 7 42 255 (fun K hK=>?_);refine uY (w1:= ?_) (v:= ?_) (by rfl) rfl ?_ ?_;rotate_left 2
      ·go_simp
       constructor
       ·rfl
       rfl
      refine hK.out _ _ ⟨(mG (nG ai.out _) 0).trans rfl,(mG (nG ai.out _) 1).trans rfl,(mG (nG ac.out _) 0).trans rfl,(mG (nG ac.out _) 1).trans rfl,(World.cell?_alloc_lt _ _ _ (World.block_lt_of_cell? _ _ ((ko HB bk)))).trans ((ko HB bk)),(World.cell?_alloc_lt _ _ _ (World.block_lt_of_cell? _ _ ((ko HB bj)))).trans ((ko HB bj))⟩ (fun hHeld=>?_);clear hK K;refine kP 42 ?_;refine lD 8 43 511 (fun K hK=>?_);refine uC k59 (w0:=w) w.heap.size (by rfl) (.tmp 36) (.tmp 42) 29 59 (.agg #[(.int .i64 0),(.int .i64 0)]) 16 rfl Try.underlying29 rE rfl (by decide) (by omega) aK ap (⟨(jQ aa af).f0,(jQ aa af).f1⟩:S59) [.int .i64 ((jQ aa af).f0),.int .i64 ((jQ aa af).f1)] (fun _=>True) (fun _=>False) rfl rfl ?aP (fun _ hk=>hk.elim) ?aF ?aO ?aB ?aS ?aL ?_;(case aP=>exact qi _ _ _ (⟨(jQ aa af).f0,(jQ aa af).f1⟩:S59));(case aB=>exact(jT HB.out));(case aF=>exact(fun _ _=>trivial));(case aO=>exact(jW ae.out));(case aS=>exact(kN (jT HB.out)));(case aL=>have:=cp.out;omega);intro ez cE ho hb hg hat;rw[←cq.out]at ho;have n0:=lW ac hg (lS ae.out ac.out (by decide));have n1:=lW ag hg (lS ae.out ag.out (by decide));have n2:=lW ai hg (lS ae.out ai.out (by decide));have n3:=dm (hb);have n4:=dm (ho);clear ac ag ai HB ae;revert n0 n1 n2 n3 n4;intro ac ag ai HB bR;clear ho hb hg hat;obtain⟨b_,ca,cd⟩:=kM bR.out;(first|subst cd|(injection cd with cF dQ cG;have dR:=cF.symm;have dS:=cG.symm;clear cF dQ cG;subst dR;subst dS));refine hK.out _ _ ⟨jS ai 0,jS ai 1,jS ac 0,jS ac 1,(ko HB bk),(ko HB bj)⟩ (fun hHeld=>?_);clear hK K;refine kP 43 ?_;refine jR 9 44 1023 ?_;refine ry 10 (none) (lm 11 2047) (fun K hK=>?_);have eA:cE.cell? ⟨aM,1,none⟩=some (aK):=jS ai 1;have ee:=l9 ai.out 1;have cX:=ax.out;have cY:=aI.out;have cZ:=aT.out;have c_:=a8.out;refine pM (w1:= ?_) (by rfl) rfl ?_ ?_;rotate_left
      ·go_simp
       rfl
      refine hK.out _ _ ?_;clear hK K;refine mH (mP HT_.out (kR)) ?_;try go_wp2
      go_roundg k1
      case measure=>have:=bO.out;omega
      case rel=>exact⟨(wrap64 (af+1)),(bD),(.slice b_ bD.length ca),(by first|rfl|(simp;done)|(simp[*];done)),H',⟨by have:=bO.out;omega⟩,⟨by(with_reducible repeat(first|apply kK|apply kL|apply kw));exact kv (kH (p:=⟨aM,1,none⟩) (lG bR.out ai.out (by decide)) (fun _ hk=>hk.2) (.slice b_ bD.length ca)) (fun _ hk=>trivial)⟩,⟨lM ac.out⟩,⟨lM ag.out⟩,⟨lM ai.out⟩,⟨jT HB.out⟩⟩
     rw[if_neg bB]at H;have co:(!(((jQ aa af).f0)==bu)||(!(((jQ aa af).f1)==bv)))=false:=by simpa using bB
     clear bB;have H':=dm H;clear H;have ef:=aG.out;have eg:=aH.out;have eh:=ax.out;have ei:=aT.out;have⟨db,dc,dd,de⟩:=kr (w:=wr) ac;try go_wp2
     replace ae:=dm (kw ae.out);replace ac:=dm (kQ ac.out);replace ag:=dm (kQ ag.out);replace ai:=dm (kQ ai.out);replace HB:=dm (ma HB.out);have bl:0<=(af:Int):=jX;have bm:af<(aa.length:Int):=jX;obtain⟨az,bK,aD,aE⟩:=ng aA.out af bl bm;have a5:=aE;have a6:=aD;cases bK;replace aD:=ko HB aD;replace aE:=ko HB aE;replace bl:=eq_true bl;replace bm:=eq_true bm;refine mZ 9 (S:=fun w'=>w'.cell? ⟨aq,0,none⟩=some (.int .i64 ab)/\w'.cell? ⟨aq,1,none⟩=some (.slice (some az) aa.length am)/\w'.cell? (az.add ((af).toNat*2))=some (.int .i64 ((jQ aa af).f0))/\w'.cell? ⟨(az.add ((af).toNat*2)).block,(az.add ((af).toNat*2)).off+1,none⟩=some (.int .i64 ((jQ aa af).f1))) [] ⟨jS ac 0,jS ac 1,(ko HB a6),(ko HB a5)⟩ nJ.si nJ.rX (fun hHeld HT_ HW_=>?_);generalize wr.drew=eD at ae ac ag ai HB aD aE hHeld⊢;refine jR 0 26 1 ?_;refine jR 2 28 5 ?_;refine jR 5 31 37 ?_;refine jR 6 32 101 ?_;refine kJ 1 27 103 ?_;refine jR 3 29 111 ?_;refine kJ 4 30 127 ?_;refine lD 7 33 255 (fun K hK=>?_);refine rD Try.func46 (rH.calls cz.out) ?_;intro eE hb;replace ae:=kG ae hb;replace ac:=jU ac hb;replace ag:=jU ag hb;replace ai:=jU ai hb;replace HB:=kg HB hb;(try clear hb cA hk hi);refine hK.out _ _ ⟨jS ac 0,jS ac 1,(ko HB a6),(ko HB a5)⟩ (fun hHeld=>?_);clear hK K;refine kP 33 ?_;refine jR 8 34 511 ?_;refine mH (mP HT_.out (kR)) ?_;try go_wp2
     go_roundg k1
     case measure=>have:=bO.out;omega
     case rel=>exact⟨(wrap64 (af+1)),(ap),(aK),(by first|rfl|(simp;done)|(simp[*];done)),H',⟨by have:=bO.out;omega⟩,⟨jW ae.out⟩,⟨jZ ac.out⟩,⟨jZ ag.out⟩,⟨jZ ai.out⟩,⟨jT HB.out⟩⟩
    simp only [Option.some.injEq,Prod.mk.injEq]at H;obtain⟨rfl,rfl,rfl⟩:=H;have ej:=aG.out;have ek:=aH.out;have el:=ax.out;have em:=aT.out;have⟨df,dg,dh,di⟩:=kr (w:=wr) ac;have en:=a8.out;have eo:=aI.out;have⟨dj,dk,dl,dn⟩:=kr (w:=wr) ai;have⟨dq,dr,dt,du⟩:=kr (w:=wr) ag;obtain⟨ce,cf,cI⟩:=kM ae.out;subst cI
    go_wp2;refine bodyPost_ret (yj rfl _ _ av 31 #[.int .i64 ab,.slice ce ap.length cf] (0,0) _ rfl (lM ag.out) Try.underlying31 rfl (kR)) rfl ?_;exact⟨_,mX,by(with_reducible repeat(first|apply kK|apply kL|apply kw));exact kv (kH (p:=⟨av,1,none⟩) (kH (p:=⟨av,0,none⟩) (lG ae.out ag.out (by decide)) (fun _ hk=>hk.2) (.int .i64 ab)) (fun _ hk=>hk.2) (.slice ce ap.length cf)) (fun _ hk=>trivial),jT HB.out⟩
 simp only [Option.some.injEq,Prod.mk.injEq]at H;obtain⟨rfl,rfl,rfl⟩:=H
 go_enter Try.func95,Try.ntmps95
 go_wp2_with (first|((with_reducible refine kI 3 rfl ?_);refine lu #[.int .i64 ab,.slice ao aa.length am] 31 ?_;intro aq hg eF jV hb;have ac:=dm (jV);have cj:=dm (ky:w.heap.size<=aq);have ck:=dm (ky:w.heap.size<=aq);replace HB:=kg HB hb;clear hb jV hg)|((with_reducible refine kI 6 rfl ?_);refine lu #[.int .i64 0,.slice none 0 0] 31 ?_;intro av hg dT jV hb;have ag:=dm (jV);have cl:=dm (ky:w.heap.size<=av);have cm:=dm (ky:w.heap.size<=av);replace HB:=kg HB hb;have aG:=dm (AR:aq≠av);have aH:=dm (AU:av≠aq);replace ac:=jU ac hb;clear hb jV hg;have ep:=aG.out;have eq:=aH.out;have⟨dv,dw,dx,dy⟩:=kr (w:=dT) ac)|((with_reducible refine kY 86 rfl ?_);refine oF 13 rfl Try.func86 (uw.calls (kE (lq aA.out HB.out)) aQ.out A4.out) ?_;intro dU hb;replace ac:=jU ac hb;replace ag:=jU ag hb;replace HB:=kg HB hb;(try clear hb);have⟨dz,dA,dB,dC⟩:=kr (w:=dU) ag))
 refine bodyPost_ret (yj rfl _ _ av 31 #[.int .i64 0,.slice none 0 0] (0,0) _ rfl (lM ag.out) Try.underlying31 rfl (kR)) rfl ?_;exact⟨_,mX,by first|exact sN _ _ _ _ _|exact u_ _ _ _ _ _|exact vB _ _ _ _ _|exact vk _ _ _ _ _|exact vw _ _ _ _ _,jT HB.out⟩
def qD.f (k:Nat) (ab:Int) (aa:List (S59)) (a1:Int) (a2:Int):Option (Bool):=(nJ.f k ab aa a1 a2).bind fun a7=>(if a7.2.2=true then((oM.f k a7.1 a7.2.1).bind fun aV=>((oM.f k ab aa).bind fun aU=>(some (decide (aV>aU))))) else(some false))
def qD.T2:Bool×List (List Nat×List Nat):=(true,[([],[]),([0],[0]),([1],[1]),([2,1,1],[1,2]),([1],[1]),([4,3,1],[1,4]),([3,5,1],[1,3,5]),([1,6],[1,6]),([7,5,0,1,2,3,4,5,6,7],[7])])
def qD.B2:List Nat:=[0,1,3,7,3,31,63,127,255]
theorem qD.Gd:mR .any (opsOf Try.f93 2)=qD.T2:=by kernel_rfl
theorem qD.C9:nS qD.T2.2 qD.B2=true:=by kernel_rfl
theorem qD.calls {k:Nat}{ab:Int}{ao:Option Addr}{am:Nat}{aa:List (S59)}{a1:Int}{a2:Int}{r:Bool}{w:World}(aW:Kd.C k59 w ao aa.length aa)(aX:aa.length<=am)(h:qD.f k ab aa a1 a2=some r):
  Calls Try.prog 93 #[.agg #[.int .i64 ab,.slice ao aa.length am],.int .i64 a1,.int .i64 a2] w fun e w'=>e=.returned (.bool r)/\Below w.heap.size w w':=by
 have b7:=Try.underlying31;have aA:=dm aW;have aQ:=dm aX;clear aW aX;have HB:=dm (Below.refl w.heap.size w);unfold qD.f at h;have H:=h;clear h;obtain⟨⟨aw,au,cg⟩,A4,H⟩:=kW H;(try dsimp only at H)
 rcases mr H with⟨h_,H_⟩|⟨h_,H_⟩<;> (subst h_;clear H;have H:=H_;clear H_)
 ·obtain⟨aV,A6,H⟩:=kW H;(try dsimp only at H);obtain⟨aU,A7,H⟩:=kW H;(try dsimp only at H);obtain rfl:=Option.some.inj H
  go_enter Try.func93,Try.ntmps93;try go_wp2_with (first|((with_reducible refine kI 3 rfl ?_);refine lu #[.int .i64 ab,.slice ao aa.length am] 31 ?_;intro ay hg w8 jV hb;have ah:=dm (jV);have ct:=dm (ky:w.heap.size<=ay);have cu:=dm (ky:w.heap.size<=ay);replace HB:=kg HB hb;clear hb jV hg;have⟨bF,bG,bH,bI⟩:=kr (w:=w8) ah)|((with_reducible refine kY 95 rfl ?_);refine lH 13 rfl Try.func95 (nJ.calls (kE (lq aA.out HB.out)) aQ.out A4.out) ?_;rintro e cy ⟨cJ,rfl,bJ,hb⟩;refine⟨_,rfl,?_⟩;have ak:=dm (kU bJ (kN (jT HB.out)));replace ah:=jU ah hb;replace HB:=kg HB hb;(try clear hb bJ))|((with_reducible refine kI 7 rfl ?_);refine lu #[.int .i64 0,.slice none 0 0] 31 ?_;intro aj hg bx jV hb;replace ak:=kG ak hb;have al:=dm (jV);have cv:=dm (ky:w.heap.size<=aj);have cw:=dm (ky:w.heap.size<=aj);replace HB:=kg HB hb;have aR:=dm (Dm:ay≠aj);have a9:=dm (Dn:aj≠ay);replace ah:=jU ah hb;clear hb jV hg;have es:=a9.out;have et:=aR.out;have⟨bS,bT,bU,bV⟩:=kr (w:=bx) al;obtain⟨aZ,a4,cL⟩:=kM ak.out;subst cL))
  have n0:jP (Kd.R k59 59 ((bx.setCell ⟨aj,0,none⟩ (.int .i64 aw)).setCell ⟨aj,1,none⟩ (.slice aZ au.length a4)) w.heap.size (fun _=>True) (.slice aZ au.length a4) au):=⟨by(with_reducible repeat(first|apply kK|apply kL|apply kw));exact kv (kH (p:=⟨aj,1,none⟩) (kH (p:=⟨aj,0,none⟩) (lG ak.out al.out (by decide)) (fun _ hk=>hk.2) (.int .i64 aw)) (fun _ hk=>hk.2) (.slice aZ au.length a4)) (fun _ hk=>trivial)⟩;have n1:jP (((bx.setCell ⟨aj,0,none⟩ (.int .i64 aw)).setCell ⟨aj,1,none⟩ (.slice aZ au.length a4)).heap[ay]? =some (.cells #[.int .i64 ab,.slice ao aa.length am] 31 (0,0))):=⟨yY⟩;have n2:jP (((bx.setCell ⟨aj,0,none⟩ (.int .i64 aw)).setCell ⟨aj,1,none⟩ (.slice aZ au.length a4)).heap[aj]? =some (.cells #[.int .i64 aw,.slice aZ au.length a4] 31 (0,0))):=⟨Dl⟩;have n3:jP (Below w.heap.size w ((bx.setCell ⟨aj,0,none⟩ (.int .i64 aw)).setCell ⟨aj,1,none⟩ (.slice aZ au.length a4))):=⟨jT HB.out⟩;(try clear ak ah al HB);generalize((bx.setCell ⟨aj,0,none⟩ (.int .i64 aw)).setCell ⟨aj,1,none⟩ (.slice aZ au.length a4))=dV at n0 n1 n2 n3⊢;revert n0 n1 n2 n3;intro ak ah al HB;replace ak:=dm (kw ak.out);replace ah:=dm (kQ ah.out);replace al:=dm (kQ al.out);replace HB:=dm (ma HB.out);refine mZ 9 (S:=fun w'=>w'.cell? ⟨aj,0,none⟩=some (.int .i64 aw)/\w'.cell? ⟨aj,1,none⟩=some (.slice aZ au.length a4)/\w'.cell? ⟨ay,0,none⟩=some (.int .i64 ab)/\w'.cell? ⟨ay,1,none⟩=some (.slice ao aa.length am)) [] ⟨jS al 0,jS al 1,jS ah 0,jS ah 1⟩ qD.Gd qD.C9 (fun hHeld HT_ HW_=>?_);generalize dV.drew=eG at ak ah al HB hHeld⊢;refine jR 0 16 1 ?_;refine jR 1 17 3 ?_;refine kJ 2 18 7 ?_;refine kJ 4 20 23 ?_;refine lD 3 19 31 (fun K hK=>?_);refine rD Try.func57 (oM.calls (kE (ku ak.out).2.2) ((ku ak.out).2.1) A6.out) ?_;intro eH hb;replace ak:=kG ak hb;replace ah:=jU ah hb;replace al:=jU al hb;replace HB:=kg HB hb;(try clear hb cA hk hi);refine hK.out _ _ ⟨jS al 0,jS al 1,jS ah 0,jS ah 1⟩ (fun hHeld=>?_);clear hK K;refine kP 19 ?_;refine lD 5 21 63 (fun K hK=>?_);refine rD Try.func57 (oM.calls (kE (lq aA.out HB.out)) aQ.out A7.out) ?_;intro eI hb;replace ak:=kG ak hb;replace ah:=jU ah hb;replace al:=jU al hb;replace HB:=kg HB hb;(try clear hb);refine hK.out _ _ ⟨jS al 0,jS al 1,jS ah 0,jS ah 1⟩ (fun hHeld=>?_);clear hK K;refine kP 21 ?_;refine jR 6 22 127 ?_;refine jR 7 23 255 ?_;refine jR 8 6 511 ?_;refine mH (mP HT_.out (kR)) ?_;try go_wp2
  go_ret
  exact⟨nN,jT HB.out⟩
 obtain rfl:=Option.some.inj H
 go_enter Try.func93,Try.ntmps93;try go_wp2_with (first|((with_reducible refine kI 3 rfl ?_);refine lu #[.int .i64 ab,.slice ao aa.length am] 31 ?_;intro ay hg dW jV hb;have ah:=dm (jV);have ct:=dm (ky:w.heap.size<=ay);have cu:=dm (ky:w.heap.size<=ay);replace HB:=kg HB hb;clear hb jV hg;have⟨dD,dE,dF,dG⟩:=kr (w:=dW) ah)|((with_reducible refine kY 95 rfl ?_);refine lH 13 rfl Try.func95 (nJ.calls (kE (lq aA.out HB.out)) aQ.out A4.out) ?_;rintro e eJ ⟨cJ,rfl,bJ,hb⟩;refine⟨_,rfl,?_⟩;have ak:=dm (kU bJ (kN (jT HB.out)));replace ah:=jU ah hb;replace HB:=kg HB hb;(try clear hb bJ))|((with_reducible refine kI 7 rfl ?_);refine lu #[.int .i64 0,.slice none 0 0] 31 ?_;intro aj hg bC jV hb;replace ak:=kG ak hb;have al:=dm (jV);have cv:=dm (ky:w.heap.size<=aj);have cw:=dm (ky:w.heap.size<=aj);replace HB:=kg HB hb;have aR:=dm (Dm:ay≠aj);have a9:=dm (Dn:aj≠ay);replace ah:=jU ah hb;clear hb jV hg;have eu:=a9.out;have ev:=aR.out;have⟨dH,dI,dJ,dK⟩:=kr (w:=bC) al;obtain⟨a_,ba,cM⟩:=kM ak.out;subst cM))
 have n0:jP (Kd.R k59 59 ((bC.setCell ⟨aj,0,none⟩ (.int .i64 aw)).setCell ⟨aj,1,none⟩ (.slice a_ au.length ba)) w.heap.size (fun _=>True) (.slice a_ au.length ba) au):=⟨by(with_reducible repeat(first|apply kK|apply kL|apply kw));exact kv (kH (p:=⟨aj,1,none⟩) (kH (p:=⟨aj,0,none⟩) (lG ak.out al.out (by decide)) (fun _ hk=>hk.2) (.int .i64 aw)) (fun _ hk=>hk.2) (.slice a_ au.length ba)) (fun _ hk=>trivial)⟩;have n1:jP (((bC.setCell ⟨aj,0,none⟩ (.int .i64 aw)).setCell ⟨aj,1,none⟩ (.slice a_ au.length ba)).heap[ay]? =some (.cells #[.int .i64 ab,.slice ao aa.length am] 31 (0,0))):=⟨yY⟩;have n2:jP (((bC.setCell ⟨aj,0,none⟩ (.int .i64 aw)).setCell ⟨aj,1,none⟩ (.slice a_ au.length ba)).heap[aj]? =some (.cells #[.int .i64 aw,.slice a_ au.length ba] 31 (0,0))):=⟨Dl⟩;have n3:jP (Below w.heap.size w ((bC.setCell ⟨aj,0,none⟩ (.int .i64 aw)).setCell ⟨aj,1,none⟩ (.slice a_ au.length ba))):=⟨jT HB.out⟩;(try clear ak ah al HB);generalize((bC.setCell ⟨aj,0,none⟩ (.int .i64 aw)).setCell ⟨aj,1,none⟩ (.slice a_ au.length ba))=cD at n0 n1 n2 n3⊢;revert n0 n1 n2 n3;intro ak ah al HB;replace ak:=dm (kw ak.out);replace ah:=dm (kQ ah.out);replace al:=dm (kQ al.out);replace HB:=dm (ma HB.out);refine mZ 9 (S:=fun w'=>True) [] trivial qD.Gd qD.C9 (fun hHeld HT_ HW_=>?_);generalize cD.drew=cE at ak ah al HB hHeld⊢;refine jR 0 16 1 ?_;refine jR 1 17 3 ?_;refine l6 2 18 7 ?_;refine l6 3 19 15 ?_;refine l6 4 20 31 ?_;refine l6 5 21 63 ?_;refine l6 6 22 127 ?_;refine jR 7 23 255 ?_;refine jR 8 6 511 ?_;refine mH (mP HT_.out (kR)) ?_;try go_wp2
 go_ret
 exact⟨nN,jT HB.out⟩
theorem AV(h:p:=by rw[hg];exact Nat.ne_of_lt (lL (g:=ax) (o:=.cells #[.int .i64 ab,.slice al aa.length ai] 31 (0,0)) (jZ af.out))):p:=h
theorem AX(h:p:=by rw[hg];exact Nat.ne_of_gt (lL (g:=ax) (o:=.cells #[.int .i64 ab,.slice al aa.length ai] 31 (0,0)) (jZ af.out))):p:=h
def nV.l0:Nat->List (S59)->Int->Int->List (S59)->Option ((List (S59)))
 |0,_,_,_,_=>none
 |k+1,x3,x4,bM,aK=>if x4<(aK.length:Int) then(if 0<=x4 then((qD.f k bM aK ((jQ aK x4).f0) ((jQ aK x4).f1)).bind fun b8=>(if b8=true then(if x3.length<8796093022208 then(nV.l0 k (x3++[(⟨(jQ aK x4).f0,(jQ aK x4).f1⟩:S59)]) (wrap64 (x4+1)) bM aK) else(none)) else(nV.l0 k x3 (wrap64 (x4+1)) bM aK))) else(none)) else(some x3)
def nV.f (k:Nat) (ab:Int) (aa:List (S59)):Option ((List (S59))):=(some (([]:List (S59)):List (S59))).bind fun a3=>((mo.f k ab aa).bind fun bo=>(if bo=true then(nV.l0 k a3 0 ab aa) else(some a3)))
def nV.T7:Bool×List (List Nat×List Nat):=(true,[([],[]),([],[]),([1],[1]),([],[]),([2,3],[2,3]),([4],[4]),([5],[5]),([],[]),([7],[7]),([],[]),([8,9],[8,9]),([10],[10]),([11],[11]),([0,6,12],[0,6,12])])
def nV.B7:List Nat:=[0,0,2,0,14,30,62,0,128,0,896,1920,3968,8191]
theorem nV.si:mR .any (opsOf Try.f58 7)=nV.T7:=by kernel_rfl
theorem nV.rX:nS nV.T7.2 nV.B7=true:=by kernel_rfl
theorem nV.calls {k:Nat}{ab:Int}{al:Option Addr}{ai:Nat}{aa:List (S59)}{r:List (S59)}{w:World}(aW:Kd.C k59 w al aa.length aa)(aX:aa.length<=ai)(h:nV.f k ab aa=some r):
  Calls Try.prog 58 #[.agg #[.int .i64 ab,.slice al aa.length ai]] w fun e w'=>∃dy:Value,e=.returned (dy)/\Kd.R k59 59 w' w.heap.size (fun _=>True) dy r/\Below w.heap.size w w':=by
 have ci:=Try.underlying31;have dE:=Try.underlying59;have am:=dm aW;have a5:=dm aX;clear aW aX;have HB:=dm (Below.refl w.heap.size w);unfold nV.f at h;have H:=h;clear h;obtain⟨a3,bH⟩:∃y_:List (S59),y_=(([]:List (S59))):=⟨_,rfl⟩;replace H:((mo.f k ab aa).bind fun bo=>(if bo=true then(nV.l0 k a3 0 ab aa) else(some a3)))=some r:=l7 bH H
 have bR:=dm bH;clear bH;obtain⟨bo,A2,H⟩:=kW H;(try dsimp only at H)
 rcases mr H with⟨h_,H_⟩|⟨h_,H_⟩<;> (subst h_;clear H;have H:=H_;clear H_)
 ·have H':=dm H;clear H
  go_enter Try.func58,Try.ntmps58
  go_wp2_with (first|((with_reducible refine kI 1 rfl ?_);refine lu #[.int .i64 ab,.slice al aa.length ai] 31 ?_;intro a6 hg w4 jV hb;have ae:=dm (jV);have c_:=dm (ky:w.heap.size<=a6);have db:=dm (ky:w.heap.size<=a6);replace HB:=kg HB hb;clear hb jV hg)|((with_reducible refine kI 5 rfl ?_);refine pz k59 rfl 59 ([]:List (S59)) [] (kT.none _ _) ?_;intro dF w5 cd hb hg_ lF;clear hg_ lF;(first|rw[←bR.out]at cd|(simp only [Int.reduceToNat]at cd;rw[←bR.out]at cd));have a7:=dm (kU cd (kN (jT HB.out)));replace ae:=jU ae hb;replace HB:=kg HB hb;clear hb cd;have⟨cG,cH,cI,cJ⟩:=kr (w:=w5) ae)|((with_reducible refine kY 32 rfl ?_);refine oF 7 rfl Try.func32 (mo.calls (kE (lq am.out HB.out)) a5.out A2.out) ?_;intro w8 hb;replace a7:=kG a7 hb;replace ae:=jU ae hb;replace HB:=kg HB hb;(try clear hb)))
  go_loopg [3,4] k (fun kq v3 v4 w'=>∃ (a4:List (S59)) (ac:Int),v4=.int .i64 ac/\jP (nV.l0 kq a4 ac ab aa=some r)/\jP (kq<=k)/\jP (Kd.R k59 59 w' w.heap.size (fun _=>True) v3 a4)/\jP (w'.heap[a6]? =some (.cells #[.int .i64 ab,(.slice al aa.length ai)] 31 (0,0)))/\jP (Below w.heap.size w w'))
  case atStart=>exact⟨(a3),(0),(kD),H',⟨Nat.le_refl _⟩,⟨jW a7.out⟩,⟨jZ ae.out⟩,⟨jT HB.out⟩⟩
  case round=>
   clear H';(try clear c3 cG cH cI cJ);obtain⟨a4,ac,rfl,HA,bq,ay,ae,HB⟩:=hrel;cases gk with
   |zero=>exact absurd HA.out (by simp[nV.l0])
   |succ k1=>
    have H:=HA.out;clear HA;simp only [nV.l0]at H
    replace H:=mf H;rcases H with⟨dG,H⟩|⟨dG,H⟩
    ·skip
     obtain⟨eZ,H⟩:=lh H;obtain⟨b8,dz,H⟩:=kW H;(try dsimp only at H)
     rcases mr H with⟨h_,H_⟩|⟨h_,H_⟩<;> (subst h_;clear H;have H:=H_;clear H_)
     ·skip
      obtain⟨ct,H⟩:=mV H;have dc:=dm ct;clear ct;obtain⟨cL,bI⟩:∃y_:List (S59),y_=(a4++[(⟨(jQ aa ac).f0,(jQ aa ac).f1⟩:S59)]):=⟨_,rfl⟩;replace H:(nV.l0 k1 cL (wrap64 (ac+1)) ab aa)=some r:=l7 bI H
      have dd:=dm bI;clear bI;have H':=dm H;clear H;have⟨bY,bZ,b3,b4⟩:=kr (w:=wr) ae;try go_wp2
      replace ay:=dm (kw ay.out);replace ae:=dm (kQ ae.out);replace HB:=dm (ma HB.out);have bB:0<=(ac:Int):=jX;have bC:ac<(aa.length:Int):=jX;obtain⟨ap,cj,aC,aD⟩:=ng am.out ac bB bC;have bf:=aD;have bh:=aC;cases cj;replace aC:=ko HB aC;replace aD:=ko HB aD;replace bB:=eq_true bB;replace bC:=eq_true bC;have bD:0<=(ac:Int):=jX;have bE:ac<(aa.length:Int):=jX;obtain⟨b9,ck,aE,aG⟩:=ng am.out ac bD bE;have bj:=aG;have bk:=aE;obtain rfl:ap=b9:=(by injection ck);replace aE:=ko HB aE;replace aG:=ko HB aG;replace bD:=eq_true bD;replace bE:=eq_true bE;refine mZ 14 (S:=fun w'=>w'.cell? ⟨a6,0,none⟩=some (.int .i64 ab)/\w'.cell? ⟨a6,1,none⟩=some (.slice (some ap) aa.length ai)/\w'.cell? (ap.add ((ac).toNat*2))=some (.int .i64 ((jQ aa ac).f0))/\w'.cell? ⟨(ap.add ((ac).toNat*2)).block,(ap.add ((ac).toNat*2)).off+1,none⟩=some (.int .i64 ((jQ aa ac).f1))/\w'.cell? (ap.add ((ac).toNat*2))=some (.int .i64 ((jQ aa ac).f0))/\w'.cell? ⟨(ap.add ((ac).toNat*2)).block,(ap.add ((ac).toNat*2)).off+1,none⟩=some (.int .i64 ((jQ aa ac).f1))) [] ⟨jS ae 0,jS ae 1,(ko HB bh),(ko HB bf),(ko HB bk),(ko HB bj)⟩ nV.si nV.rX (fun hHeld HT_ HW_=>?_);generalize wr.drew=fP at ay ae HB aC aD aE aG hHeld⊢;refine jR 1 18 2 ?_;refine jR 3 20 10 ?_;refine jR 7 24 138 ?_;refine jR 9 26 650 ?_;refine kJ 0 17 651 ?_;refine kJ 2 19 655 ?_;refine jR 4 21 671 ?_;refine jR 5 22 703 ?_;refine kJ 6 23 767 ?_;refine kJ 8 25 1023 ?_;refine jR 10 27 2047 ?_;refine jR 11 28 4095 ?_;refine kJ 12 29 8191 ?_;refine lD 13 30 16383 (fun K hK=>?_);refine rD Try.func93 (qD.calls (kE (lq am.out HB.out)) a5.out dz.out) ?_;intro eN hb;replace ay:=kG ay hb;replace ae:=jU ae hb;replace HB:=kg HB hb;(try clear hb eO hk hi);refine hK.out _ _ ⟨jS ae 0,jS ae 1,(ko HB bh),(ko HB bf),(ko HB bk),(ko HB bj)⟩ (fun hHeld=>?_);clear hK K;refine kP 30 ?_;refine mH (mP HT_.out (kR)) ?_;have⟨dM,dN,dO,dP⟩:=kr (w:=eN) ae;have cl:0<=(ac:Int):=jX;have cm:ac<(aa.length:Int):=jX;obtain⟨de,dH,b5,b6⟩:=ng am.out ac cl cm;obtain rfl:ap=de:=(by injection dH);replace b5:=ko HB b5;replace b6:=ko HB b6;replace cl:=eq_true cl;replace cm:=eq_true cm;try go_wp2_with (first|((with_reducible refine oZ (b:=.append) (xs:= #[.tmp 31,.tmp 37]) rfl ?_);at_builtin;refine qc k59 (w0:=w) w.heap.size rfl (.tmp 31) (.tmp 37) 29 59 (.agg #[(.int .i64 0),(.int .i64 0)]) 16 rfl Try.underlying29 rE rfl (by decide) (by omega) u3 a4 (⟨(jQ aa ac).f0,(jQ aa ac).f1⟩:S59) [.int .i64 ((jQ aa ac).f0),.int .i64 ((jQ aa ac).f1)] (fun _=>True) (fun _=>False) rfl rfl ?aP (fun _ hk=>hk.elim) ?aF ?aO ?aB ?aS ?aL ?_;(case aP=>exact qi _ _ _ (⟨(jQ aa ac).f0,(jQ aa ac).f1⟩:S59));(case aB=>exact(jT HB.out));(case aF=>exact(fun _ _=>trivial));(case aO=>exact(jW ay.out));(case aS=>exact(kN (jT HB.out)));(case aL=>have:=dc.out;omega);intro fG fQ ho hb hg hat;rw[←dd.out]at ho;have n0:=lW ae hg (lS ay.out ae.out (by decide));have n1:=dm (hb);have n2:=dm (ho);clear ae HB ay;revert n0 n1 n2;intro ae HB df;clear ho hb hg hat))
      go_roundg k1
      case measure=>have:=bq.out;omega
      case rel=>exact⟨(cL),(wrap64 (ac+1)),(kD),H',⟨by have:=bq.out;omega⟩,⟨jW df.out⟩,⟨jZ ae.out⟩,⟨jT HB.out⟩⟩
     have H':=dm H;clear H;have⟨dQ,dR,dS,dT⟩:=kr (w:=wr) ae;try go_wp2
     replace ay:=dm (kw ay.out);replace ae:=dm (kQ ae.out);replace HB:=dm (ma HB.out);have bB:0<=(ac:Int):=jX;have bC:ac<(aa.length:Int):=jX;obtain⟨ap,cj,aC,aD⟩:=ng am.out ac bB bC;have bf:=aD;have bh:=aC;cases cj;replace aC:=ko HB aC;replace aD:=ko HB aD;replace bB:=eq_true bB;replace bC:=eq_true bC;have bD:0<=(ac:Int):=jX;have bE:ac<(aa.length:Int):=jX;obtain⟨b9,ck,aE,aG⟩:=ng am.out ac bD bE;have bj:=aG;have bk:=aE;obtain rfl:ap=b9:=(by injection ck);replace aE:=ko HB aE;replace aG:=ko HB aG;replace bD:=eq_true bD;replace bE:=eq_true bE;refine mZ 14 (S:=fun w'=>w'.cell? ⟨a6,0,none⟩=some (.int .i64 ab)/\w'.cell? ⟨a6,1,none⟩=some (.slice (some ap) aa.length ai)/\w'.cell? (ap.add ((ac).toNat*2))=some (.int .i64 ((jQ aa ac).f0))/\w'.cell? ⟨(ap.add ((ac).toNat*2)).block,(ap.add ((ac).toNat*2)).off+1,none⟩=some (.int .i64 ((jQ aa ac).f1))/\w'.cell? (ap.add ((ac).toNat*2))=some (.int .i64 ((jQ aa ac).f0))/\w'.cell? ⟨(ap.add ((ac).toNat*2)).block,(ap.add ((ac).toNat*2)).off+1,none⟩=some (.int .i64 ((jQ aa ac).f1))) [] ⟨jS ae 0,jS ae 1,(ko HB bh),(ko HB bf),(ko HB bk),(ko HB bj)⟩ nV.si nV.rX (fun hHeld HT_ HW_=>?_);generalize wr.drew=fR at ay ae HB aC aD aE aG hHeld⊢;refine jR 1 18 2 ?_;refine jR 3 20 10 ?_;refine jR 7 24 138 ?_;refine jR 9 26 650 ?_;refine kJ 0 17 651 ?_;refine kJ 2 19 655 ?_;refine jR 4 21 671 ?_;refine jR 5 22 703 ?_;refine kJ 6 23 767 ?_;refine kJ 8 25 1023 ?_;refine jR 10 27 2047 ?_;refine jR 11 28 4095 ?_;refine kJ 12 29 8191 ?_;refine lD 13 30 16383 (fun K hK=>?_);refine rD Try.func93 (qD.calls (kE (lq am.out HB.out)) a5.out dz.out) ?_;intro fS hb;replace ay:=kG ay hb;replace ae:=jU ae hb;replace HB:=kg HB hb;(try clear hb eO hk hi);refine hK.out _ _ ⟨jS ae 0,jS ae 1,(ko HB bh),(ko HB bf),(ko HB bk),(ko HB bj)⟩ (fun hHeld=>?_);clear hK K;refine kP 30 ?_;refine mH (mP HT_.out (kR)) ?_;try go_wp2
     go_roundg k1
     case measure=>have:=bq.out;omega
     case rel=>exact⟨(a4),(wrap64 (ac+1)),(kD),H',⟨by have:=bq.out;omega⟩,⟨jW ay.out⟩,⟨jZ ae.out⟩,⟨jT HB.out⟩⟩
    obtain rfl:=Option.some.inj H;have⟨dU,dV,dW,dX⟩:=kr (w:=wr) ae
    go_wp2
    go_ret
    exact⟨_,mX,jW ay.out,jT HB.out⟩
 obtain rfl:=Option.some.inj H
 go_enter Try.func58,Try.ntmps58
 go_wp2_with (first|((with_reducible refine kI 1 rfl ?_);refine lu #[.int .i64 ab,.slice al aa.length ai] 31 ?_;intro a6 hg fT jV hb;have ae:=dm (jV);have c_:=dm (ky:w.heap.size<=a6);have db:=dm (ky:w.heap.size<=a6);replace HB:=kg HB hb;clear hb jV hg)|((with_reducible refine kI 5 rfl ?_);refine pz k59 rfl 59 ([]:List (S59)) [] (kT.none _ _) ?_;intro dF eP bU hb hg_ lF;clear hg_ lF;(first|rw[←bR.out]at bU|(simp only [Int.reduceToNat]at bU;rw[←bR.out]at bU));have a7:=dm (kU bU (kN (jT HB.out)));replace ae:=jU ae hb;replace HB:=kg HB hb;clear hb bU;have⟨dY,dZ,d7,d8⟩:=kr (w:=eP) ae)|((with_reducible refine kY 32 rfl ?_);refine oF 7 rfl Try.func32 (mo.calls (kE (lq am.out HB.out)) a5.out A2.out) ?_;intro fU hb;replace a7:=kG a7 hb;replace ae:=jU ae hb;replace HB:=kg HB hb;(try clear hb)))
 go_ret
 exact⟨_,mX,jW a7.out,jT HB.out⟩
def pE.f (ab:Int) (aa:List (S59)):Option (Int× (List (S59))):=(some (([]:List (S59)):List (S59))).bind fun a9=>(if a9.length+aa.length<8796093022208 then(some (ab,(a9++aa))) else(none))
def pE.T1:Bool×List (List Nat×List Nat):=(true,[([],[]),([0],[0]),([],[]),([],[]),([3],[3]),([2,4],[2,4]),([1,5],[1,5]),([6,5,0,1,2,3,4,5,6],[6])])
def pE.B1:List Nat:=[0,1,0,0,8,28,63,127]
theorem pE.B_:mR .any (opsOf Try.f59 1)=pE.T1:=by kernel_rfl
theorem pE.AL:nS pE.T1.2 pE.B1=true:=by kernel_rfl
theorem pE.calls {ab:Int}{al:Option Addr}{ai:Nat}{aa:List (S59)}{r1:Int}{r2:List (S59)}{w:World}(aW:Kd.C k59 w al aa.length aa)(aX:aa.length<=ai)(h:pE.f ab aa=some (r1,r2)):
  Calls Try.prog 59 #[.agg #[.int .i64 ab,.slice al aa.length ai]] w fun e w'=>∃ce:Value,e=.returned (.agg #[.int .i64 r1,ce])/\Kd.R k59 59 w' w.heap.size (fun _=>True) ce r2/\Below w.heap.size w w':=by
 have ci:=Try.underlying31;have am:=dm aW;have a5:=dm aX;clear aW aX;have HB:=dm (Below.refl w.heap.size w);unfold pE.f at h;have H:=h;clear h;obtain⟨a9,bJ⟩:∃y_:List (S59),y_=(([]:List (S59))):=⟨_,rfl⟩;replace H:(if a9.length+aa.length<8796093022208 then(some (ab,(a9++aa))) else(none))=some (r1,r2):=l7 bJ H
 have cu:=dm bJ;clear bJ
 obtain⟨c2,H⟩:=mV H;have dI:=dm c2;clear c2;obtain⟨cn,bK⟩:∃y_:List (S59),y_=(a9++aa):=⟨_,rfl⟩;replace H:(some (ab,cn))=some (r1,r2):=l7 bK H
 have dg:=dm bK;clear bK;simp only [Option.some.injEq,Prod.mk.injEq]at H;obtain⟨rfl,rfl⟩:=H
 go_enter Try.func59,Try.ntmps59;try go_wp2_with (first|((with_reducible refine kI 1 rfl ?_);refine lu #[.int .i64 ab,.slice al aa.length ai] 31 ?_;intro bd hg w3 jV hb;have ao:=dm (jV);have e2:=dm (ky:w.heap.size<=bd);have e3:=dm (ky:w.heap.size<=bd);replace HB:=kg HB hb;clear hb jV hg)|((with_reducible refine kI 2 rfl ?_);refine lu #[.int .i64 0,.slice none 0 0] 31 ?_;intro aH hg w4 jV hb;have av:=dm (jV);have e4:=dm (ky:w.heap.size<=aH);have e5:=dm (ky:w.heap.size<=aH);replace HB:=kg HB hb;have aM:=dm ((by rw[hg];exact Nat.ne_of_lt (lL (g:=bd) (o:=.cells #[.int .i64 ab,.slice al aa.length ai] 31 (0,0)) (jZ ao.out)):bd≠aH));have bQ:=dm ((by rw[hg];exact Nat.ne_of_gt (lL (g:=bd) (o:=.cells #[.int .i64 ab,.slice al aa.length ai] 31 (0,0)) (jZ ao.out)):aH≠bd));replace ao:=jU ao hb;clear hb jV hg))
 replace ao:=dm (kQ ao.out);replace av:=dm (kQ av.out);replace HB:=dm (ma HB.out);refine mZ 8 (S:=fun w'=>w'.cell? ⟨bd,0,none⟩=some (.int .i64 ab)/\w'.cell? ⟨bd,1,none⟩=some (.slice al aa.length ai)) [] ⟨jS ao 0,jS ao 1⟩ pE.B_ pE.AL (fun hHeld HT_ HW_=>?_);generalize w4.drew=w5 at ao av HB hHeld⊢;refine jR 0 3 1 ?_;refine jR 3 6 9 ?_;refine kJ 1 4 11 ?_;refine kJ 4 7 27 ?_;refine lD 2 5 31 (fun K hK=>?_);refine sw k59 _ 59 ?hg (N:=5) ?hd (xs:=([]:List (S59))) (inner:=[]) (ok:=fun _=>True) (okp:=fun _=>True) ?hr ?hp (fun _ hk=>hk) trivial (Below.refl _ _) (Nat.le_refl _) (by simp) ?_;(case hd=>rfl);(case hg=>rfl);(case hr=>first|(go_simp;done)|(go_simp;rfl));(case hp=>exact(kT.none _ _));intro dJ w6 cf hb hg_ lF;clear hg_ lF;(first|rw[←cu.out]at cf|(simp only [Int.reduceToNat]at cf;rw[←cu.out]at cf));have bS:=dm (kU cf (kN (jT HB.out)));replace ao:=jU ao hb;replace av:=jU av hb;replace HB:=kg HB hb;clear hb cf;refine hK.out _ _ ⟨jS ao 0,jS ao 1⟩ (fun hHeld=>?_);clear hK K;refine kP 5 ?_;refine lD 5 8 63 (fun K hK=>?_);refine Ah k59 (w0:=w) w.heap.size (by rfl) (.tmp 5) (.tmp 7) 29 59 (.agg #[(.int .i64 0),(.int .i64 0)]) 16 rfl Try.underlying29 rE rfl (by decide) (by omega) dJ a9 aa _ _ _ (fun _=>True) (fun _=>False) rfl rfl ?aO ?aR (fun _ _ h=>h) (fun _ h=>h.elim) ?aF ?aB ?aS ?aL ?_;(case aR=>exact kE (lq am.out HB.out));(case aB=>exact(jT HB.out));(case aF=>exact(fun _ _=>trivial));(case aO=>exact(jW bS.out));(case aS=>exact(kN (jT HB.out)));(case aL=>have:=dI.out;omega);intro fH w8 ho hb hg hat;rw[←dg.out]at ho;have n0:=lW ao hg (lS bS.out ao.out (by decide));have n1:=lW av hg (lS bS.out av.out (by decide));have n2:=dm (hb);have n3:=dm (ho);clear ao av HB bS;revert n0 n1 n2 n3;intro ao av HB cv;clear ho hb hg hat;obtain⟨dA,dB,dC⟩:=kM cv.out;(first|subst dC|(injection dC with cg cM ch;have cN:=cg.symm;have cO:=ch.symm;clear cg cM ch;subst cN;subst cO));refine hK.out _ _ ⟨jS ao 0,jS ao 1⟩ (fun hHeld=>?_);clear hK K;refine kP 8 ?_;refine jR 6 9 127 ?_;refine wh 7 (none) (lm 8 255) (fun K hK=>?_);have fI:w8.cell? ⟨aH,0,none⟩=some (.int .i64 0):=jS av 0;have e6:=l9 av.out 0;have d9:=aM.out;have d_:=bQ.out;have fJ:w8.cell? ⟨aH,1,none⟩=some (.slice none 0 0):=jS av 1;have e7:=l9 av.out 1;have ea:=aM.out;have eb:=bQ.out;refine pM (w1:= ?_) (by rfl) rfl ?_ ?_;rotate_left
 ·go_simp
  rfl
 refine hK.out _ _ ⟨((cell_far (p:=⟨aH,_,none⟩) aM.out _).trans (((cell_far (p:=⟨aH,_,none⟩) aM.out _).trans (hHeld.1)))),((cell_far (p:=⟨aH,_,none⟩) aM.out _).trans (((cell_far (p:=⟨aH,_,none⟩) aM.out _).trans (hHeld.2))))⟩ (fun hHeld=>?_);clear hK K;refine mH (mP HT_.out (kR)) ?_;try go_wp2
 refine bodyPost_ret (results_cell_row rfl _ _ aH 31 #[.int .i64 ab,.slice dA cn.length dB] (0,0) _ rfl (lM av.out) Try.underlying31 rfl (kR)) rfl ?_;exact⟨_,mX,by(with_reducible repeat(first|apply kK|apply kL|apply kw));exact kv (kH (p:=⟨aH,1,none⟩) (kH (p:=⟨aH,0,none⟩) (lG cv.out av.out (by decide)) (fun _ hk=>hk.2) (.int .i64 ab)) (fun _ hk=>hk.2) (.slice dA cn.length dB)) (fun _ hk=>trivial),jT HB.out⟩
def vN.f (k:Nat) (ab:Int) (aa:List (S59)) (a1:Int):Option (Bool):=(oK.f k ab aa a1).bind fun bN=>(some ((bN.length:Int)==0))
theorem vN.calls {k:Nat}{ab:Int}{al:Option Addr}{ai:Nat}{aa:List (S59)}{a1:Int}{r:Bool}{w:World}(aW:Kd.C k59 w al aa.length aa)(aX:aa.length<=ai)(h:vN.f k ab aa a1=some r):
  Calls Try.prog 60 #[.agg #[.int .i64 ab,.slice al aa.length ai],.int .i64 a1] w fun e w'=>e=.returned (.bool r)/\Below w.heap.size w w':=by
 have ci:=Try.underlying31;have am:=dm aW;have a5:=dm aX;clear aW aX;have HB:=dm (Below.refl w.heap.size w);unfold vN.f at h;have H:=h;clear h;obtain⟨bN,A3,H⟩:=kW H;(try dsimp only at H);obtain rfl:=Option.some.inj H
 go_enter Try.func60,Try.ntmps60
 go_wp2_with (first|((with_reducible refine kI 2 rfl ?_);refine lu #[.int .i64 ab,.slice al aa.length ai] 31 ?_;intro cw hg w4 jV hb;have bT:=dm (jV);have e8:=dm (ky:w.heap.size<=cw);have e9:=dm (ky:w.heap.size<=cw);replace HB:=kg HB hb;clear hb jV hg;have⟨eQ,eR,eS,eT⟩:=kr (w:=w4) bT)|((with_reducible refine kY 94 rfl ?_);refine lH 7 rfl Try.func94 (oK.calls (kE (lq am.out HB.out)) a5.out A3.out) ?_;rintro e w6 ⟨fK,rfl,dD,hb⟩;refine⟨_,rfl,?_⟩;have dh:=dm (kU dD (kN (jT HB.out)));replace bT:=jU bT hb;replace HB:=kg HB hb;(try clear hb dD);obtain⟨fV,fW,eU⟩:=kM dh.out;subst eU))
 go_ret
 exact⟨mX,jT HB.out⟩
def nY.l0:Nat->Int->Int->Int->List (S59)->Int->List (S59)->Option (Int× (List (S59)))
 |0,_,_,_,_,_,_=>none
 |k+1,x1,x6,bO,aN,bu,bl=>if x6<(aN.length:Int) then(if 0<=x6 then(if((jQ aN x6).f0)=x1 then(nY.l0 k x1 (wrap64 (x6+1)) bO aN bu bl) else(if((jQ aN x6).f1)=x1 then(nY.l0 k x1 (wrap64 (x6+1)) bO aN bu bl) else(if bl.length<8796093022208 then(nY.l0 k x1 (wrap64 (x6+1)) bO aN bu (bl++[(⟨(jQ aN x6).f0,(jQ aN x6).f1⟩:S59)])) else(none)))) else(none)) else(some (bu,bl))
def nY.f (k:Nat) (ab:Int) (aa:List (S59)) (a1:Int):Option (Int× (List (S59))):=(oz.f k ab aa a1).bind fun bP=>(if bP=true then(nY.l0 k a1 0 ab aa ab ([]:List (S59))) else(some (0,([]:List (S59)))))
def nY.T8:Bool×List (List Nat×List Nat):=(true,[([],[]),([0],[0]),([],[]),([2],[2]),([],[]),([3,4],[3,4]),([5],[5]),([6],[6]),([1,7],[1,7]),([0,1,2,3,4,5,6,7,8],[]),([9,8,8,0,1,2,3,4,5,6,7,8],[8,9])])
def nY.B8:List Nat:=[0,1,0,4,0,28,60,124,255,511,1023]
theorem nY.yu:mR .any (opsOf Try.f96 8)=nY.T8:=by kernel_rfl
theorem nY.xy:nS nY.T8.2 nY.B8=true:=by kernel_rfl
theorem nY.calls {k:Nat}{ab:Int}{al:Option Addr}{ai:Nat}{aa:List (S59)}{a1:Int}{r1:Int}{r2:List (S59)}{w:World}(aW:Kd.C k59 w al aa.length aa)(aX:aa.length<=ai)(h:nY.f k ab aa a1=some (r1,r2)):
  Calls Try.prog 96 #[.agg #[.int .i64 ab,.slice al aa.length ai],.int .i64 a1] w fun e w'=>∃ce:Value,e=.returned (.agg #[.int .i64 r1,ce])/\Kd.R k59 59 w' w.heap.size (fun _=>True) ce r2/\Below w.heap.size w w':=by
 have ci:=Try.underlying31;have dE:=Try.underlying59;have am:=dm aW;have a5:=dm aX;clear aW aX;have HB:=dm (Below.refl w.heap.size w);unfold nY.f at h;have H:=h;clear h;obtain⟨bP,A3,H⟩:=kW H;(try dsimp only at H)
 rcases mr H with⟨h_,H_⟩|⟨h_,H_⟩<;> (subst h_;clear H;have H:=H_;clear H_)
 ·have H':=dm H;clear H
  go_enter Try.func96,Try.ntmps96
  go_wp2_with (first|((with_reducible refine kI 2 rfl ?_);refine lu #[.int .i64 ab,.slice al aa.length ai] 31 ?_;intro ax hg w5 jV hb;have af:=dm (jV);have di:=dm (ky:w.heap.size<=ax);have dj:=dm (ky:w.heap.size<=ax);replace HB:=kg HB hb;clear hb jV hg)|((with_reducible refine kI 4 rfl ?_);refine lu #[.int .i64 0,.slice none 0 0] 31 ?_;intro au hg w6 jV hb;have ah:=dm (jV);have dk:=dm (ky:w.heap.size<=au);have dl:=dm (ky:w.heap.size<=au);replace HB:=kg HB hb;have az:=dm (AV:ax≠au);have aA:=dm (AX:au≠ax);replace af:=jU af hb;clear hb jV hg;have fL:=az.out;have fM:=aA.out;have⟨cP,cQ,cS,cT⟩:=kr (w:=w6) af)|((with_reducible refine kY 85 rfl ?_);refine oF 9 rfl Try.func85 (oz.calls (kE (lq am.out HB.out)) a5.out A3.out) ?_;intro w9 hb;replace af:=jU af hb;replace ah:=jU ah hb;replace HB:=kg HB hb;(try clear hb);have⟨cA,cD,cE,cF⟩:=kr (w:=w9) af)|((with_reducible refine kI 5 rfl ?_);refine lu #[.int .i64 0,.slice none 0 0] 31 ?_;intro aZ hg eV jV hb;have ak:=dm (jV);have fa:=dm (ky:w.heap.size<=aZ);have fb:=dm (ky:w.heap.size<=aZ);replace HB:=kg HB hb;have aw:=dm (AV:ax≠aZ);have aQ:=dm (AX:aZ≠ax);replace af:=jU af hb;have aT:=dm ((by rw[hg];exact Nat.ne_of_lt (lL (g:=au) (o:=.cells #[.int .i64 0,.slice none 0 0] 31 (0,0)) (jZ ah.out)):au≠aZ));have br:=dm ((by rw[hg];exact Nat.ne_of_gt (lL (g:=au) (o:=.cells #[.int .i64 0,.slice none 0 0] 31 (0,0)) (jZ ah.out)):aZ≠au));replace ah:=jU ah hb;clear hb jV hg;have fc:=aQ.out;have fd:=aw.out;have fe:=br.out;have ff:=aT.out;have⟨bY,bZ,b3,b4⟩:=kr (w:=eV) ak))
  go_loopg [6] k (fun kq v6 w'=>∃ (ag:Int) (aq:List (S59)) (aI:Value),v6=.int .i64 ag/\jP (nY.l0 kq a1 ag ab aa ab aq=some (r1,r2))/\jP (kq<=k)/\jP (Kd.R k59 59 w' w.heap.size (fun _=>True) aI aq)/\jP (w'.heap[ax]? =some (.cells #[.int .i64 ab,(.slice al aa.length ai)] 31 (0,0)))/\jP (w'.heap[au]? =some (.cells #[.int .i64 0,(.slice none 0 0)] 31 (0,0)))/\jP (w'.heap[aZ]? =some (.cells #[.int .i64 ab,aI] 31 (0,0)))/\jP (Below w.heap.size w w'))
  case atStart=>exact⟨(0),(([]:List (S59))),(.slice none 0 0),(kD),H',⟨Nat.le_refl _⟩,⟨by first|exact sN _ _ _ _ _|exact u_ _ _ _ _ _|exact vB _ _ _ _ _|exact vk _ _ _ _ _|exact vw _ _ _ _ _⟩,⟨lM af.out⟩,⟨lM ah.out⟩,⟨lM ak.out⟩,⟨jT HB.out⟩⟩
  case round=>
   clear H';(try clear c4 cA cD bY bZ cP cQ cE cF b3 b4 cS cT);obtain⟨ag,aq,aI,rfl,HA,bq,aj,af,ah,ak,HB⟩:=hrel;cases gk with
   |zero=>exact absurd HA.out (by simp[nY.l0])
   |succ k1=>
    have H:=HA.out;clear HA;simp only [nY.l0]at H
    replace H:=mf H;rcases H with⟨dn,H⟩|⟨dn,H⟩
    ·skip
     obtain⟨fg,H⟩:=lh H
     by_cases bV:((jQ aa ag).f0)=a1
     ·rw[if_pos bV]at H;have dq:=beq_iff_eq.mpr bV;have dr:=bne_eq_false_iff_eq.mpr bV;clear bV;have H':=dm H;clear H;have fh:=az.out;have fi:=aA.out;have fj:=aw.out;have fk:=aQ.out;have⟨ec,ed,ee,ef⟩:=kr (w:=wr) af;have a_:0<=(ag:Int):=jX;have ba:ag<(aa.length:Int):=jX;obtain⟨a8,bW,aU,aV⟩:=ng am.out ag a_ ba;cases bW;replace aU:=ko HB aU;replace aV:=ko HB aV;replace a_:=eq_true a_;replace ba:=eq_true ba
      go_wp2
      go_roundg k1
      case measure=>have:=bq.out;omega
      case rel=>exact⟨(wrap64 (ag+1)),(aq),(aI),(kD),H',⟨by have:=bq.out;omega⟩,⟨jW aj.out⟩,⟨jZ af.out⟩,⟨jZ ah.out⟩,⟨jZ ak.out⟩,⟨jT HB.out⟩⟩
     rw[if_neg bV]at H;have dq:=beq_eq_false_iff_ne.mpr bV;have dr:=bne_iff_ne.mpr bV
     by_cases bX:((jQ aa ag).f1)=a1
     ·rw[if_pos bX]at H;have dt:=beq_iff_eq.mpr bX;have du:=bne_eq_false_iff_eq.mpr bX;clear bX;have H':=dm H;clear H;have fm:=az.out;have fo:=aA.out;have fp:=aw.out;have fq:=aQ.out;have⟨eg,eh,ei,ej⟩:=kr (w:=wr) af;have a_:0<=(ag:Int):=jX;have ba:ag<(aa.length:Int):=jX;obtain⟨a8,bW,aU,aV⟩:=ng am.out ag a_ ba;cases bW;replace aU:=ko HB aU;replace aV:=ko HB aV;replace a_:=eq_true a_;replace ba:=eq_true ba;have bF:0<=(ag:Int):=jX;have bG:ag<(aa.length:Int):=jX;obtain⟨b_,co,bm,bn⟩:=ng am.out ag bF bG;obtain rfl:a8=b_:=(by injection co);replace bm:=ko HB bm;replace bn:=ko HB bn;replace bF:=eq_true bF;replace bG:=eq_true bG
      go_wp2
      go_roundg k1
      case measure=>have:=bq.out;omega
      case rel=>exact⟨(wrap64 (ag+1)),(aq),(aI),(kD),H',⟨by have:=bq.out;omega⟩,⟨jW aj.out⟩,⟨jZ af.out⟩,⟨jZ ah.out⟩,⟨jZ ak.out⟩,⟨jT HB.out⟩⟩
     rw[if_neg bX]at H;have dt:=beq_eq_false_iff_ne.mpr bX;have du:=bne_iff_ne.mpr bX
     obtain⟨cy,H⟩:=mV H;have dv:=dm cy;clear cy;obtain⟨ca,bL⟩:∃y_:List (S59),y_=(aq++[(⟨(jQ aa ag).f0,(jQ aa ag).f1⟩:S59)]):=⟨_,rfl⟩;replace H:(nY.l0 k1 a1 (wrap64 (ag+1)) ab aa ab ca)=some (r1,r2):=l7 bL H
     have dw:=dm bL;clear bL;have H':=dm H;clear H;have ft:=az.out;have fu:=aA.out;have fv:=aw.out;have fw:=aQ.out;have⟨ek,el,em,en⟩:=kr (w:=wr) af;have a_:0<=(ag:Int):=jX;have ba:ag<(aa.length:Int):=jX;obtain⟨a8,bW,aU,aV⟩:=ng am.out ag a_ ba;cases bW;replace aU:=ko HB aU;replace aV:=ko HB aV;replace a_:=eq_true a_;replace ba:=eq_true ba;have bF:0<=(ag:Int):=jX;have bG:ag<(aa.length:Int):=jX;obtain⟨b_,co,bm,bn⟩:=ng am.out ag bF bG;obtain rfl:a8=b_:=(by injection co);replace bm:=ko HB bm;replace bn:=ko HB bn;replace bF:=eq_true bF;replace bG:=eq_true bG;try go_wp2
     replace aj:=dm (kw aj.out);replace af:=dm (kQ af.out);replace ah:=dm (kQ ah.out);replace ak:=dm (kQ ak.out);replace HB:=dm (ma HB.out);have cp:0<=(ag:Int):=jX;have cq:ag<(aa.length:Int):=jX;obtain⟨dx,dK,bv,bx⟩:=ng am.out ag cp cq;have bz:=bx;have bA:=bv;obtain rfl:a8=dx:=(by injection dK);replace bv:=ko HB bv;replace bx:=ko HB bx;replace cp:=eq_true cp;replace cq:=eq_true cq;refine mZ 11 (S:=fun w'=>w'.cell? ⟨aZ,0,none⟩=some (.int .i64 ab)/\w'.cell? ⟨aZ,1,none⟩=some (aI)/\w'.cell? ⟨ax,0,none⟩=some (.int .i64 ab)/\w'.cell? ⟨ax,1,none⟩=some (.slice (some a8) aa.length ai)/\w'.cell? (a8.add ((ag).toNat*2))=some (.int .i64 ((jQ aa ag).f0))/\w'.cell? ⟨(a8.add ((ag).toNat*2)).block,(a8.add ((ag).toNat*2)).off+1,none⟩=some (.int .i64 ((jQ aa ag).f1))) [10] ⟨jS ak 0,jS ak 1,jS af 0,jS af 1,(ko HB bA),(ko HB bz)⟩ nY.yu nY.xy (fun hHeld HT_ HW_=>?_);generalize wr.drew=fX at aj af ah ak HB bv bx hHeld⊢;refine jR 0 40 1 ?_;refine jR 2 42 5 ?_;refine jR 4 44 21 ?_;refine kJ 1 41 23 ?_;refine kJ 3 43 31 ?_;refine jR 5 45 63 ?_;refine kJ 6 46 127 ?_;refine lD 7 47 255 (fun K hK=>?_);refine uY (w1:= ?_) (v:= ?_) (by rfl) rfl ?_ ?_;rotate_left 2
     ·go_simp
      constructor
      ·rfl
      rfl
     refine hK.out _ _ ⟨(mG (nG ak.out _) 0).trans rfl,(mG (nG ak.out _) 1).trans rfl,(mG (nG af.out _) 0).trans rfl,(mG (nG af.out _) 1).trans rfl,(World.cell?_alloc_lt _ _ _ (World.block_lt_of_cell? _ _ ((ko HB bA)))).trans ((ko HB bA)),(World.cell?_alloc_lt _ _ _ (World.block_lt_of_cell? _ _ ((ko HB bz)))).trans ((ko HB bz))⟩ (fun hHeld=>?_);clear hK K;refine kP 47 ?_;refine lD 8 48 511 (fun K hK=>?_);refine uC k59 (w0:=w) w.heap.size (by rfl) (.tmp 41) (.tmp 47) 29 59 (.agg #[(.int .i64 0),(.int .i64 0)]) 16 rfl Try.underlying29 rE rfl (by decide) (by omega) aI aq (⟨(jQ aa ag).f0,(jQ aa ag).f1⟩:S59) [.int .i64 ((jQ aa ag).f0),.int .i64 ((jQ aa ag).f1)] (fun _=>True) (fun _=>False) rfl rfl ?aP (fun _ hk=>hk.elim) ?aF ?aO ?aB ?aS ?aL ?_;(case aP=>exact qi _ _ _ (⟨(jQ aa ag).f0,(jQ aa ag).f1⟩:S59));(case aB=>exact(jT HB.out));(case aF=>exact(fun _ _=>trivial));(case aO=>exact(jW aj.out));(case aS=>exact(kN (jT HB.out)));(case aL=>have:=dv.out;omega);intro fN eW ho hb hg hat;rw[←dw.out]at ho;have n0:=lW af hg (lS aj.out af.out (by decide));have n1:=lW ah hg (lS aj.out ah.out (by decide));have n2:=lW ak hg (lS aj.out ak.out (by decide));have n3:=dm (hb);have n4:=dm (ho);clear af ah ak HB aj;revert n0 n1 n2 n3 n4;intro af ah ak HB cz;clear ho hb hg hat;obtain⟨cU,cW,cX⟩:=kM cz.out;(first|subst cX|(injection cX with cg cM ch;have cN:=cg.symm;have cO:=ch.symm;clear cg cM ch;subst cN;subst cO));refine hK.out _ _ ⟨jS ak 0,jS ak 1,jS af 0,jS af 1,(ko HB bA),(ko HB bz)⟩ (fun hHeld=>?_);clear hK K;refine kP 48 ?_;refine jR 9 49 1023 ?_;refine ry 10 (none) (lm 11 2047) (fun K hK=>?_);have fO:eW.cell? ⟨aZ,1,none⟩=some (aI):=jS ak 1;have fx:=l9 ak.out 1;have eo:=aw.out;have ep:=aT.out;have eq:=aQ.out;have es:=br.out;refine pM (w1:= ?_) (by rfl) rfl ?_ ?_;rotate_left
     ·go_simp
      rfl
     refine hK.out _ _ ?_;clear hK K;refine mH (mP HT_.out (kR)) ?_;try go_wp2
     go_roundg k1
     case measure=>have:=bq.out;omega
     case rel=>exact⟨(wrap64 (ag+1)),(ca),(.slice cU ca.length cW),(kD),H',⟨by have:=bq.out;omega⟩,⟨by(with_reducible repeat(first|apply kK|apply kL|apply kw));exact kv (kH (p:=⟨aZ,1,none⟩) (lG cz.out ak.out (by decide)) (fun _ hk=>hk.2) (.slice cU ca.length cW)) (fun _ hk=>trivial)⟩,⟨lM af.out⟩,⟨lM ah.out⟩,⟨lM ak.out⟩,⟨jT HB.out⟩⟩
    simp only [Option.some.injEq,Prod.mk.injEq]at H;obtain⟨rfl,rfl⟩:=H;have fy:=az.out;have fz:=aA.out;have fA:=aw.out;have fB:=aQ.out;have⟨et,eu,ev,ew⟩:=kr (w:=wr) af;have fC:=br.out;have fD:=aT.out;have⟨ex,ey,ez,eA⟩:=kr (w:=wr) ak;have⟨eB,eC,eD,eE⟩:=kr (w:=wr) ah;obtain⟨cY,cZ,dL⟩:=kM aj.out;subst dL
    go_wp2;refine bodyPost_ret (results_cell_row rfl _ _ au 31 #[.int .i64 ab,.slice cY aq.length cZ] (0,0) _ rfl (lM ah.out) Try.underlying31 rfl (kR)) rfl ?_;exact⟨_,mX,by(with_reducible repeat(first|apply kK|apply kL|apply kw));exact kv (kH (p:=⟨au,1,none⟩) (kH (p:=⟨au,0,none⟩) (lG aj.out ah.out (by decide)) (fun _ hk=>hk.2) (.int .i64 ab)) (fun _ hk=>hk.2) (.slice cY aq.length cZ)) (fun _ hk=>trivial),jT HB.out⟩
 simp only [Option.some.injEq,Prod.mk.injEq]at H;obtain⟨rfl,rfl⟩:=H
 go_enter Try.func96,Try.ntmps96
 go_wp2_with (first|((with_reducible refine kI 2 rfl ?_);refine lu #[.int .i64 ab,.slice al aa.length ai] 31 ?_;intro ax hg fY jV hb;have af:=dm (jV);have di:=dm (ky:w.heap.size<=ax);have dj:=dm (ky:w.heap.size<=ax);replace HB:=kg HB hb;clear hb jV hg)|((with_reducible refine kI 4 rfl ?_);refine lu #[.int .i64 0,.slice none 0 0] 31 ?_;intro au hg eX jV hb;have ah:=dm (jV);have dk:=dm (ky:w.heap.size<=au);have dl:=dm (ky:w.heap.size<=au);replace HB:=kg HB hb;have az:=dm (AV:ax≠au);have aA:=dm (AX:au≠ax);replace af:=jU af hb;clear hb jV hg;have fE:=az.out;have fF:=aA.out;have⟨eF,eG,eH,eI⟩:=kr (w:=eX) af)|((with_reducible refine kY 85 rfl ?_);refine oF 9 rfl Try.func85 (oz.calls (kE (lq am.out HB.out)) a5.out A3.out) ?_;intro eY hb;replace af:=jU af hb;replace ah:=jU ah hb;replace HB:=kg HB hb;(try clear hb);have⟨eJ,eK,eL,eM⟩:=kr (w:=eY) ah))
 refine bodyPost_ret (results_cell_row rfl _ _ au 31 #[.int .i64 0,.slice none 0 0] (0,0) _ rfl (lM ah.out) Try.underlying31 rfl (kR)) rfl ?_;exact⟨_,mX,by first|exact sN _ _ _ _ _|exact u_ _ _ _ _ _|exact vB _ _ _ _ _|exact vk _ _ _ _ _|exact vw _ _ _ _ _,jT HB.out⟩
end Go.Proofs.Ytgeonpciodepgaa.P
