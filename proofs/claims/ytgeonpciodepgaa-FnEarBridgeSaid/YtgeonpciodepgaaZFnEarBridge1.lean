/- The proof's parts ahead of the row: of no condition of their own. -/
import Derived.Test.YtgeonpciodepgaaZFnEarBridge0
import Derived.Maps.Own
set_option linter.unusedVariables false
set_option linter.unusedSimpArgs false
namespace Go.Proofs.Ytgeonpciodepgaa.P
set_option maxHeartbeats 8000000
set_option maxRecDepth 100000
open Go.RowKit Go.Proofs.YtgeonpciodepgaaW.PrintWords Go.Proofs.YtgeonpciodepgaaW.PrintLast Go.Proofs.YtgeonpciodepgaaW.PrintMore Go.Proofs.YtgeonpciodepgaaW.PrintWords.Kd Go.Proofs.YtgeonpciodepgaaW.PrintMore.Kd
attribute [local go_sem] xB xG xE xJ xD xI xC xH
variable {p:Prop}
theorem ww(h:p:=by exact pJ af.out):p:=h
theorem r9(h:p:=by exact pJ ac.out):p:=h
theorem F8(h:p:=by(try simp only [List.map_toArray,List.map_cons,List.map_nil]);first|done|(simp only [aK];rfl)|rfl|(simp only [List.length_drop,List.length_take];rfl)):p:=h
theorem Ar(h:p:=by rw[hg];exact Nat.ne_of_lt (pI (g:=ah) (o:=.cells #[.int .i64 ag,.slice (some aj) aa.length az] 31 (0,0)) (nG ac.out))):p:=h
theorem Au(h:p:=by rw[hg];exact Nat.ne_of_gt (pI (g:=ah) (o:=.cells #[.int .i64 ag,.slice (some aj) aa.length az] 31 (0,0)) (nG ac.out))):p:=h
theorem DY(h:p:=by rw[hg];exact Nat.ne_of_lt (pI (g:=aq) (o:=.cells #[.int .i64 ag,.int .i64 aI] 59 (0,0)) (nG au.out))):p:=h
theorem DZ(h:p:=by rw[hg];exact Nat.ne_of_gt (pI (g:=aq) (o:=.cells #[.int .i64 ag,.int .i64 aI] 59 (0,0)) (nG au.out))):p:=h
theorem qH(h:p:=by first|rfl|(simp[rE,rF]<;>rfl)|(simp[*,rE,rF]<;>rfl)):p:=h
theorem nP(h:p:=by first|rfl|(simp;done)|(simp[*];done)):p:=h
theorem nQ(h:p:=by rw[hg];exact(oF (nC HB.out))):p:=h
theorem ou(h:p:=by kernel_rfl):p:=h
def uu.f (a0:Int) (a1:Int) (a2:Int):Option (Bool):=if a0>=a1 then(some (decide (a0<=a2))) else(some false)
theorem uu.calls {a0:Int}{a1:Int}{a2:Int}{r:Bool}{w:World}(h:uu.f a0 a1 a2=some r):
  Calls Try.prog 75 #[.int .i64 a0,.int .i64 a1,.int .i64 a2] w fun e w'=>e=.returned (.bool r)/\pE w w':=by
 unfold uu.f at h;have H:=h;clear h
 replace H:=p_ H;rcases H with⟨bJ,H⟩|⟨bJ,H⟩
 ·obtain rfl:=Option.some.inj H
  go_enter Try.func75,Try.ntmps75
  go_wp2
  go_ret
  exact⟨nP,by repeat(first|exact pE.refl _|apply pE.step)⟩
 obtain rfl:=Option.some.inj H
 go_enter Try.func75,Try.ntmps75
 go_wp2
 go_ret
 exact⟨nP,by repeat(first|exact pE.refl _|apply pE.step)⟩
def wF.f (ag:Int) (aI:Int) (ax:Int) (aN:Int):Option (Bool):=if ag<ax then(some true) else(if ag=ax then(some (decide (aI<aN))) else(some false))
theorem wF.calls {ag:Int}{aI:Int}{ax:Int}{aN:Int}{r:Bool}{w:World}(h:wF.f ag aI ax aN=some r):
  Calls Try.prog 76 #[.agg #[.int .i64 ag,.int .i64 aI],.agg #[.int .i64 ax,.int .i64 aN]] w fun e w'=>e=.returned (.bool r)/\Below w.heap.size w w':=by
 have bK:=Try.underlying59;have HB:=dm (Below.refl w.heap.size w);unfold wF.f at h;have H:=h;clear h
 replace H:=p_ H;rcases H with⟨bL,H⟩|⟨bL,H⟩
 ·obtain rfl:=Option.some.inj H
  go_enter Try.func76,Try.ntmps76
  go_wp2_with (first|((with_reducible refine nT 2 rfl ?_);refine oK #[.int .i64 ag,.int .i64 aI] 59 ?_;intro aq hg w4 nu hb;have au:=dm (nu);have bh:=dm (nQ:w.heap.size<=aq);have bj:=dm (nQ:w.heap.size<=aq);replace HB:=nJ HB hb;clear hb nu hg)|((with_reducible refine nT 3 rfl ?_);refine oK #[.int .i64 ax,.int .i64 aN] 59 ?_;intro ay hg w5 nu hb;have aR:=dm (nu);have bk:=dm (nQ:w.heap.size<=ay);have bl:=dm (nQ:w.heap.size<=ay);replace HB:=nJ HB hb;have aF:=dm (DY:aq≠ay);have aG:=dm (DZ:ay≠aq);replace au:=nD au hb;clear hb nu hg;have dJ:=aF.out;have dK:=aG.out;have⟨bz,bA,bB,bC⟩:=nI (w:=w5) au;have⟨cU,cW,cX,cY⟩:=nI (w:=w5) aR))
  go_ret
  exact⟨qH,nC HB.out⟩
 skip
 by_cases c9:ag=ax
 ·rw[if_pos c9]at H;have bd:=beq_iff_eq.mpr c9;have bM:=bne_eq_false_iff_eq.mpr c9;clear c9;obtain rfl:=Option.some.inj H
  go_enter Try.func76,Try.ntmps76
  go_wp2_with (first|((with_reducible refine nT 2 rfl ?_);refine oK #[.int .i64 ag,.int .i64 aI] 59 ?_;intro aq hg dM nu hb;have au:=dm (nu);have bh:=dm (nQ:w.heap.size<=aq);have bj:=dm (nQ:w.heap.size<=aq);replace HB:=nJ HB hb;clear hb nu hg)|((with_reducible refine nT 3 rfl ?_);refine oK #[.int .i64 ax,.int .i64 aN] 59 ?_;intro ay hg bG nu hb;have aR:=dm (nu);have bk:=dm (nQ:w.heap.size<=ay);have bl:=dm (nQ:w.heap.size<=ay);replace HB:=nJ HB hb;have aF:=dm (DY:aq≠ay);have aG:=dm (DZ:ay≠aq);replace au:=nD au hb;clear hb nu hg;have dl:=aF.out;have dn:=aG.out;have⟨bN,bO,bP,bQ⟩:=nI (w:=bG) au;have⟨bR,bS,bT,bU⟩:=nI (w:=bG) aR))
  go_ret
  exact⟨qH,nC HB.out⟩
 rw[if_neg c9]at H;have bd:=beq_eq_false_iff_ne.mpr c9;have bM:=bne_iff_ne.mpr c9;obtain rfl:=Option.some.inj H
 go_enter Try.func76,Try.ntmps76
 go_wp2_with (first|((with_reducible refine nT 2 rfl ?_);refine oK #[.int .i64 ag,.int .i64 aI] 59 ?_;intro aq hg dN nu hb;have au:=dm (nu);have bh:=dm (nQ:w.heap.size<=aq);have bj:=dm (nQ:w.heap.size<=aq);replace HB:=nJ HB hb;clear hb nu hg)|((with_reducible refine nT 3 rfl ?_);refine oK #[.int .i64 ax,.int .i64 aN] 59 ?_;intro ay hg bH nu hb;have aR:=dm (nu);have bk:=dm (nQ:w.heap.size<=ay);have bl:=dm (nQ:w.heap.size<=ay);replace HB:=nJ HB hb;have aF:=dm (DY:aq≠ay);have aG:=dm (DZ:ay≠aq);replace au:=nD au hb;clear hb nu hg;have dq:=aF.out;have dr:=aG.out;have⟨bV,bW,bX,bY⟩:=nI (w:=bH) au;have⟨bZ,b3,b4,b5⟩:=nI (w:=bH) aR))
 go_ret
 exact⟨qH,nC HB.out⟩
mutual
def qh.j0:Nat->Bool->Int->List (S59)->Option (Bool)
 |0,_,_,_=>none
 |k+1,cZ,aH,ao=>if cZ=true then(some false) else(qh.l0 k 0 aH ao)
def qh.l0:Nat->Int->Int->List (S59)->Option (Bool)
 |0,_,_,_=>none
 |k+1,x3,aH,ao=>if x3<(ao.length:Int) then(if 0<=x3 then((uu.f ((nk ao x3).f0) 0 (wrap64 (aH - 1))).bind fun aZ=>(if aZ=true then((uu.f ((nk ao x3).f1) (wrap64 (((nk ao x3).f0)+1)) (wrap64 (aH - 1))).bind fun aO=>(if aO=true then(if x3>0 then(if 0<=(wrap64 (x3 - 1)) then(if(wrap64 (x3 - 1))<(ao.length:Int) then((wF.f ((nk ao (wrap64 (x3 - 1))).f0) ((nk ao (wrap64 (x3 - 1))).f1) ((nk ao x3).f0) ((nk ao x3).f1)).bind fun aE=>(if aE=true then(qh.l0 k (wrap64 (x3+1)) aH ao) else(some false))) else(none)) else(none)) else(qh.l0 k (wrap64 (x3+1)) aH ao)) else(some false))) else(some false))) else(none)) else(some true)
end
def qh.f (k:Nat) (ag:Int) (aa:List (S59)):Option (Bool):=(uu.f ag 0 8).bind fun aS=>(if aS=true then(qh.j0 k (decide ((aa.length:Int)>64)) ag aa) else(qh.j0 k true ag aa))
def qh.T7:Bool×List (List Nat×List Nat):=(true,[([],[]),([0],[0]),([],[]),([2],[2]),([3],[3]),([1,4],[1,4]),([5],[5]),([6,5],[6]),([7],[7]),([8,7],[7,8]),([7],[7]),([10,7],[7,10]),([11,7],[7,11]),([7],[7]),([13,7],[7,13]),([14,7],[7,14]),([9,12,15,7,7],[7,9,12,15]),([16,7],[7,16]),([7,17],[7,17]),([18,16],[18]),([19],[19]),([20,19],[19,20]),([21,19,19],[19,21]),([22],[22]),([23,22],[22,23]),([22],[22]),([25,22],[22,25]),([24,26,22],[22,24,26]),([27,22],[22,27]),([22],[22]),([28,29,22,22],[22,28,29]),([30,22],[22,30]),([22,31,19],[19,22,31]),([19,32],[19,32])])
def qh.B7:List Nat:=[0,1,0,4,12,31,63,127,255,511,255,1279,3327,255,8447,24831,65535,131071,262143,524287,1048575,2097151,4194303,8388607,16777215,8388607,41943039,134217727,268435455,8388607,1073741823,2147483647,4294967295,8589934591]
theorem qh.uE:qx .any (opsOf Try.f32 7)=qh.T7:=by kernel_rfl
theorem qh.uz:qW qh.T7.2 qh.B7=true:=by kernel_rfl
theorem qh.calls {k:Nat}{ag:Int}{aW:Option Addr}{az:Nat}{aa:List (S59)}{r:Bool}{w:World}(bm:Kd.C k59 w aW aa.length aa)(bn:aa.length<=az)(h:qh.f k ag aa=some r):
  Calls Try.prog 32 #[.agg #[.int .i64 ag,.slice aW aa.length az]] w fun e w'=>e=.returned (.bool r)/\Below w.heap.size w w':=by
 have dL:=Try.underlying31;have bK:=Try.underlying59;have aL:=dm bm;have dt:=dm bn;clear bm bn;have HB:=dm (Below.refl w.heap.size w);unfold qh.f at h;have H:=h;clear h;have bD:=dm H;clear H
 go_enter Try.func32,Try.ntmps32
 go_upto_region 1 with(first|((with_reducible refine nT 1 rfl ?_);(try(refine rQ (by rfl) ?_;dsimp only));refine vG 1 #[.int .i64 ag,.slice aW aa.length az] 31 ?_;intro ah hg w3 nu hb;have ac:=dm (nu);have du:=dm (nQ:w.heap.size<=ah);have dv:=dm (nQ:w.heap.size<=ah);replace HB:=nJ HB hb;clear hb nu hg))
 (try simp only [Act.put,List.setIfInBounds_toArray,List.set_cons_zero,List.set_cons_succ])
 go_cut [14] (fun c_ wc=>∃ (kq:Nat) (aT:Bool),c_=.bool aT/\lm (qh.j0 kq aT ag aa=some r)/\lm (kq<=k)/\lm (wc.heap[ah]? =some (.cells #[.int .i64 ag,(.slice aW aa.length az)] 31 (0,0)))/\lm (Below w.heap.size w wc))
 case first=>
  have H:=bD.out;clear bD;obtain⟨aS,A4,H⟩:=oC H;(try dsimp only at H)
  rcases p8 H with⟨h_,H_⟩|⟨h_,H_⟩<;> (subst h_;clear H;have H:=H_;clear H_)
  ·have H':=dm H;clear H;have⟨db,dc,dd,de⟩:=nI (w:=w3) ac
   go_wp2_with (first|((with_reducible refine oh 75 rfl ?_);refine oZ 7 rfl Try.func75 (uu.calls A4.out) ?_;rintro e w' ⟨rfl,⟨nd,rfl⟩⟩;refine⟨_,rfl,?_⟩))
   go_meet
   case rel=>exact⟨_,(decide ((aa.length:Int)>64)),(nP),H',⟨by first|omega|exact Nat.le_refl _⟩,⟨nG ac.out⟩,⟨nC HB.out⟩⟩
  have H':=dm H;clear H;have⟨bz,bA,bB,bC⟩:=nI (w:=w3) ac
  go_wp2_with (first|((with_reducible refine oh 75 rfl ?_);refine oZ 7 rfl Try.func75 (uu.calls A4.out) ?_;rintro e w' ⟨rfl,⟨nd,rfl⟩⟩;refine⟨_,rfl,?_⟩))
  go_meet
  case rel=>exact⟨_,(true),(nP),H',⟨by first|omega|exact Nat.le_refl _⟩,⟨nG ac.out⟩,⟨nC HB.out⟩⟩
 case rest=>
  clear bD;obtain⟨kq,aT,rfl,HA,bo,ac,HB⟩:=hcut;cases kq with
  |zero=>exact absurd HA.out (by simp[qh.j0])
  |succ bE=>
   have H:=HA.out;clear HA;simp only [qh.j0]at H
   rcases p8 H with⟨h_,H_⟩|⟨h_,H_⟩<;> (subst h_;clear H;have H:=H_;clear H_)
   ·obtain rfl:=Option.some.inj H
    go_wp2
    go_ret
    exact⟨qH,nC HB.out⟩
   have H':=dm H;clear H
   go_wp2
   go_loopg [3] bE (fun kq v3 w'=>∃ (ab:Int),v3=.int .i64 ab/\lm (qh.l0 kq ab ag aa=some r)/\lm (kq<=bE)/\lm (w'.heap[ah]? =some (.cells #[.int .i64 ag,(.slice aW aa.length az)] 31 (0,0)))/\lm (Below w.heap.size w w'))
   case atStart=>exact⟨(0),(nP),H',⟨Nat.le_refl _⟩,⟨nG ac.out⟩,⟨nC HB.out⟩⟩
   case round=>
    clear H';(try clear c8);obtain⟨ab,rfl,HA,bp,ac,HB⟩:=hrel;cases gk with
    |zero=>exact absurd HA.out (by simp[qh.l0])
    |succ k2=>
     have H:=HA.out;clear HA;simp only [qh.l0]at H
     replace H:=p_ H;rcases H with⟨bd,H⟩|⟨bd,H⟩
     ·skip
      obtain⟨dw,H⟩:=oz H;obtain⟨aZ,aX,H⟩:=oC H;(try dsimp only at H)
      rcases p8 H with⟨h_,H_⟩|⟨h_,H_⟩<;> (subst h_;clear H;have H:=H_;clear H_)
      ·obtain⟨aO,a6,H⟩:=oC H;(try dsimp only at H)
       rcases p8 H with⟨h_,H_⟩|⟨h_,H_⟩<;> (subst h_;clear H;have H:=H_;clear H_)
       ·skip
        replace H:=p_ H;rcases H with⟨bF,H⟩|⟨bF,H⟩
        ·obtain⟨ai,aK⟩:∃j_:Int,(wrap64 (ab - 1))=j_:=⟨_,rfl⟩;replace H:(if 0<=(ai) then(if(ai)<(aa.length:Int) then((wF.f ((nk aa (ai)).f0) ((nk aa (ai)).f1) ((nk aa ab).f0) ((nk aa ab).f1)).bind fun aE=>(if aE=true then(qh.l0 k2 (wrap64 (ab+1)) ag aa) else(some false))) else(none)) else(none))=some r:=by first|(rw[aK]at H;exact H)|(simp only [aK]at H⊢;exact H)
         (try rw[aK]at aX);(try rw[aK]at a6);have df:(IntKind.i64.wrap (ab - 1))=ai:=(qw _).trans aK
         obtain⟨dx,H⟩:=oz H
         obtain⟨dy,H⟩:=oz H;obtain⟨aE,bI,H⟩:=oC H;(try dsimp only at H)
         rcases p8 H with⟨h_,H_⟩|⟨h_,H_⟩<;> (subst h_;clear H;have H:=H_;clear H_)
         ·have H':=dm H;clear H;have⟨b6,b7,b8,b9⟩:=nI (w:=wr) ac;have av:0<=(ab:Int):=nA;have aw:ab<(aa.length:Int):=nA;obtain⟨aj,aM,al,am⟩:=qJ aL.out ab av aw;cases aM;replace al:=nE HB al;replace am:=nE HB am;replace av:=eq_true av;replace aw:=eq_true aw;try go_wp2_with (first|((with_reducible refine nT 4 rfl ?_);(try(refine rQ (by rfl) ?_;dsimp only));refine vG 4 #[.int .i64 0,.int .i64 0] 59 ?_;intro ae hg a7 nu hb;have af:=dm (nu);have aU:=dm (nQ:w.heap.size<=ae);have aV:=dm (nQ:w.heap.size<=ae);replace HB:=nJ HB hb;have ak:=dm (Ar:ah≠ae);have ap:=dm (Au:ae≠ah);replace ac:=nD ac hb;clear hb nu hg;have dz:=ap.out;have dA:=ak.out;have⟨b_,ca,cd,ce⟩:=nI (w:=a7) af))
          have n0:lm (((a7.setCell ⟨ae,0,none⟩ (.int .i64 ((nk aa ab).f0))).setCell ⟨ae,1,none⟩ (.int .i64 ((nk aa ab).f1))).heap[ah]? =some (.cells #[.int .i64 ag,.slice (some aj) aa.length az] 31 (0,0))):=⟨r9⟩;have n1:lm (((a7.setCell ⟨ae,0,none⟩ (.int .i64 ((nk aa ab).f0))).setCell ⟨ae,1,none⟩ (.int .i64 ((nk aa ab).f1))).heap[ae]? =some (.cells #[.int .i64 ((nk aa ab).f0),.int .i64 ((nk aa ab).f1)] 59 (0,0))):=⟨ww⟩;have n2:lm (Below w.heap.size w ((a7.setCell ⟨ae,0,none⟩ (.int .i64 ((nk aa ab).f0))).setCell ⟨ae,1,none⟩ (.int .i64 ((nk aa ab).f1)))):=⟨nC HB.out⟩;(try clear ac af HB);generalize((a7.setCell ⟨ae,0,none⟩ (.int .i64 ((nk aa ab).f0))).setCell ⟨ae,1,none⟩ (.int .i64 ((nk aa ab).f1)))=dg at n0 n1 n2⊢;revert n0 n1 n2;intro ac af HB;replace ac:=dm (nZ ac.out);replace af:=dm (nZ af.out);replace HB:=dm (pz HB.out);have aP:0<=((ai):Int):=nA;have aQ:(ai)<(aa.length:Int):=nA;obtain⟨a3,bf,aA,aB⟩:=qJ aL.out (ai) aP aQ;have aC:=aB;have aD:=aA;obtain rfl:aj=a3:=(by injection bf);replace aA:=nE HB aA;replace aB:=nE HB aB;replace aP:=eq_true aP;replace aQ:=eq_true aQ;refine qj 34 (S:=fun w'=>w'.cell? ⟨ae,0,none⟩=some (.int .i64 ((nk aa ab).f0))/\w'.cell? ⟨ae,1,none⟩=some (.int .i64 ((nk aa ab).f1))/\w'.cell? ⟨ah,0,none⟩=some (.int .i64 ag)/\w'.cell? ⟨ah,1,none⟩=some (.slice (some aj) aa.length az)/\w'.cell? (aj.add (((ai)).toNat*2))=some (.int .i64 ((nk aa (ai)).f0))/\w'.cell? ⟨(aj.add (((ai)).toNat*2)).block,(aj.add (((ai)).toNat*2)).off+1,none⟩=some (.int .i64 ((nk aa (ai)).f1))) [] ⟨nz af 0,nz af 1,nz ac 0,nz ac 1,(nE HB aD),(nE HB aC)⟩ qh.uE qh.uz (fun hHeld HT_ HW_=>?_);generalize dg.drew=dO at ac af HB aA aB hHeld⊢;refine lq 0 27 1 ?_;refine lq 2 29 5 ?_;refine nR 1 28 7 ?_;refine nR 3 30 15 ?_;refine lq 4 31 31 ?_;refine oO 5 32 63 (fun K hK=>?_);refine qm Try.func75 (uu.calls aX.out) ?_;rintro e w' ⟨rfl,⟨nd,rfl⟩⟩;refine⟨_,rfl,?_⟩;refine hK.out _ _ ⟨nz af 0,nz af 1,nz ac 0,nz ac 1,(nE HB aD),(nE HB aC)⟩ (fun hHeld=>?_);clear hK K;refine og 32 ?_;refine lq 6 33 127 ?_;refine lq 7 34 255 ?_;refine lq 8 35 511 ?_;refine lq 10 37 1535 ?_;refine lq 13 40 9727 ?_;refine nR 9 36 10239 ?_;refine nR 11 38 12287 ?_;refine lq 12 39 16383 ?_;refine nR 14 41 32767 ?_;refine lq 15 42 65535 ?_;refine oO 16 43 131071 (fun K hK=>?_);refine qm Try.func75 (uu.calls a6.out) ?_;rintro e w' ⟨rfl,⟨nd,rfl⟩⟩;refine⟨_,rfl,?_⟩;refine hK.out _ _ ⟨nz af 0,nz af 1,nz ac 0,nz ac 1,(nE HB aD),(nE HB aC)⟩ (fun hHeld=>?_);clear hK K;refine og 43 ?_;refine lq 17 44 262143 ?_;refine lq 18 45 524287 ?_;refine lq 19 46 1048575 ?_;refine lq 20 47 2097151 ?_;refine lq 21 48 4194303 ?_;refine lq 22 49 8388607 ?_;refine lq 23 50 16777215 ?_;refine lq 25 52 50331647 ?_;refine lq 26 53 117440511 ?_;refine nR 24 51 134217727 ?_;refine lq 27 54 268435455 ?_;refine nR 28 55 536870911 ?_;refine nR 29 56 1073741823 ?_;refine oO 30 57 2147483647 (fun K hK=>?_);refine uq Try.func76 (ou) rfl #[.agg #[.int .i64 ((nk aa (ai)).f0),.int .i64 ((nk aa (ai)).f1)],.agg #[.int .i64 ((nk aa ab).f0),.int .i64 ((nk aa ab).f1)]] (by rfl) rfl rfl (F8) ?_;refine(wF.calls bI.out).mono ?_;rintro e dP ⟨rfl,hb⟩;refine⟨_,rfl,?_⟩;replace ac:=nD ac hb;replace af:=nD af hb;replace HB:=nJ HB hb;(try clear hb);refine hK.out _ _ ⟨nz af 0,nz af 1,nz ac 0,nz ac 1,(nE HB aD),(nE HB aC)⟩ (fun hHeld=>?_);clear hK K;refine og 57 ?_;refine lq 31 58 4294967295 ?_;refine lq 32 59 8589934591 ?_;refine lq 33 60 17179869183 ?_;refine qb (qf HT_.out (ou)) ?_;try go_wp2
          go_roundg k2
          case measure=>have:=bo.out;have:=bp.out;omega
          case rel=>exact⟨(wrap64 (ab+1)),(nP),H',⟨by have:=bo.out;have:=bp.out;omega⟩,⟨nG ac.out⟩,⟨nC HB.out⟩⟩
         obtain rfl:=Option.some.inj H;have⟨cf,cg,ch,ci⟩:=nI (w:=wr) ac;have av:0<=(ab:Int):=nA;have aw:ab<(aa.length:Int):=nA;obtain⟨aj,aM,al,am⟩:=qJ aL.out ab av aw;cases aM;replace al:=nE HB al;replace am:=nE HB am;replace av:=eq_true av;replace aw:=eq_true aw;try go_wp2_with (first|((with_reducible refine nT 4 rfl ?_);(try(refine rQ (by rfl) ?_;dsimp only));refine vG 4 #[.int .i64 0,.int .i64 0] 59 ?_;intro ae hg a8 nu hb;have af:=dm (nu);have aU:=dm (nQ:w.heap.size<=ae);have aV:=dm (nQ:w.heap.size<=ae);replace HB:=nJ HB hb;have ak:=dm (Ar:ah≠ae);have ap:=dm (Au:ae≠ah);replace ac:=nD ac hb;clear hb nu hg;have dB:=ap.out;have dC:=ak.out;have⟨cj,ck,cl,cm⟩:=nI (w:=a8) af))
         have n0:lm (((a8.setCell ⟨ae,0,none⟩ (.int .i64 ((nk aa ab).f0))).setCell ⟨ae,1,none⟩ (.int .i64 ((nk aa ab).f1))).heap[ah]? =some (.cells #[.int .i64 ag,.slice (some aj) aa.length az] 31 (0,0))):=⟨r9⟩;have n1:lm (((a8.setCell ⟨ae,0,none⟩ (.int .i64 ((nk aa ab).f0))).setCell ⟨ae,1,none⟩ (.int .i64 ((nk aa ab).f1))).heap[ae]? =some (.cells #[.int .i64 ((nk aa ab).f0),.int .i64 ((nk aa ab).f1)] 59 (0,0))):=⟨ww⟩;have n2:lm (Below w.heap.size w ((a8.setCell ⟨ae,0,none⟩ (.int .i64 ((nk aa ab).f0))).setCell ⟨ae,1,none⟩ (.int .i64 ((nk aa ab).f1)))):=⟨nC HB.out⟩;(try clear ac af HB);generalize((a8.setCell ⟨ae,0,none⟩ (.int .i64 ((nk aa ab).f0))).setCell ⟨ae,1,none⟩ (.int .i64 ((nk aa ab).f1)))=dh at n0 n1 n2⊢;revert n0 n1 n2;intro ac af HB;replace ac:=dm (nZ ac.out);replace af:=dm (nZ af.out);replace HB:=dm (pz HB.out);have aP:0<=((ai):Int):=nA;have aQ:(ai)<(aa.length:Int):=nA;obtain⟨a3,bf,aA,aB⟩:=qJ aL.out (ai) aP aQ;have aC:=aB;have aD:=aA;obtain rfl:aj=a3:=(by injection bf);replace aA:=nE HB aA;replace aB:=nE HB aB;replace aP:=eq_true aP;replace aQ:=eq_true aQ;refine qj 34 (S:=fun w'=>w'.cell? ⟨ae,0,none⟩=some (.int .i64 ((nk aa ab).f0))/\w'.cell? ⟨ae,1,none⟩=some (.int .i64 ((nk aa ab).f1))/\w'.cell? ⟨ah,0,none⟩=some (.int .i64 ag)/\w'.cell? ⟨ah,1,none⟩=some (.slice (some aj) aa.length az)/\w'.cell? (aj.add (((ai)).toNat*2))=some (.int .i64 ((nk aa (ai)).f0))/\w'.cell? ⟨(aj.add (((ai)).toNat*2)).block,(aj.add (((ai)).toNat*2)).off+1,none⟩=some (.int .i64 ((nk aa (ai)).f1))) [] ⟨nz af 0,nz af 1,nz ac 0,nz ac 1,(nE HB aD),(nE HB aC)⟩ qh.uE qh.uz (fun hHeld HT_ HW_=>?_);generalize dh.drew=dQ at ac af HB aA aB hHeld⊢;refine lq 0 27 1 ?_;refine lq 2 29 5 ?_;refine nR 1 28 7 ?_;refine nR 3 30 15 ?_;refine lq 4 31 31 ?_;refine oO 5 32 63 (fun K hK=>?_);refine qm Try.func75 (uu.calls aX.out) ?_;rintro e w' ⟨rfl,⟨nd,rfl⟩⟩;refine⟨_,rfl,?_⟩;refine hK.out _ _ ⟨nz af 0,nz af 1,nz ac 0,nz ac 1,(nE HB aD),(nE HB aC)⟩ (fun hHeld=>?_);clear hK K;refine og 32 ?_;refine lq 6 33 127 ?_;refine lq 7 34 255 ?_;refine lq 8 35 511 ?_;refine lq 10 37 1535 ?_;refine lq 13 40 9727 ?_;refine nR 9 36 10239 ?_;refine nR 11 38 12287 ?_;refine lq 12 39 16383 ?_;refine nR 14 41 32767 ?_;refine lq 15 42 65535 ?_;refine oO 16 43 131071 (fun K hK=>?_);refine qm Try.func75 (uu.calls a6.out) ?_;rintro e w' ⟨rfl,⟨nd,rfl⟩⟩;refine⟨_,rfl,?_⟩;refine hK.out _ _ ⟨nz af 0,nz af 1,nz ac 0,nz ac 1,(nE HB aD),(nE HB aC)⟩ (fun hHeld=>?_);clear hK K;refine og 43 ?_;refine lq 17 44 262143 ?_;refine lq 18 45 524287 ?_;refine lq 19 46 1048575 ?_;refine lq 20 47 2097151 ?_;refine lq 21 48 4194303 ?_;refine lq 22 49 8388607 ?_;refine lq 23 50 16777215 ?_;refine lq 25 52 50331647 ?_;refine lq 26 53 117440511 ?_;refine nR 24 51 134217727 ?_;refine lq 27 54 268435455 ?_;refine nR 28 55 536870911 ?_;refine nR 29 56 1073741823 ?_;refine oO 30 57 2147483647 (fun K hK=>?_);refine uq Try.func76 (ou) rfl #[.agg #[.int .i64 ((nk aa (ai)).f0),.int .i64 ((nk aa (ai)).f1)],.agg #[.int .i64 ((nk aa ab).f0),.int .i64 ((nk aa ab).f1)]] (by rfl) rfl rfl (F8) ?_;refine(wF.calls bI.out).mono ?_;rintro e dR ⟨rfl,hb⟩;refine⟨_,rfl,?_⟩;replace ac:=nD ac hb;replace af:=nD af hb;replace HB:=nJ HB hb;(try clear hb);refine hK.out _ _ ⟨nz af 0,nz af 1,nz ac 0,nz ac 1,(nE HB aD),(nE HB aC)⟩ (fun hHeld=>?_);clear hK K;refine og 57 ?_;refine lq 31 58 4294967295 ?_;refine lq 32 59 8589934591 ?_;refine lq 33 60 17179869183 ?_;refine qb (qf HT_.out (ou)) ?_;try go_wp2
         go_ret
         exact⟨by first|rfl|(simp[rE,rF]<;>rfl)|(simp only [←aK];first|rfl|(simp[rE,rF]<;>rfl))|(simp[*,rE,rF]<;>rfl),nC HB.out⟩
        have H':=dm H;clear H;have⟨cn,co,cp,cq⟩:=nI (w:=wr) ac;have av:0<=(ab:Int):=nA;have aw:ab<(aa.length:Int):=nA;obtain⟨aj,aM,al,am⟩:=qJ aL.out ab av aw;cases aM;replace al:=nE HB al;replace am:=nE HB am;replace av:=eq_true av;replace aw:=eq_true aw;try go_wp2_with (first|((with_reducible refine nT 4 rfl ?_);(try(refine rQ (by rfl) ?_;dsimp only));refine vG 4 #[.int .i64 0,.int .i64 0] 59 ?_;intro ae hg a9 nu hb;have af:=dm (nu);have aU:=dm (nQ:w.heap.size<=ae);have aV:=dm (nQ:w.heap.size<=ae);replace HB:=nJ HB hb;have ak:=dm (Ar:ah≠ae);have ap:=dm (Au:ae≠ah);replace ac:=nD ac hb;clear hb nu hg;have dD:=ap.out;have dE:=ak.out;have⟨cr,ct,cu,cv⟩:=nI (w:=a9) af))
        have n0:lm (((a9.setCell ⟨ae,0,none⟩ (.int .i64 ((nk aa ab).f0))).setCell ⟨ae,1,none⟩ (.int .i64 ((nk aa ab).f1))).heap[ah]? =some (.cells #[.int .i64 ag,.slice (some aj) aa.length az] 31 (0,0))):=⟨r9⟩;have n1:lm (((a9.setCell ⟨ae,0,none⟩ (.int .i64 ((nk aa ab).f0))).setCell ⟨ae,1,none⟩ (.int .i64 ((nk aa ab).f1))).heap[ae]? =some (.cells #[.int .i64 ((nk aa ab).f0),.int .i64 ((nk aa ab).f1)] 59 (0,0))):=⟨ww⟩;have n2:lm (Below w.heap.size w ((a9.setCell ⟨ae,0,none⟩ (.int .i64 ((nk aa ab).f0))).setCell ⟨ae,1,none⟩ (.int .i64 ((nk aa ab).f1)))):=⟨nC HB.out⟩;(try clear ac af HB);generalize((a9.setCell ⟨ae,0,none⟩ (.int .i64 ((nk aa ab).f0))).setCell ⟨ae,1,none⟩ (.int .i64 ((nk aa ab).f1)))=di at n0 n1 n2⊢;revert n0 n1 n2;intro ac af HB;replace ac:=dm (nZ ac.out);replace af:=dm (nZ af.out);replace HB:=dm (pz HB.out);refine qj 34 (S:=fun w'=>w'.cell? ⟨ae,0,none⟩=some (.int .i64 ((nk aa ab).f0))/\w'.cell? ⟨ae,1,none⟩=some (.int .i64 ((nk aa ab).f1))/\w'.cell? ⟨ah,0,none⟩=some (.int .i64 ag)/\w'.cell? ⟨ah,1,none⟩=some (.slice (some aj) aa.length az)) [] ⟨nz af 0,nz af 1,nz ac 0,nz ac 1⟩ qh.uE qh.uz (fun hHeld HT_ HW_=>?_);generalize di.drew=dS at ac af HB hHeld⊢;refine lq 0 27 1 ?_;refine lq 2 29 5 ?_;refine nR 1 28 7 ?_;refine nR 3 30 15 ?_;refine lq 4 31 31 ?_;refine oO 5 32 63 (fun K hK=>?_);refine qm Try.func75 (uu.calls aX.out) ?_;rintro e w' ⟨rfl,⟨nd,rfl⟩⟩;refine⟨_,rfl,?_⟩;refine hK.out _ _ ⟨nz af 0,nz af 1,nz ac 0,nz ac 1⟩ (fun hHeld=>?_);clear hK K;refine og 32 ?_;refine lq 6 33 127 ?_;refine lq 7 34 255 ?_;refine lq 8 35 511 ?_;refine lq 10 37 1535 ?_;refine lq 13 40 9727 ?_;refine nR 9 36 10239 ?_;refine nR 11 38 12287 ?_;refine lq 12 39 16383 ?_;refine nR 14 41 32767 ?_;refine lq 15 42 65535 ?_;refine oO 16 43 131071 (fun K hK=>?_);refine qm Try.func75 (uu.calls a6.out) ?_;rintro e w' ⟨rfl,⟨nd,rfl⟩⟩;refine⟨_,rfl,?_⟩;refine hK.out _ _ ⟨nz af 0,nz af 1,nz ac 0,nz ac 1⟩ (fun hHeld=>?_);clear hK K;refine og 43 ?_;refine lq 17 44 262143 ?_;refine lq 18 45 524287 ?_;refine lq 19 46 1048575 ?_;refine lq 20 47 2097151 ?_;refine lq 21 48 4194303 ?_;refine lq 22 49 8388607 ?_;refine oN 23 50 16777215 ?_;refine oN 24 51 33554431 ?_;refine oN 25 52 67108863 ?_;refine oN 26 53 134217727 ?_;refine oN 27 54 268435455 ?_;refine oN 28 55 536870911 ?_;refine oN 29 56 1073741823 ?_;refine oN 30 57 2147483647 ?_;refine oN 31 58 4294967295 ?_;refine lq 32 59 8589934591 ?_;refine lq 33 60 17179869183 ?_;refine qb (qf HT_.out (ou)) ?_;try go_wp2
        go_roundg k2
        case measure=>have:=bo.out;have:=bp.out;omega
        case rel=>exact⟨(wrap64 (ab+1)),(nP),H',⟨by have:=bo.out;have:=bp.out;omega⟩,⟨nG ac.out⟩,⟨nC HB.out⟩⟩
       obtain rfl:=Option.some.inj H;have⟨cw,cx,cy,cz⟩:=nI (w:=wr) ac;have av:0<=(ab:Int):=nA;have aw:ab<(aa.length:Int):=nA;obtain⟨aj,aM,al,am⟩:=qJ aL.out ab av aw;cases aM;replace al:=nE HB al;replace am:=nE HB am;replace av:=eq_true av;replace aw:=eq_true aw;try go_wp2_with (first|((with_reducible refine nT 4 rfl ?_);(try(refine rQ (by rfl) ?_;dsimp only));refine vG 4 #[.int .i64 0,.int .i64 0] 59 ?_;intro ae hg a_ nu hb;have af:=dm (nu);have aU:=dm (nQ:w.heap.size<=ae);have aV:=dm (nQ:w.heap.size<=ae);replace HB:=nJ HB hb;have ak:=dm (Ar:ah≠ae);have ap:=dm (Au:ae≠ah);replace ac:=nD ac hb;clear hb nu hg;have dF:=ap.out;have dG:=ak.out;have⟨cA,cD,cE,cF⟩:=nI (w:=a_) af))
       have n0:lm (((a_.setCell ⟨ae,0,none⟩ (.int .i64 ((nk aa ab).f0))).setCell ⟨ae,1,none⟩ (.int .i64 ((nk aa ab).f1))).heap[ah]? =some (.cells #[.int .i64 ag,.slice (some aj) aa.length az] 31 (0,0))):=⟨r9⟩;have n1:lm (((a_.setCell ⟨ae,0,none⟩ (.int .i64 ((nk aa ab).f0))).setCell ⟨ae,1,none⟩ (.int .i64 ((nk aa ab).f1))).heap[ae]? =some (.cells #[.int .i64 ((nk aa ab).f0),.int .i64 ((nk aa ab).f1)] 59 (0,0))):=⟨ww⟩;have n2:lm (Below w.heap.size w ((a_.setCell ⟨ae,0,none⟩ (.int .i64 ((nk aa ab).f0))).setCell ⟨ae,1,none⟩ (.int .i64 ((nk aa ab).f1)))):=⟨nC HB.out⟩;(try clear ac af HB);generalize((a_.setCell ⟨ae,0,none⟩ (.int .i64 ((nk aa ab).f0))).setCell ⟨ae,1,none⟩ (.int .i64 ((nk aa ab).f1)))=dj at n0 n1 n2⊢;revert n0 n1 n2;intro ac af HB;replace ac:=dm (nZ ac.out);replace af:=dm (nZ af.out);replace HB:=dm (pz HB.out);refine qj 34 (S:=fun w'=>w'.cell? ⟨ae,0,none⟩=some (.int .i64 ((nk aa ab).f0))/\w'.cell? ⟨ae,1,none⟩=some (.int .i64 ((nk aa ab).f1))/\w'.cell? ⟨ah,0,none⟩=some (.int .i64 ag)/\w'.cell? ⟨ah,1,none⟩=some (.slice (some aj) aa.length az)) [] ⟨nz af 0,nz af 1,nz ac 0,nz ac 1⟩ qh.uE qh.uz (fun hHeld HT_ HW_=>?_);generalize dj.drew=dT at ac af HB hHeld⊢;refine lq 0 27 1 ?_;refine lq 2 29 5 ?_;refine nR 1 28 7 ?_;refine nR 3 30 15 ?_;refine lq 4 31 31 ?_;refine oO 5 32 63 (fun K hK=>?_);refine qm Try.func75 (uu.calls aX.out) ?_;rintro e w' ⟨rfl,⟨nd,rfl⟩⟩;refine⟨_,rfl,?_⟩;refine hK.out _ _ ⟨nz af 0,nz af 1,nz ac 0,nz ac 1⟩ (fun hHeld=>?_);clear hK K;refine og 32 ?_;refine lq 6 33 127 ?_;refine lq 7 34 255 ?_;refine lq 8 35 511 ?_;refine lq 10 37 1535 ?_;refine lq 13 40 9727 ?_;refine nR 9 36 10239 ?_;refine nR 11 38 12287 ?_;refine lq 12 39 16383 ?_;refine nR 14 41 32767 ?_;refine lq 15 42 65535 ?_;refine oO 16 43 131071 (fun K hK=>?_);refine qm Try.func75 (uu.calls a6.out) ?_;rintro e w' ⟨rfl,⟨nd,rfl⟩⟩;refine⟨_,rfl,?_⟩;refine hK.out _ _ ⟨nz af 0,nz af 1,nz ac 0,nz ac 1⟩ (fun hHeld=>?_);clear hK K;refine og 43 ?_;refine lq 17 44 262143 ?_;refine lq 18 45 524287 ?_;refine lq 19 46 1048575 ?_;refine oN 20 47 2097151 ?_;refine oN 21 48 4194303 ?_;refine oN 22 49 8388607 ?_;refine oN 23 50 16777215 ?_;refine oN 24 51 33554431 ?_;refine oN 25 52 67108863 ?_;refine oN 26 53 134217727 ?_;refine oN 27 54 268435455 ?_;refine oN 28 55 536870911 ?_;refine oN 29 56 1073741823 ?_;refine oN 30 57 2147483647 ?_;refine oN 31 58 4294967295 ?_;refine oN 32 59 8589934591 ?_;refine lq 33 60 17179869183 ?_;refine qb (qf HT_.out (ou)) ?_;try go_wp2
       go_ret
       exact⟨qH,nC HB.out⟩
      obtain rfl:=Option.some.inj H;have⟨cG,cH,cI,cJ⟩:=nI (w:=wr) ac;have av:0<=(ab:Int):=nA;have aw:ab<(aa.length:Int):=nA;obtain⟨aj,aM,al,am⟩:=qJ aL.out ab av aw;cases aM;replace al:=nE HB al;replace am:=nE HB am;replace av:=eq_true av;replace aw:=eq_true aw;try go_wp2_with (first|((with_reducible refine nT 4 rfl ?_);(try(refine rQ (by rfl) ?_;dsimp only));refine vG 4 #[.int .i64 0,.int .i64 0] 59 ?_;intro ae hg ba nu hb;have af:=dm (nu);have aU:=dm (nQ:w.heap.size<=ae);have aV:=dm (nQ:w.heap.size<=ae);replace HB:=nJ HB hb;have ak:=dm (Ar:ah≠ae);have ap:=dm (Au:ae≠ah);replace ac:=nD ac hb;clear hb nu hg;have dH:=ap.out;have dI:=ak.out;have⟨cL,cM,cN,cO⟩:=nI (w:=ba) af))
      have n0:lm (((ba.setCell ⟨ae,0,none⟩ (.int .i64 ((nk aa ab).f0))).setCell ⟨ae,1,none⟩ (.int .i64 ((nk aa ab).f1))).heap[ah]? =some (.cells #[.int .i64 ag,.slice (some aj) aa.length az] 31 (0,0))):=⟨r9⟩;have n1:lm (((ba.setCell ⟨ae,0,none⟩ (.int .i64 ((nk aa ab).f0))).setCell ⟨ae,1,none⟩ (.int .i64 ((nk aa ab).f1))).heap[ae]? =some (.cells #[.int .i64 ((nk aa ab).f0),.int .i64 ((nk aa ab).f1)] 59 (0,0))):=⟨ww⟩;have n2:lm (Below w.heap.size w ((ba.setCell ⟨ae,0,none⟩ (.int .i64 ((nk aa ab).f0))).setCell ⟨ae,1,none⟩ (.int .i64 ((nk aa ab).f1)))):=⟨nC HB.out⟩;(try clear ac af HB);generalize((ba.setCell ⟨ae,0,none⟩ (.int .i64 ((nk aa ab).f0))).setCell ⟨ae,1,none⟩ (.int .i64 ((nk aa ab).f1)))=dk at n0 n1 n2⊢;revert n0 n1 n2;intro ac af HB;replace ac:=dm (nZ ac.out);replace af:=dm (nZ af.out);replace HB:=dm (pz HB.out);refine qj 34 (S:=fun w'=>w'.cell? ⟨ae,0,none⟩=some (.int .i64 ((nk aa ab).f0))/\w'.cell? ⟨ae,1,none⟩=some (.int .i64 ((nk aa ab).f1))/\w'.cell? ⟨ah,0,none⟩=some (.int .i64 ag)/\w'.cell? ⟨ah,1,none⟩=some (.slice (some aj) aa.length az)) [] ⟨nz af 0,nz af 1,nz ac 0,nz ac 1⟩ qh.uE qh.uz (fun hHeld HT_ HW_=>?_);generalize dk.drew=dU at ac af HB hHeld⊢;refine lq 0 27 1 ?_;refine lq 2 29 5 ?_;refine nR 1 28 7 ?_;refine nR 3 30 15 ?_;refine lq 4 31 31 ?_;refine oO 5 32 63 (fun K hK=>?_);refine qm Try.func75 (uu.calls aX.out) ?_;rintro e w' ⟨rfl,⟨nd,rfl⟩⟩;refine⟨_,rfl,?_⟩;refine hK.out _ _ ⟨nz af 0,nz af 1,nz ac 0,nz ac 1⟩ (fun hHeld=>?_);clear hK K;refine og 32 ?_;refine lq 6 33 127 ?_;refine lq 7 34 255 ?_;refine oN 8 35 511 ?_;refine oN 9 36 1023 ?_;refine oN 10 37 2047 ?_;refine oN 11 38 4095 ?_;refine oN 12 39 8191 ?_;refine oN 13 40 16383 ?_;refine oN 14 41 32767 ?_;refine oN 15 42 65535 ?_;refine oN 16 43 131071 ?_;refine oN 17 44 262143 ?_;refine lq 18 45 524287 ?_;refine lq 19 46 1048575 ?_;refine oN 20 47 2097151 ?_;refine oN 21 48 4194303 ?_;refine oN 22 49 8388607 ?_;refine oN 23 50 16777215 ?_;refine oN 24 51 33554431 ?_;refine oN 25 52 67108863 ?_;refine oN 26 53 134217727 ?_;refine oN 27 54 268435455 ?_;refine oN 28 55 536870911 ?_;refine oN 29 56 1073741823 ?_;refine oN 30 57 2147483647 ?_;refine oN 31 58 4294967295 ?_;refine oN 32 59 8589934591 ?_;refine lq 33 60 17179869183 ?_;refine qb (qf HT_.out (ou)) ?_;try go_wp2
      go_ret
      exact⟨qH,nC HB.out⟩
     obtain rfl:=Option.some.inj H;have⟨cP,cQ,cS,cT⟩:=nI (w:=wr) ac
     go_wp2
     go_ret
     exact⟨qH,nC HB.out⟩
theorem CF (d:Nat) (w:World) (x0 y0:Int) (x1 y1:Int):
  (Op.equalIn (d+2) 59 (.agg #[.int .i64 x0,.int .i64 x1]) (.agg #[.int .i64 y0,.int .i64 y1])).run Try.prog w=.ok (x0==y0&&(x1==y1)) w:=by
 refine Hd Try.underlying59 (by kernel_rfl) ?_;refine He (by rfl) (by go_simp;rfl) (by go_simp;rfl) (by go_simp) ?_;exact Hf (by rfl) (by go_simp;rfl) (by go_simp;rfl) (by go_simp)
attribute [local go_sem high] CF
def tJ.f (a0:Int) (a1:Int):Option (Int×Int):=if a0<a1 then(some (a0,a1)) else(some (a1,a0))
theorem tJ.calls {a0:Int}{a1:Int}{r1:Int}{r2:Int}{w:World}(h:tJ.f a0 a1=some (r1,r2)):
  Calls Try.prog 46 #[.int .i64 a0,.int .i64 a1] w fun e w'=>e=.returned (.agg #[.int .i64 r1,.int .i64 r2])/\Below w.heap.size w w':=by
 have bD:=Try.underlying59;have HB:=dm (Below.refl w.heap.size w);unfold tJ.f at h;have H:=h;clear h
 replace H:=p_ H;rcases H with⟨aR,H⟩|⟨aR,H⟩
 ·simp only [Option.some.injEq,Prod.mk.injEq]at H;obtain⟨rfl,rfl⟩:=H
  go_enter Try.func46,Try.ntmps46
  go_wp2_with (first|((with_reducible refine nT 4 rfl ?_);refine oK #[.int .i64 0,.int .i64 0] 59 ?_;intro aA hg w4 nu hb;have aL:=dm (nu);have bo:=dm (nQ:w.heap.size<=aA);have bp:=dm (nQ:w.heap.size<=aA);replace HB:=nJ HB hb;clear hb nu hg;have⟨ca,cd,ce,cf⟩:=nI (w:=w4) aL))
  refine bodyPost_ret (results_cell_row rfl _ _ aA 59 #[.int .i64 a0,.int .i64 a1] (0,0) _ rfl (pJ aL.out) Try.underlying59 rfl (by kernel_rfl)) rfl ?_;exact⟨qH,nC HB.out⟩
 simp only [Option.some.injEq,Prod.mk.injEq]at H;obtain⟨rfl,rfl⟩:=H
 go_enter Try.func46,Try.ntmps46
 go_wp2_with (first|((with_reducible refine nT 4 rfl ?_);refine oK #[.int .i64 0,.int .i64 0] 59 ?_;intro aA hg w6 nu hb;have aL:=dm (nu);have bo:=dm (nQ:w.heap.size<=aA);have bp:=dm (nQ:w.heap.size<=aA);replace HB:=nJ HB hb;clear hb nu hg;have⟨ba,bd,bf,bh⟩:=nI (w:=w6) aL))
 refine bodyPost_ret (results_cell_row rfl _ _ aA 59 #[.int .i64 a1,.int .i64 a0] (0,0) _ rfl (pJ aL.out) Try.underlying59 rfl (by kernel_rfl)) rfl ?_;exact⟨qH,nC HB.out⟩
def qD.l0:Nat->List Int->Int->Int->Option (Bool)
 |0,_,_,_=>none
 |k+1,x0,x1,x5=>if x5<(x0.length:Int) then(if 0<=x5 then(if(rd x0 x5)=x1 then(some true) else(qD.l0 k x0 x1 (wrap64 (x5+1)))) else(none)) else(some false)
def qD.f (k:Nat) (l0:List Int) (a1:Int):Option (Bool):=qD.l0 k l0 a1 0
theorem qD.calls {k:Nat}{A0:Option Addr}{c0:Nat}{l0:List Int}{a1:Int}{r:Bool}{w:World}(aU:Kd.C (Kd.int .i64) w A0 l0.length l0)(aV:l0.length<=c0)(h:qD.f k l0 a1=some r):
  Calls Try.prog 47 #[.slice A0 l0.length c0,.int .i64 a1] w fun e w'=>e=.returned (.bool r)/\pE w w':=by
 have aW:=dm aU;have cg:=dm aV;clear aU aV;unfold qD.f at h;have H:=h;clear h;have H':=dm H;clear H
 go_enter Try.func47,Try.ntmps47
 go_wp2
 go_loopg [5] k (fun kq v5 w'=>∃ (af:Int),v5=.int .i64 af/\lm (qD.l0 kq l0 a1 af=some r)/\lm (kq<=k)/\pE w w')
 case atStart=>exact⟨(0),(nP),H',⟨Nat.le_refl _⟩,by repeat(first|exact pE.refl _|apply pE.step)⟩
 case round=>
  clear H';try clear p2
  obtain⟨af,rfl,HA,aX,⟨m1,rfl⟩⟩:=hrel;cases gk with
  |zero=>exact absurd HA.out (by simp[qD.l0])
  |succ k1=>
   have H:=HA.out;clear HA;simp only [qD.l0]at H
   replace H:=p_ H;rcases H with⟨aR,H⟩|⟨aR,H⟩
   ·skip
    obtain⟨cr,H⟩:=oz H
    by_cases c5:(rd l0 af)=a1
    ·rw[if_pos c5]at H;have aS:=beq_iff_eq.mpr c5;have bE:=bne_eq_false_iff_eq.mpr c5;clear c5;obtain rfl:=Option.some.inj H;have aG:0<=(af:Int):=nA;have aH:af<(l0.length:Int):=nA;obtain⟨bq,aY,a9⟩:=oL aW.out af aG aH;cases aY;replace aG:=eq_true aG;replace aH:=eq_true aH
     go_wp2
     go_ret
     exact⟨nP,by repeat(first|exact pE.refl _|apply pE.step)⟩
    rw[if_neg c5]at H;have aS:=beq_eq_false_iff_ne.mpr c5;have bE:=bne_iff_ne.mpr c5;have H':=dm H;clear H;have aG:0<=(af:Int):=nA;have aH:af<(l0.length:Int):=nA;obtain⟨bq,aY,a9⟩:=oL aW.out af aG aH;cases aY;replace aG:=eq_true aG;replace aH:=eq_true aH
    go_wp2
    go_roundg k1
    case measure=>have:=aX.out;omega
    case rel=>exact⟨(wrap64 (af+1)),(nP),H',⟨by have:=aX.out;omega⟩,by repeat(first|exact pE.refl _|apply pE.step)⟩
   obtain rfl:=Option.some.inj H
   go_wp2
   go_ret
   exact⟨nP,by repeat(first|exact pE.refl _|apply pE.step)⟩
def uY.f (l0:List Int):Option (Bool):=if(l0.length:Int)>0 then(if 0<(l0.length:Int) then(if 0<=(wrap64 ((l0.length:Int) - 1)) then(if(wrap64 ((l0.length:Int) - 1))<(l0.length:Int) then(some ((rd l0 0) !=(rd l0 (wrap64 ((l0.length:Int) - 1))))) else(none)) else(none)) else(none)) else(some false)
theorem uY.calls {A0:Option Addr}{c0:Nat}{l0:List Int}{r:Bool}{w:World}(aU:Kd.C (Kd.int .i64) w A0 l0.length l0)(aV:l0.length<=c0)(h:uY.f l0=some r):
  Calls Try.prog 83 #[.slice A0 l0.length c0] w fun e w'=>e=.returned (.bool r)/\pE w w':=by
 have aW:=dm aU;have cg:=dm aV;clear aU aV;unfold uY.f at h;have H:=h;clear h
 by_cases c2:(l0.length:Int)>0
 ·rw[if_pos c2]at H;have bF:=decide_eq_true c2;have bG:decide (0<l0.length)=true:=decide_eq_true (by omega);clear c2
  obtain⟨c3,H⟩:=qg H;have aR:=decide_eq_true c3;have ct:decide (0<l0.length)=true:=decide_eq_true (by omega);clear c3;obtain⟨aE,aT⟩:∃j_:Int,(wrap64 ((l0.length:Int) - 1))=j_:=⟨_,rfl⟩;replace H:(if 0<=(aE) then(if(aE)<(l0.length:Int) then(some ((rd l0 0) !=(rd l0 (aE)))) else(none)) else(none))=some r:=by first|(rw[aT]at H;exact H)|(simp only [aT]at H⊢;exact H)
  have cn:(IntKind.i64.wrap ((l0.length:Int) - 1))=aE:=(qw _).trans aT
  obtain⟨aS,H⟩:=oz H
  obtain⟨bH,H⟩:=oz H;obtain rfl:=Option.some.inj H;have aZ:0<=(0:Int):=(by omega);have a4:0<(l0.length:Int):=nA;obtain⟨br,bI,aQ⟩:=oL aW.out 0 aZ a4;cases bI;have co:(0<l0.length)=True:=eq_true (by omega);(try rw[show((0:Int)).toNat=0 from rfl]at aQ);(try rw[Addr.add_zero']at aQ);replace aZ:=eq_true aZ;replace a4:=eq_true a4;have a5:0<=((aE):Int):=nA;have a6:(aE)<(l0.length:Int):=nA;obtain⟨bu,bJ,bN⟩:=oL aW.out (aE) a5 a6;obtain rfl:br=bu:=(by injection bJ);replace a5:=eq_true a5;replace a6:=eq_true a6
  go_enter Try.func83,Try.ntmps83
  go_wp2
  repeat(go_quiet (fail);try go_wp2)
  go_ret
  exact⟨by first|rfl|(simp;done)|(simp only [←aT]<;> (first|rfl|simp))|(simp[*];done),by repeat(first|exact pE.refl _|apply pE.step)⟩
 rw[if_neg c2]at H;have bF:=decide_eq_false c2;have bG:decide (0<l0.length)=false:=decide_eq_false (by omega);clear c2;obtain rfl:=Option.some.inj H
 go_enter Try.func83,Try.ntmps83
 go_wp2
 repeat(go_quiet (fail);try go_wp2)
 go_ret
 exact⟨nP,by repeat(first|exact pE.refl _|apply pE.step)⟩
def rA.f (k:Nat) (ab:Int) (aa:List (S59)) (a1:Int):Option (Bool):=(qh.f k ab aa).bind fun aO=>(if aO=true then((uu.f a1 0 (wrap64 (ab - 1))).bind fun aw=>(some aw)) else(some false))
theorem rA.calls {k:Nat}{ab:Int}{ah:Option Addr}{ag:Nat}{aa:List (S59)}{a1:Int}{r:Bool}{w:World}(au:Kd.C k59 w ah aa.length aa)(av:aa.length<=ag)(h:rA.f k ab aa a1=some r):
  Calls Try.prog 85 #[.agg #[.int .i64 ab,.slice ah aa.length ag],.int .i64 a1] w fun e w'=>e=.returned (.bool r)/\Below w.heap.size w w':=by
 have bj:=Try.underlying31;have am:=dm au;have aB:=dm av;clear au av;have HB:=dm (Below.refl w.heap.size w);unfold rA.f at h;have H:=h;clear h;obtain⟨aO,A3,H⟩:=oC H;(try dsimp only at H)
 rcases p8 H with⟨h_,H_⟩|⟨h_,H_⟩<;> (subst h_;clear H;have H:=H_;clear H_)
 ·obtain⟨aw,A5,H⟩:=oC H;(try dsimp only at H);obtain rfl:=Option.some.inj H
  go_enter Try.func85,Try.ntmps85
  go_wp2_with (first|((with_reducible refine nT 2 rfl ?_);refine oK #[.int .i64 ab,.slice ah aa.length ag] 31 ?_;intro aM hg w6 nu hb;have al:=dm (nu);have bv:=dm (nQ:w.heap.size<=aM);have bx:=dm (nQ:w.heap.size<=aM);replace HB:=nJ HB hb;clear hb nu hg;have⟨ba,bd,bf,bh⟩:=nI (w:=w6) al)|((with_reducible refine oh 32 rfl ?_);refine rf 6 rfl Try.func32 (qh.calls (nS (oG am.out HB.out)) aB.out A3.out) ?_;intro w8 hb;replace al:=nD al hb;replace HB:=nJ HB hb;(try clear hb);have⟨bk,bl,bm,bn⟩:=nI (w:=w8) al)|(go_at_call 75;refine(uu.calls A5.out).mono ?_;rintro e w' ⟨rfl,⟨nd,rfl⟩⟩))
  go_ret
  exact⟨qH,nC HB.out⟩
 obtain rfl:=Option.some.inj H
 go_enter Try.func85,Try.ntmps85
 go_wp2_with (first|((with_reducible refine nT 2 rfl ?_);refine oK #[.int .i64 ab,.slice ah aa.length ag] 31 ?_;intro aM hg bB nu hb;have al:=dm (nu);have bv:=dm (nQ:w.heap.size<=aM);have bx:=dm (nQ:w.heap.size<=aM);replace HB:=nJ HB hb;clear hb nu hg;have⟨bO,bP,bQ,bR⟩:=nI (w:=bB) al)|((with_reducible refine oh 32 rfl ?_);refine rf 6 rfl Try.func32 (qh.calls (nS (oG am.out HB.out)) aB.out A3.out) ?_;intro bC hb;replace al:=nD al hb;replace HB:=nJ HB hb;(try clear hb)))
 go_ret
 exact⟨qH,nC HB.out⟩
def sI.l0:Nat->Int->Int->Int->Int->List (S59)->Option (Bool)
 |0,_,_,_,_,_=>none
 |k+1,x1,x2,x7,a_,aF=>if x7<(aF.length:Int) then(if 0<=x7 then((tJ.f x1 x2).bind fun a8=>(if(((nk aF x7).f0)==a8.1&&(((nk aF x7).f1)==a8.2))=true then(some true) else(sI.l0 k x1 x2 (wrap64 (x7+1)) a_ aF))) else(none)) else(some false)
def sI.f (k:Nat) (ab:Int) (aa:List (S59)) (a1:Int) (a2:Int):Option (Bool):=sI.l0 k a1 a2 0 ab aa
def sI.T4:Bool×List (List Nat×List Nat):=(true,[([],[]),([0],[0]),([],[]),([1,2],[1,2]),([3],[3]),([],[]),([],[]),([5,6],[5,6]),([4,7],[4,7])])
def sI.B4:List Nat:=[0,1,0,7,15,0,0,96,255]
theorem sI.xg:qx .any (opsOf Try.f113 4)=sI.T4:=by kernel_rfl
theorem sI.wV:qW sI.T4.2 sI.B4=true:=by kernel_rfl
theorem sI.calls {k:Nat}{ab:Int}{ah:Option Addr}{ag:Nat}{aa:List (S59)}{a1:Int}{a2:Int}{r:Bool}{w:World}(au:Kd.C k59 w ah aa.length aa)(av:aa.length<=ag)(h:sI.f k ab aa a1 a2=some r):
  Calls Try.prog 113 #[.agg #[.int .i64 ab,.slice ah aa.length ag],.int .i64 a1,.int .i64 a2] w fun e w'=>e=.returned (.bool r)/\Below w.heap.size w w':=by
 have bj:=Try.underlying31;have bD:=Try.underlying59;have am:=dm au;have aB:=dm av;clear au av;have HB:=dm (Below.refl w.heap.size w);unfold sI.f at h;have H:=h;clear h;have H':=dm H;clear H
 go_enter Try.func113,Try.ntmps113
 go_wp2_with (first|((with_reducible refine nT 3 rfl ?_);refine oK #[.int .i64 ab,.slice ah aa.length ag] 31 ?_;intro aC hg w4 nu hb;have ae:=dm (nu);have cp:=dm (nQ:w.heap.size<=aC);have cq:=dm (nQ:w.heap.size<=aC);replace HB:=nJ HB hb;clear hb nu hg))
 go_loopg [7] k (fun kq v7 w'=>∃ (ac:Int),v7=.int .i64 ac/\lm (sI.l0 kq a1 a2 ac ab aa=some r)/\lm (kq<=k)/\lm (w'.heap[aC]? =some (.cells #[.int .i64 ab,(.slice ah aa.length ag)] 31 (0,0)))/\lm (Below w.heap.size w w'))
 case atStart=>exact⟨(0),(nP),H',⟨Nat.le_refl _⟩,⟨nG ae.out⟩,⟨nC HB.out⟩⟩
 case round=>
  clear H';obtain⟨ac,rfl,HA,aX,ae,HB⟩:=hrel;cases gk with
  |zero=>exact absurd HA.out (by simp[sI.l0])
  |succ k1=>
   have H:=HA.out;clear HA;simp only [sI.l0]at H
   replace H:=p_ H;rcases H with⟨aS,H⟩|⟨aS,H⟩
   ·skip
    obtain⟨bH,H⟩:=oz H;obtain⟨⟨ap,aq⟩,A7,H⟩:=oC H;(try dsimp only at H)
    by_cases c8:(((nk aa ac).f0)==ap&&(((nk aa ac).f1)==aq))=true
    ·rw[if_pos c8]at H;have bK:(((nk aa ac).f0)==ap&&(((nk aa ac).f1)==aq))=true:=c8;(try(have bL:decide (((nk aa ac).f0)=ap&&(((nk aa ac).f1)==aq))=true:=by simpa using c8));(try(have bM:(((nk aa ac).f0)==ap&&(((nk aa ac).f1)==aq))=true:=by simpa using c8));clear c8;obtain rfl:=Option.some.inj H;have⟨bk,bl,bm,bn⟩:=nI (w:=wr) ae;try go_wp2
     replace ae:=dm (nZ ae.out);replace HB:=dm (pz HB.out);have aI:0<=(ac:Int):=nA;have aK:ac<(aa.length:Int):=nA;obtain⟨ao,a7,ai,aj⟩:=qJ am.out ac aI aK;have ay:=aj;have az:=ai;cases a7;replace ai:=nE HB ai;replace aj:=nE HB aj;replace aI:=eq_true aI;replace aK:=eq_true aK;refine qj 9 (S:=fun w'=>w'.cell? ⟨aC,0,none⟩=some (.int .i64 ab)/\w'.cell? ⟨aC,1,none⟩=some (.slice (some ao) aa.length ag)/\w'.cell? (ao.add ((ac).toNat*2))=some (.int .i64 ((nk aa ac).f0))/\w'.cell? ⟨(ao.add ((ac).toNat*2)).block,(ao.add ((ac).toNat*2)).off+1,none⟩=some (.int .i64 ((nk aa ac).f1))) [] ⟨nz ae 0,nz ae 1,(nE HB az),(nE HB ay)⟩ sI.xg sI.wV (fun hHeld HT_ HW_=>?_);generalize wr.drew=bB at ae HB ai aj hHeld⊢;refine lq 0 15 1 ?_;refine lq 2 17 5 ?_;refine lq 5 20 37 ?_;refine lq 6 21 101 ?_;refine nR 1 16 103 ?_;refine lq 3 18 111 ?_;refine nR 4 19 127 ?_;refine oO 7 22 255 (fun K hK=>?_);refine tX Try.func46 (tJ.calls A7.out) ?_;intro ch hb;replace ae:=nD ae hb;replace HB:=nJ HB hb;(try clear hb);refine hK.out _ _ ⟨nz ae 0,nz ae 1,(nE HB az),(nE HB ay)⟩ (fun hHeld=>?_);clear hK K;refine og 22 ?_;refine lq 8 23 511 ?_;refine qb (qf HT_.out (by kernel_rfl)) ?_;try go_wp2
     go_ret
     exact⟨qH,nC HB.out⟩
    rw[if_neg c8]at H;have bK:(((nk aa ac).f0)==ap&&(((nk aa ac).f1)==aq))=false:=by simpa using c8
    (try(have bL:decide (((nk aa ac).f0)=ap&&(((nk aa ac).f1)==aq))=false:=by simpa using c8));(try(have bM:(((nk aa ac).f0)==ap&&(((nk aa ac).f1)==aq))=false:=by simpa using c8));(try(have cu:¬ (((nk aa ac).f0)=ap&&(((nk aa ac).f1)==aq)):=by simpa using c8));clear c8;have H':=dm H;clear H;have⟨bS,bT,bU,bV⟩:=nI (w:=wr) ae;try go_wp2
    replace ae:=dm (nZ ae.out);replace HB:=dm (pz HB.out);have aI:0<=(ac:Int):=nA;have aK:ac<(aa.length:Int):=nA;obtain⟨ao,a7,ai,aj⟩:=qJ am.out ac aI aK;have ay:=aj;have az:=ai;cases a7;replace ai:=nE HB ai;replace aj:=nE HB aj;replace aI:=eq_true aI;replace aK:=eq_true aK;refine qj 9 (S:=fun w'=>w'.cell? ⟨aC,0,none⟩=some (.int .i64 ab)/\w'.cell? ⟨aC,1,none⟩=some (.slice (some ao) aa.length ag)/\w'.cell? (ao.add ((ac).toNat*2))=some (.int .i64 ((nk aa ac).f0))/\w'.cell? ⟨(ao.add ((ac).toNat*2)).block,(ao.add ((ac).toNat*2)).off+1,none⟩=some (.int .i64 ((nk aa ac).f1))) [] ⟨nz ae 0,nz ae 1,(nE HB az),(nE HB ay)⟩ sI.xg sI.wV (fun hHeld HT_ HW_=>?_);generalize wr.drew=cv at ae HB ai aj hHeld⊢;refine lq 0 15 1 ?_;refine lq 2 17 5 ?_;refine lq 5 20 37 ?_;refine lq 6 21 101 ?_;refine nR 1 16 103 ?_;refine lq 3 18 111 ?_;refine nR 4 19 127 ?_;refine oO 7 22 255 (fun K hK=>?_);refine tX Try.func46 (tJ.calls A7.out) ?_;intro ci hb;replace ae:=nD ae hb;replace HB:=nJ HB hb;(try clear hb);refine hK.out _ _ ⟨nz ae 0,nz ae 1,(nE HB az),(nE HB ay)⟩ (fun hHeld=>?_);clear hK K;refine og 22 ?_;refine lq 8 23 511 ?_;refine qb (qf HT_.out (by kernel_rfl)) ?_;try go_wp2
    go_roundg k1
    case measure=>have:=aX.out;omega
    case rel=>exact⟨(wrap64 (ac+1)),(nP),H',⟨by have:=aX.out;omega⟩,⟨nG ae.out⟩,⟨nC HB.out⟩⟩
   obtain rfl:=Option.some.inj H;have⟨bW,bX,bY,bZ⟩:=nI (w:=wr) ae
   go_wp2
   go_ret
   exact⟨qH,nC HB.out⟩
def vJ.f (k:Nat) (ab:Int) (aa:List (S59)) (a1:Int) (a2:Int):Option (Bool):=(qh.f k ab aa).bind fun aP=>(if aP=true then((sI.f k ab aa a1 a2).bind fun ax=>(some ax)) else(some false))
theorem vJ.calls {k:Nat}{ab:Int}{ah:Option Addr}{ag:Nat}{aa:List (S59)}{a1:Int}{a2:Int}{r:Bool}{w:World}(au:Kd.C k59 w ah aa.length aa)(av:aa.length<=ag)(h:vJ.f k ab aa a1 a2=some r):
  Calls Try.prog 86 #[.agg #[.int .i64 ab,.slice ah aa.length ag],.int .i64 a1,.int .i64 a2] w fun e w'=>e=.returned (.bool r)/\Below w.heap.size w w':=by
 have bj:=Try.underlying31;have am:=dm au;have aB:=dm av;clear au av;have HB:=dm (Below.refl w.heap.size w);unfold vJ.f at h;have H:=h;clear h;obtain⟨aP,A4,H⟩:=oC H;(try dsimp only at H)
 rcases p8 H with⟨h_,H_⟩|⟨h_,H_⟩<;> (subst h_;clear H;have H:=H_;clear H_)
 ·obtain⟨ax,A6,H⟩:=oC H;(try dsimp only at H);obtain rfl:=Option.some.inj H
  go_enter Try.func86,Try.ntmps86
  go_wp2_with (first|((with_reducible refine nT 3 rfl ?_);refine oK #[.int .i64 ab,.slice ah aa.length ag] 31 ?_;intro aN hg w7 nu hb;have ak:=dm (nu);have bz:=dm (nQ:w.heap.size<=aN);have bA:=dm (nQ:w.heap.size<=aN);replace HB:=nJ HB hb;clear hb nu hg;have⟨cj,ck,cl,cm⟩:=nI (w:=w7) ak)|((with_reducible refine oh 32 rfl ?_);refine rf 8 rfl Try.func32 (qh.calls (nS (oG am.out HB.out)) aB.out A4.out) ?_;intro w9 hb;replace ak:=nD ak hb;replace HB:=nJ HB hb;(try clear hb);have⟨b3,b4,b5,b6⟩:=nI (w:=w9) ak)|(go_at_call 113;refine(sI.calls (nS (oG am.out HB.out)) aB.out A6.out).mono ?_;rintro e ch ⟨rfl,hb⟩;replace ak:=nD ak hb;replace HB:=nJ HB hb;(try clear hb)))
  go_ret
  exact⟨qH,nC HB.out⟩
 obtain rfl:=Option.some.inj H
 go_enter Try.func86,Try.ntmps86
 go_wp2_with (first|((with_reducible refine nT 3 rfl ?_);refine oK #[.int .i64 ab,.slice ah aa.length ag] 31 ?_;intro aN hg bC nu hb;have ak:=dm (nu);have bz:=dm (nQ:w.heap.size<=aN);have bA:=dm (nQ:w.heap.size<=aN);replace HB:=nJ HB hb;clear hb nu hg;have⟨b7,b8,b9,b_⟩:=nI (w:=bC) ak)|((with_reducible refine oh 32 rfl ?_);refine rf 8 rfl Try.func32 (qh.calls (nS (oG am.out HB.out)) aB.out A4.out) ?_;intro ci hb;replace ak:=nD ak hb;replace HB:=nJ HB hb;(try clear hb)))
 go_ret
 exact⟨qH,nC HB.out⟩
theorem F9(h:p:=by(try simp only [List.map_toArray,List.map_cons,List.map_nil]);first|done|(simp only [ba];rfl)|rfl|(simp only [List.length_drop,List.length_take];rfl)):p:=h
theorem F_(h:p:=by(try simp only [List.map_toArray,List.map_cons,List.map_nil]);first|done|(simp only [bK];rfl)|rfl|(simp only [List.length_drop,List.length_take];rfl)):p:=h
theorem BV(h:p:=by have:=bL.out;have:=bM.out;have:=bz.out;first|omega|exact Nat.le_refl _):p:=h
theorem xu(h:p:=by first|omega|exact Nat.le_refl _):p:=h
attribute [local go_sem high] CF
mutual
def oP.j0:Nat->List (S59)->List Int->List Int->Bool->Int->List (S59)->Option (Bool)
 |0,_,_,_,_,_,_=>none
 |k+1,x1,x2,x3,dW,aj,ak=>if dW=true then(some false) else(oP.l0 k x1 x2 x3 0 aj ak)
def oP.l0:Nat->List (S59)->List Int->List Int->Int->Int->List (S59)->Option (Bool)
 |0,_,_,_,_,_,_=>none
 |k+1,x1,x2,x3,al,aj,ak=>if al<(x3.length:Int) then(if al>0 then(oP.j2 k x1 x2 x3 al (decide ((wrap64 (al+1))<(x3.length:Int))) aj ak) else(oP.j2 k x1 x2 x3 al false aj ak)) else(some true)
def oP.j2:Nat->List (S59)->List Int->List Int->Int->Bool->Int->List (S59)->Option (Bool)
 |0,_,_,_,_,_,_,_=>none
 |k+1,x1,x2,x3,al,dX,aj,ak=>if 0<=al then(if al<(x3.length:Int) then((rA.f k aj ak (rd x3 al)).bind fun b6=>(if b6=true then(if dX=true then((qD.f k x2 (rd x3 al)).bind fun aX=>(if aX=true then(oP.j3 k x1 x2 x3 al true aj ak) else(if al<=(x3.length:Int) then((qD.f k (x3.take (al:Int).toNat) (rd x3 al)).bind fun aI=>(oP.j3 k x1 x2 x3 al aI aj ak)) else(none)))) else(oP.j3 k x1 x2 x3 al false aj ak)) else(oP.j3 k x1 x2 x3 al true aj ak))) else(none)) else(none)
def oP.j3:Nat->List (S59)->List Int->List Int->Int->Bool->Int->List (S59)->Option (Bool)
 |0,_,_,_,_,_,_,_=>none
 |k+1,x1,x2,x3,al,dS,aj,ak=>if dS=true then(some false) else(if al=0 then(oP.l0 k x1 x2 x3 (wrap64 (al+1)) aj ak) else(if 0<=(wrap64 (al - 1)) then(if(wrap64 (al - 1))<(x3.length:Int) then(if 0<=al then(if al<(x3.length:Int) then((vJ.f k aj ak (rd x3 (wrap64 (al - 1))) (rd x3 al)).bind fun bf=>(if bf=true then(oP.l1 k x1 x2 x3 al 0 aj ak) else(some false))) else(none)) else(none)) else(none)) else(none)))
def oP.l1:Nat->List (S59)->List Int->List Int->Int->Int->Int->List (S59)->Option (Bool)
 |0,_,_,_,_,_,_,_=>none
 |k+1,x1,x2,x3,al,cd,aj,ak=>if cd<(x1.length:Int) then(if 0<=cd then(if 0<=(wrap64 (al - 1)) then(if(wrap64 (al - 1))<(x3.length:Int) then(if 0<=al then(if al<(x3.length:Int) then((tJ.f (rd x3 (wrap64 (al - 1))) (rd x3 al)).bind fun bN=>(if(((nk x1 cd).f0)==bN.1&&(((nk x1 cd).f1)==bN.2))=true then(some false) else(oP.l1 k x1 x2 x3 al (wrap64 (cd+1)) aj ak))) else(none)) else(none)) else(none)) else(none)) else(none)) else(oP.l0 k x1 x2 x3 (wrap64 (al+1)) aj ak)
end
def oP.f (k:Nat) (ae:Int) (ac:List (S59)) (l1:List (S59)) (l2:List Int) (l3:List Int) (a4:Bool):Option (Bool):=if(l3.length:Int)<2 then(oP.j0 k l1 l2 l3 true ae ac) else(if a4=true then((uY.f l3).bind fun bh=>(if bh=true then(oP.j0 k l1 l2 l3 true ae ac) else(if(l3.length:Int)<4 then(oP.j0 k l1 l2 l3 true ae ac) else((uY.f l3).bind fun aR=>(if aR=true then(oP.j0 k l1 l2 l3 false ae ac) else(oP.j0 k l1 l2 l3 (decide ((l3.length:Int)<4)) ae ac)))))) else(if 0<(l3.length:Int) then((qD.f k l2 (rd l3 0)).bind fun bj=>(if bj=true then(if 0<=(wrap64 ((l3.length:Int) - 1)) then(if(wrap64 ((l3.length:Int) - 1))<(l3.length:Int) then((qD.f k l2 (rd l3 (wrap64 ((l3.length:Int) - 1)))).bind fun aQ=>(if aQ=true then((uY.f l3).bind fun aC=>(if aC=true then(oP.j0 k l1 l2 l3 false ae ac) else(oP.j0 k l1 l2 l3 (decide ((l3.length:Int)<4)) ae ac))) else(oP.j0 k l1 l2 l3 true ae ac))) else(none)) else(none)) else(oP.j0 k l1 l2 l3 true ae ac))) else(none)))
def oP.T7:Bool×List (List Nat×List Nat):=(true,[([],[]),([],[]),([],[]),([1,2],[1,2]),([3],[3]),([0,4],[0,4]),([5],[5]),([6,5],[6]),([7],[7]),([8,7,7],[7,8]),([9],[9]),([9],[9]),([9],[9]),([11,12,9],[9,11,12]),([13,9],[9,13]),([10,14,9,9],[9,10,14]),([15,15,9],[9,15]),([16],[16]),([16],[16]),([17,18,16],[16,17,18]),([16],[16]),([16],[16]),([20,21,16],[16,20,21]),([22,16],[16,22]),([19,23,16,16],[16,19,23]),([16,24,9],[9,16,24]),([9,25,7],[7,9,25]),([7,26],[7,26])])
def oP.B7:List Nat:=[0,0,0,6,14,31,63,127,255,511,1023,1023,1023,7167,15359,32767,65535,131071,131071,524287,131071,131071,3276799,7471103,16777215,33554431,67108863,134217727]
theorem oP.uE:qx .any (opsOf Try.f45 7)=oP.T7:=by kernel_rfl
theorem oP.uz:qW oP.T7.2 oP.B7=true:=by kernel_rfl
def oP.T10:Bool×List (List Nat×List Nat):=(true,[([],[]),([],[]),([],[]),([2],[2]),([1,3],[1,3]),([4],[4]),([],[]),([],[]),([6,7],[6,7]),([8],[8]),([0,5,9],[0,5,9]),([10],[10])])
def oP.B10:List Nat:=[0,0,0,4,14,30,0,0,192,448,1023,2047]
theorem oP.Da:qx .any (opsOf Try.f45 10)=oP.T10:=by kernel_rfl
theorem oP.BM:qW oP.T10.2 oP.B10=true:=by kernel_rfl
def oP.T15:Bool×List (List Nat×List Nat):=(true,[([],[]),([],[]),([0,1],[0,1]),([2],[2]),([],[]),([],[]),([5],[5]),([4,6],[4,6]),([7],[7]),([],[]),([],[]),([9,10],[9,10]),([11],[11]),([8,12],[8,12]),([3,13],[3,13])])
def oP.B15:List Nat:=[0,0,3,7,0,0,32,112,240,0,0,1536,3584,8176,16383]
theorem oP.Dc:qx .any (opsOf Try.f45 15)=oP.T15:=by kernel_rfl
theorem oP.BO:qW oP.T15.2 oP.B15=true:=by kernel_rfl
theorem oP.calls {k:Nat}{ae:Int}{av:Option Addr}{aw:Nat}{ac:List (S59)}{A1:Option Addr}{c1:Nat}{l1:List (S59)}{A2:Option Addr}{c2:Nat}{l2:List Int}{A3:Option Addr}{c3:Nat}{l3:List Int}{a4:Bool}{r:Bool}{w:World}(cz:Kd.C k59 w av ac.length ac)(cA:ac.length<=aw)(hr1:Kd.C k59 w A1 l1.length l1)(dI:l1.length<=c1)(hr2:Kd.C (Kd.int .i64) w A2 l2.length l2)(dJ:l2.length<=c2)(dK:Kd.C (Kd.int .i64) w A3 l3.length l3)(dL:l3.length<=c3)(h:oP.f k ae ac l1 l2 l3 a4=some r):
  Calls Try.prog 45 #[.agg #[.int .i64 ae,.slice av ac.length aw],.slice A1 l1.length c1,.slice A2 l2.length c2,.slice A3 l3.length c3,.bool a4] w fun e w'=>e=.returned (.bool r)/\Below w.heap.size w w':=by
 have et:=Try.underlying31;have eu:=Try.underlying59;have bp:=dm cz;have bq:=dm cA;clear cz cA;have dM:=dm hr1;have ew:=dm dI;clear hr1 dI;have bO:=dm hr2;have bP:=dm dJ;clear hr2 dJ;have ap:=dm dK;have bQ:=dm dL;clear dK dL;have HB:=dm (Below.refl w.heap.size w);unfold oP.f at h;have H:=h;clear h;have dl:=dm H;clear H
 go_enter Try.func45,Try.ntmps45
 go_upto_region 1 with(first|((with_reducible refine nT 5 rfl ?_);(try(refine rQ (by rfl) ?_;dsimp only));refine vG 5 #[.int .i64 ae,.slice av ac.length aw] 31 ?_;intro ao hg w7 nu hb;have ab:=dm (nu);have ec:=dm ((by rw[hg];exact(oF (nC HB.out)):w.heap.size<=ao));have ed:=dm ((by rw[hg];exact(oF (nC HB.out)):w.heap.size<=ao));replace HB:=nJ HB hb;clear hb nu hg))
 (try simp only [Act.put,List.setIfInBounds_toArray,List.set_cons_zero,List.set_cons_succ])
 go_cut [61] (fun dY wc=>∃ (kq:Nat) (bV:Bool),dY=.bool bV/\lm (oP.j0 kq l1 l2 l3 bV ae ac=some r)/\lm (kq<=k)/\lm (wc.heap[ao]? =some (.cells #[.int .i64 ae,(.slice av ac.length aw)] 31 (0,0)))/\lm (Below w.heap.size w wc))
 case first=>
  have H:=dl.out;clear dl
  by_cases c8:(l3.length:Int)<2
  ·rw[if_pos c8]at H;have bX:=decide_eq_true c8;have dT:decide (l3.length<2)=true:=decide_eq_true (by omega);clear c8;(first|rw[bX]|(simp only [qw,qM];rw[bX])|skip);have H':=dm H;clear H
   go_wp2
   go_meet
   case rel=>exact⟨_,(true),(nP),H',⟨xu⟩,⟨nG ab.out⟩,⟨nC HB.out⟩⟩
  rw[if_neg c8]at H;have bX:=decide_eq_false c8;have dT:decide (l3.length<2)=false:=decide_eq_false (by omega);clear c8;(first|rw[bX]|(simp only [qw,qM];rw[bX])|skip)
  rcases p8 H with⟨h_,H_⟩|⟨h_,H_⟩<;> (subst h_;clear H;have H:=H_;clear H_)
  ·obtain⟨bh,cD,H⟩:=oC H;(try dsimp only at H)
   rcases p8 H with⟨h_,H_⟩|⟨h_,H_⟩<;> (subst h_;clear H;have H:=H_;clear H_)
   ·have H':=dm H;clear H
    go_wp2_with (first|(go_at_call 83;refine(uY.calls (nS (oG ap.out HB.out)) bQ.out cD.out).mono ?_;rintro e w' ⟨rfl,⟨nd,rfl⟩⟩))
    go_meet
    case rel=>exact⟨_,(true),(nP),H',⟨xu⟩,⟨nG ab.out⟩,⟨nC HB.out⟩⟩
   skip
   by_cases bZ:(l3.length:Int)<4
   ·rw[if_pos bZ]at H;have dv:=decide_eq_true bZ;have dw:decide (l3.length<4)=true:=decide_eq_true (by omega);clear bZ;have H':=dm H;clear H
    go_wp2_with (first|(go_at_call 83;refine(uY.calls (nS (oG ap.out HB.out)) bQ.out cD.out).mono ?_;rintro e w' ⟨rfl,⟨nd,rfl⟩⟩))
    go_meet
    case rel=>exact⟨_,(true),(nP),H',⟨xu⟩,⟨nG ab.out⟩,⟨nC HB.out⟩⟩
   rw[if_neg bZ]at H;have dv:=decide_eq_false bZ;have dw:decide (l3.length<4)=false:=decide_eq_false (by omega);clear bZ;obtain⟨aR,dN,H⟩:=oC H;(try dsimp only at H)
   rcases p8 H with⟨h_,H_⟩|⟨h_,H_⟩<;> (subst h_;clear H;have H:=H_;clear H_)
   ·have H':=dm H;clear H
    go_wp2_with (first|(go_at_call 83;(with_reducible refine(uY.calls ?pX ?pY cD.out).mono ?_);(case pX=>exact nS (oG ap.out HB.out));(case pY=>exact bQ.out);rintro e w' ⟨rfl,⟨nd,rfl⟩⟩)|(go_at_call 83;(with_reducible refine(uY.calls ?pX ?pY dN.out).mono ?_);(case pX=>repeat(first|exact(oG ap.out (nC HB.out))|(with_reducible refine vS ?_ _)|(with_reducible refine vU ?_ _)|(with_reducible refine vT ?_)));(case pY=>exact bQ.out);rintro e w' ⟨rfl,⟨nd,rfl⟩⟩))
    go_meet
    case rel=>exact⟨_,(false),(nP),H',⟨xu⟩,⟨nG ab.out⟩,⟨nC HB.out⟩⟩
   have H':=dm H;clear H
   go_wp2_with (first|(go_at_call 83;(with_reducible refine(uY.calls ?pX ?pY cD.out).mono ?_);(case pX=>exact nS (oG ap.out HB.out));(case pY=>exact bQ.out);rintro e w' ⟨rfl,⟨nd,rfl⟩⟩)|(go_at_call 83;(with_reducible refine(uY.calls ?pX ?pY dN.out).mono ?_);(case pX=>repeat(first|exact(oG ap.out (nC HB.out))|(with_reducible refine vS ?_ _)|(with_reducible refine vU ?_ _)|(with_reducible refine vT ?_)));(case pY=>exact bQ.out);rintro e w' ⟨rfl,⟨nd,rfl⟩⟩))
   go_meet
   case rel=>exact⟨_,(decide ((l3.length:Int)<4)),(nP),H',⟨xu⟩,⟨nG ab.out⟩,⟨nC HB.out⟩⟩
  skip
  obtain⟨cG,H⟩:=qg H;have ee:=decide_eq_true cG;have ef:decide (0<l3.length)=true:=decide_eq_true (by omega);clear cG;obtain⟨bj,cj,H⟩:=oC H;(try dsimp only at H)
  rcases p8 H with⟨h_,H_⟩|⟨h_,H_⟩<;> (subst h_;clear H;have H:=H_;clear H_)
  ·obtain⟨ax,bW⟩:∃j_:Int,(wrap64 ((l3.length:Int) - 1))=j_:=⟨_,rfl⟩;replace H:(if 0<=(ax) then(if(ax)<(l3.length:Int) then((qD.f k l2 (rd l3 (ax))).bind fun aQ=>(if aQ=true then((uY.f l3).bind fun aC=>(if aC=true then(oP.j0 k l1 l2 l3 false ae ac) else(oP.j0 k l1 l2 l3 (decide ((l3.length:Int)<4)) ae ac))) else(oP.j0 k l1 l2 l3 true ae ac))) else(none)) else(none))=some r:=by first|(rw[bW]at H;exact H)|(simp only [bW]at H⊢;exact H)
   (try rw[bW]at cj);have dZ:(IntKind.i64.wrap ((l3.length:Int) - 1))=ax:=(qw _).trans bW
   obtain⟨eg,H⟩:=oz H
   obtain⟨eh,H⟩:=oz H;obtain⟨aQ,dn,H⟩:=oC H;(try dsimp only at H)
   rcases p8 H with⟨h_,H_⟩|⟨h_,H_⟩<;> (subst h_;clear H;have H:=H_;clear H_)
   ·obtain⟨aC,dO,H⟩:=oC H;(try dsimp only at H)
    rcases p8 H with⟨h_,H_⟩|⟨h_,H_⟩<;> (subst h_;clear H;have H:=H_;clear H_)
    ·have H':=dm H;clear H;have aK:0<=(0:Int):=(by omega);have aL:0<(l3.length:Int):=nA;obtain⟨br,bA,ag⟩:=oL ap.out 0 aK aL;cases bA;have b7:(0<l3.length)=True:=eq_true (by omega);(try rw[show((0:Int)).toNat=0 from rfl]at ag);(try rw[Addr.add_zero']at ag);replace ag:=nE HB ag;replace aK:=eq_true aK;replace aL:=eq_true aL
     go_wp2_with (first|(go_at_call 47;(with_reducible refine(qD.calls ?pX ?pY cj.out).mono ?_);(case pX=>exact nS (oG bO.out HB.out));(case pY=>exact bP.out);rintro e w' ⟨rfl,⟨nd,rfl⟩⟩;have aT:0<=((ax):Int):=nA;have aU:(ax)<(l3.length:Int):=nA;obtain⟨bR,bY,aO⟩:=oL ap.out (ax) aT aU;obtain rfl:br=bR:=(by injection bY);replace aO:=nE HB aO;replace aT:=eq_true aT;replace aU:=eq_true aU)|(go_at_call 47;(with_reducible refine(qD.calls ?pX ?pY dn.out).mono ?_);(case pX=>repeat(first|exact(oG bO.out (nC HB.out))|(with_reducible refine vS ?_ _)|(with_reducible refine vU ?_ _)|(with_reducible refine vT ?_)));(case pY=>exact bP.out);rintro e w' ⟨rfl,⟨nd,rfl⟩⟩)|(go_at_call 83;(with_reducible refine(uY.calls ?pX ?pY dO.out).mono ?_);(case pX=>repeat(first|exact(oG ap.out (nC HB.out))|(with_reducible refine vS ?_ _)|(with_reducible refine vU ?_ _)|(with_reducible refine vT ?_)));(case pY=>exact bQ.out);rintro e w' ⟨rfl,⟨nd,rfl⟩⟩))
     go_meet
     case rel=>exact⟨_,(false),(nP),H',⟨xu⟩,⟨nG ab.out⟩,⟨nC HB.out⟩⟩
    have H':=dm H;clear H;have aK:0<=(0:Int):=(by omega);have aL:0<(l3.length:Int):=nA;obtain⟨br,bA,ag⟩:=oL ap.out 0 aK aL;cases bA;have b7:(0<l3.length)=True:=eq_true (by omega);(try rw[show((0:Int)).toNat=0 from rfl]at ag);(try rw[Addr.add_zero']at ag);replace ag:=nE HB ag;replace aK:=eq_true aK;replace aL:=eq_true aL
    go_wp2_with (first|(go_at_call 47;(with_reducible refine(qD.calls ?pX ?pY cj.out).mono ?_);(case pX=>exact nS (oG bO.out HB.out));(case pY=>exact bP.out);rintro e w' ⟨rfl,⟨nd,rfl⟩⟩;have aT:0<=((ax):Int):=nA;have aU:(ax)<(l3.length:Int):=nA;obtain⟨bR,bY,aO⟩:=oL ap.out (ax) aT aU;obtain rfl:br=bR:=(by injection bY);replace aO:=nE HB aO;replace aT:=eq_true aT;replace aU:=eq_true aU)|(go_at_call 47;(with_reducible refine(qD.calls ?pX ?pY dn.out).mono ?_);(case pX=>repeat(first|exact(oG bO.out (nC HB.out))|(with_reducible refine vS ?_ _)|(with_reducible refine vU ?_ _)|(with_reducible refine vT ?_)));(case pY=>exact bP.out);rintro e w' ⟨rfl,⟨nd,rfl⟩⟩)|(go_at_call 83;(with_reducible refine(uY.calls ?pX ?pY dO.out).mono ?_);(case pX=>repeat(first|exact(oG ap.out (nC HB.out))|(with_reducible refine vS ?_ _)|(with_reducible refine vU ?_ _)|(with_reducible refine vT ?_)));(case pY=>exact bQ.out);rintro e w' ⟨rfl,⟨nd,rfl⟩⟩))
    go_meet
    case rel=>exact⟨_,(decide ((l3.length:Int)<4)),(nP),H',⟨xu⟩,⟨nG ab.out⟩,⟨nC HB.out⟩⟩
   have H':=dm H;clear H;have aK:0<=(0:Int):=(by omega);have aL:0<(l3.length:Int):=nA;obtain⟨br,bA,ag⟩:=oL ap.out 0 aK aL;cases bA;have b7:(0<l3.length)=True:=eq_true (by omega);(try rw[show((0:Int)).toNat=0 from rfl]at ag);(try rw[Addr.add_zero']at ag);replace ag:=nE HB ag;replace aK:=eq_true aK;replace aL:=eq_true aL
   go_wp2_with (first|(go_at_call 47;(with_reducible refine(qD.calls ?pX ?pY cj.out).mono ?_);(case pX=>exact nS (oG bO.out HB.out));(case pY=>exact bP.out);rintro e w' ⟨rfl,⟨nd,rfl⟩⟩;have aT:0<=((ax):Int):=nA;have aU:(ax)<(l3.length:Int):=nA;obtain⟨bR,bY,aO⟩:=oL ap.out (ax) aT aU;obtain rfl:br=bR:=(by injection bY);replace aO:=nE HB aO;replace aT:=eq_true aT;replace aU:=eq_true aU)|(go_at_call 47;(with_reducible refine(qD.calls ?pX ?pY dn.out).mono ?_);(case pX=>repeat(first|exact(oG bO.out (nC HB.out))|(with_reducible refine vS ?_ _)|(with_reducible refine vU ?_ _)|(with_reducible refine vT ?_)));(case pY=>exact bP.out);rintro e w' ⟨rfl,⟨nd,rfl⟩⟩))
   go_meet
   case rel=>exact⟨_,(true),(nP),H',⟨xu⟩,⟨nG ab.out⟩,⟨nC HB.out⟩⟩
  have H':=dm H;clear H;have aK:0<=(0:Int):=(by omega);have aL:0<(l3.length:Int):=nA;obtain⟨br,bA,ag⟩:=oL ap.out 0 aK aL;cases bA;have b7:(0<l3.length)=True:=eq_true (by omega);(try rw[show((0:Int)).toNat=0 from rfl]at ag);(try rw[Addr.add_zero']at ag);replace ag:=nE HB ag;replace aK:=eq_true aK;replace aL:=eq_true aL
  go_wp2_with (first|(go_at_call 47;refine(qD.calls (nS (oG bO.out HB.out)) bP.out cj.out).mono ?_;rintro e w' ⟨rfl,⟨nd,rfl⟩⟩))
  go_meet
  case rel=>exact⟨_,(true),(nP),H',⟨xu⟩,⟨nG ab.out⟩,⟨nC HB.out⟩⟩
 case rest=>
  clear dl;obtain⟨kq,bV,rfl,HA,bL,ab,HB⟩:=hcut;cases kq with
  |zero=>exact absurd HA.out (by simp[oP.j0])
  |succ dq=>
   have H:=HA.out;clear HA;simp only [oP.j0]at H
   rcases p8 H with⟨h_,H_⟩|⟨h_,H_⟩<;> (subst h_;clear H;have H:=H_;clear H_)
   ·obtain rfl:=Option.some.inj H
    go_wp2
    go_ret
    exact⟨qH,nC HB.out⟩
   have H':=dm H;clear H
   go_wp2
   go_loopg [11] dq (fun kq d7 w'=>∃ (aa:Int),d7=.int .i64 aa/\lm (oP.l0 kq l1 l2 l3 aa ae ac=some r)/\lm (kq<=dq)/\lm (w'.heap[ao]? =some (.cells #[.int .i64 ae,(.slice av ac.length aw)] 31 (0,0)))/\lm (Below w.heap.size w w'))
   case atStart=>exact⟨(0),(nP),H',⟨Nat.le_refl _⟩,⟨nG ab.out⟩,⟨nC HB.out⟩⟩
   case round=>
    clear H';(try clear ck);obtain⟨aa,rfl,HA,bM,ab,HB⟩:=hrel;cases gk with
    |zero=>exact absurd HA.out (by simp[oP.l0])
    |succ k2=>
     have H:=HA.out;clear HA;simp only [oP.l0]at H
     replace H:=p_ H;rcases H with⟨cN,H⟩|⟨cN,H⟩
     ·have co:=dm H;clear H
      go_upto_region 6 with(fail)
      go_cut [12] (fun d8 wc=>∃ (kq:Nat) (aY:Bool),d8=.bool aY/\lm (oP.j2 kq l1 l2 l3 aa aY ae ac=some r)/\lm (kq<=k2)/\lm (wc.heap[ao]? =some (.cells #[.int .i64 ae,(.slice av ac.length aw)] 31 (0,0)))/\lm (Below w.heap.size w wc))
      case first=>
       have H:=co.out;clear co
       replace H:=p_ H;rcases H with⟨bS,H⟩|⟨bS,H⟩
       ·(first|rw[bS]|(simp only [qw,qM];rw[bS])|skip);have H':=dm H;clear H
        go_wp2
        go_meet
        case rel=>exact⟨_,(decide ((wrap64 (aa+1))<(l3.length:Int))),(nP),H',⟨by have:=bL.out;have:=bM.out;first|omega|exact Nat.le_refl _⟩,⟨nG ab.out⟩,⟨nC HB.out⟩⟩
       (first|rw[bS]|(simp only [qw,qM];rw[bS])|skip);have H':=dm H;clear H
       go_wp2
       go_meet
       case rel=>exact⟨_,(false),(nP),H',⟨by have:=bL.out;have:=bM.out;first|omega|exact Nat.le_refl _⟩,⟨nG ab.out⟩,⟨nC HB.out⟩⟩
      case rest=>
       clear co;(try clear cN);obtain⟨kq,aY,rfl,HA,bz,ab,HB⟩:=hcut;cases kq with
       |zero=>exact absurd HA.out (by simp[oP.j2])
       |succ ai=>
        have H:=HA.out;clear HA;simp only [oP.j2]at H;have cp:=dm H;clear H
        go_upto_region 7 with(fail)
        go_cut [104] (fun dU wc=>∃ (kq:Nat) (bu:Bool),dU=.bool bu/\lm (oP.j3 kq l1 l2 l3 aa bu ae ac=some r)/\lm (kq<=ai)/\lm (wc.heap[ao]? =some (.cells #[.int .i64 ae,(.slice av ac.length aw)] 31 (0,0)))/\lm (Below w.heap.size w wc))
        case first=>
         have H:=cp.out;clear cp
         obtain⟨cP,H⟩:=oz H;(first|rw[cP]|(simp only [qw,qM];rw[cP])|skip)
         obtain⟨ei,H⟩:=oz H;obtain⟨b6,cS,H⟩:=oC H;(try dsimp only at H)
         rcases p8 H with⟨h_,H_⟩|⟨h_,H_⟩<;> (subst h_;clear H;have H:=H_;clear H_)
         ·skip
          rcases p8 H with⟨h_,H_⟩|⟨h_,H_⟩<;> (subst h_;clear H;have H:=H_;clear H_)
          ·obtain⟨aX,dP,H⟩:=oC H;(try dsimp only at H)
           rcases p8 H with⟨h_,H_⟩|⟨h_,H_⟩<;> (subst h_;clear H;have H:=H_;clear H_)
           ·have H':=dm H;clear H;try go_wp2
            replace ab:=dm (nZ ab.out);replace HB:=dm (pz HB.out);have aM:0<=(aa:Int):=nA;have aN:aa<(l3.length:Int):=nA;obtain⟨ay,bB,ah⟩:=oL ap.out aa aM aN;have am:=ah;cases bB;replace ah:=nE HB ah;replace aM:=eq_true aM;replace aN:=eq_true aN;have bC:0<=(aa:Int):=nA;have bD:aa<(l3.length:Int):=nA;obtain⟨b8,cq,aD⟩:=oL ap.out aa bC bD;have aP:=aD;obtain rfl:ay=b8:=(by injection cq);replace aD:=nE HB aD;replace bC:=eq_true bC;replace bD:=eq_true bD;refine qj 28 (S:=fun w'=>w'.cell? ⟨ao,0,none⟩=some (.int .i64 ae)/\w'.cell? ⟨ao,1,none⟩=some (.slice av ac.length aw)/\w'.cell? (ay.add (aa).toNat)=some (.int .i64 (rd l3 aa))/\w'.cell? (ay.add (aa).toNat)=some (.int .i64 (rd l3 aa))) [] ⟨nz ab 0,nz ab 1,(nE HB am),(nE HB aP)⟩ oP.uE oP.uz (fun hHeld HT_ HW_=>?_);generalize wc.drew=ex at ab HB ah aD hHeld⊢;refine lq 1 78 2 ?_;refine lq 2 79 6 ?_;refine lq 3 80 14 ?_;refine nR 0 77 15 ?_;refine nR 4 81 31 ?_;refine oO 5 82 63 (fun K hK=>?_);refine tX Try.func85 (rA.calls (nS (oG bp.out HB.out)) bq.out cS.out) ?_;intro ey hb;replace ab:=nD ab hb;replace HB:=nJ HB hb;(try clear hb);refine hK.out _ _ ⟨nz ab 0,nz ab 1,(nE HB am),(nE HB aP)⟩ (fun hHeld=>?_);clear hK K;refine og 82 ?_;refine lq 6 83 127 ?_;refine lq 7 84 255 ?_;refine lq 8 85 511 ?_;refine lq 9 86 1023 ?_;refine lq 10 87 2047 ?_;refine lq 11 88 4095 ?_;refine lq 12 89 8191 ?_;refine lq 13 90 16383 ?_;refine nR 14 91 32767 ?_;refine oO 15 92 65535 (fun K hK=>?_);refine qm Try.func47 (qD.calls (nS (oG bO.out HB.out)) bP.out dP.out) ?_;rintro e w' ⟨rfl,⟨nd,rfl⟩⟩;refine⟨_,rfl,?_⟩;refine hK.out _ _ ⟨nz ab 0,nz ab 1,(nE HB am),(nE HB aP)⟩ (fun hHeld=>?_);clear hK K;refine og 92 ?_;refine lq 16 93 131071 ?_;refine oN 17 94 262143 ?_;refine oN 18 95 524287 ?_;refine oN 19 96 1048575 ?_;refine oN 20 97 2097151 ?_;refine oN 21 98 4194303 ?_;refine oN 22 99 8388607 ?_;refine oN 23 100 16777215 ?_;refine oN 24 101 33554431 ?_;refine lq 25 102 67108863 ?_;refine lq 26 103 134217727 ?_;refine lq 27 104 268435455 ?_;refine qb (qf HT_.out (ou)) ?_;try go_wp2
            go_meet
            case rel=>exact⟨_,(true),(nP),H',⟨BV⟩,⟨nG ab.out⟩,⟨nC HB.out⟩⟩
           have ej:=eq_true (of_decide_eq_true (xn):0<=aa)
           obtain⟨cl,H⟩:=qg H;have ek:=eq_true cl;have el:=decide_eq_true cl;clear cl;obtain⟨aI,d9,H⟩:=oC H;(try dsimp only at H);have H':=dm H;clear H;try go_wp2
           replace ab:=dm (nZ ab.out);replace HB:=dm (pz HB.out);have aM:0<=(aa:Int):=nA;have aN:aa<(l3.length:Int):=nA;obtain⟨ay,bB,ah⟩:=oL ap.out aa aM aN;have am:=ah;cases bB;replace ah:=nE HB ah;replace aM:=eq_true aM;replace aN:=eq_true aN;have bC:0<=(aa:Int):=nA;have bD:aa<(l3.length:Int):=nA;obtain⟨b8,cq,aD⟩:=oL ap.out aa bC bD;have aP:=aD;obtain rfl:ay=b8:=(by injection cq);replace aD:=nE HB aD;replace bC:=eq_true bC;replace bD:=eq_true bD;have cr:0<=(aa:Int):=nA;have ct:aa<(l3.length:Int):=nA;obtain⟨dx,dV,bv⟩:=oL ap.out aa cr ct;have bx:=bv;obtain rfl:ay=dx:=(by injection dV);replace bv:=nE HB bv;replace cr:=eq_true cr;replace ct:=eq_true ct;refine qj 28 (S:=fun w'=>w'.cell? ⟨ao,0,none⟩=some (.int .i64 ae)/\w'.cell? ⟨ao,1,none⟩=some (.slice av ac.length aw)/\w'.cell? (ay.add (aa).toNat)=some (.int .i64 (rd l3 aa))/\w'.cell? (ay.add (aa).toNat)=some (.int .i64 (rd l3 aa))/\w'.cell? (ay.add (aa).toNat)=some (.int .i64 (rd l3 aa))) [] ⟨nz ab 0,nz ab 1,(nE HB am),(nE HB aP),(nE HB bx)⟩ oP.uE oP.uz (fun hHeld HT_ HW_=>?_);generalize wc.drew=ez at ab HB ah aD bv hHeld⊢;refine lq 1 78 2 ?_;refine lq 2 79 6 ?_;refine lq 3 80 14 ?_;refine nR 0 77 15 ?_;refine nR 4 81 31 ?_;refine oO 5 82 63 (fun K hK=>?_);refine tX Try.func85 (rA.calls (nS (oG bp.out HB.out)) bq.out cS.out) ?_;intro eA hb;replace ab:=nD ab hb;replace HB:=nJ HB hb;(try clear hb);refine hK.out _ _ ⟨nz ab 0,nz ab 1,(nE HB am),(nE HB aP),(nE HB bx)⟩ (fun hHeld=>?_);clear hK K;refine og 82 ?_;refine lq 6 83 127 ?_;refine lq 7 84 255 ?_;refine lq 8 85 511 ?_;refine lq 9 86 1023 ?_;refine lq 10 87 2047 ?_;refine lq 11 88 4095 ?_;refine lq 12 89 8191 ?_;refine lq 13 90 16383 ?_;refine nR 14 91 32767 ?_;refine oO 15 92 65535 (fun K hK=>?_);refine qm Try.func47 (qD.calls (nS (oG bO.out HB.out)) bP.out dP.out) ?_;rintro e w' ⟨rfl,⟨nd,rfl⟩⟩;refine⟨_,rfl,?_⟩;obtain⟨ev,cX,_,cY,_⟩:=info_parts info3;obtain⟨d_,dr,dt⟩:=CW (P:=Try.prog) (Value.int .i64) 0 45 3 .i64 Try.underlying45 cX cY (some ay) c3 l3 aa nA nA bQ.out;have dy:=dm (zz (h1:=fun _=>rfl) (dr _ (yz ap.out)));have dz:=dm dt;clear dr dt cX cY;refine hK.out _ _ ⟨nz ab 0,nz ab 1,(nE HB am),(nE HB aP),(nE HB bx)⟩ (fun hHeld=>?_);clear hK K;refine og 92 ?_;refine lq 16 93 131071 ?_;refine lq 17 94 262143 ?_;refine lq 18 95 524287 ?_;refine lq 19 96 1048575 ?_;refine lq 20 97 2097151 ?_;refine lq 21 98 4194303 ?_;refine lq 22 99 8388607 ?_;refine nR 23 100 16777215 ?_;refine oO 24 101 33554431 (fun K hK=>?_);refine uq Try.func47 (ou) rfl #[.slice (some ay) (l3.take (aa:Int).toNat).length c3,.int .i64 (rd l3 aa)] (by rfl) rfl rfl (by(try simp only [List.map_toArray,List.map_cons,List.map_nil]);first|done|(rw[show(l3.take (aa:Int).toNat).length=aa.toNat from(by rw[List.length_take];have h_:(aa:Int)<=(l3.length:Int):=nA;omega)]<;>rfl)|rfl|(simp only [List.length_drop,List.length_take];rfl)) ?_;with_reducible refine(qD.calls ?pX ?pY d9.out).mono ?_
           (case pX=>repeat(first|exact(oG dy.out (nC HB.out))|(with_reducible refine vS ?_ _)|(with_reducible refine vU ?_ _)|(with_reducible refine vT ?_)));(case pY=>exact dz.out);rintro e w' ⟨rfl,⟨nd,rfl⟩⟩;refine⟨_,rfl,?_⟩;refine hK.out _ _ ⟨nz ab 0,nz ab 1,(nE HB am),(nE HB aP),(nE HB bx)⟩ (fun hHeld=>?_);clear hK K;refine og 101 ?_;refine lq 25 102 67108863 ?_;refine lq 26 103 134217727 ?_;refine lq 27 104 268435455 ?_;refine qb (qf HT_.out (ou)) ?_;try go_wp2
           go_meet
           case rel=>exact⟨_,(aI),(nP),H',⟨BV⟩,⟨nG ab.out⟩,⟨nC HB.out⟩⟩
          have H':=dm H;clear H;try go_wp2
          replace ab:=dm (nZ ab.out);replace HB:=dm (pz HB.out);have aM:0<=(aa:Int):=nA;have aN:aa<(l3.length:Int):=nA;obtain⟨ay,bB,ah⟩:=oL ap.out aa aM aN;have am:=ah;cases bB;replace ah:=nE HB ah;replace aM:=eq_true aM;replace aN:=eq_true aN;refine qj 28 (S:=fun w'=>w'.cell? ⟨ao,0,none⟩=some (.int .i64 ae)/\w'.cell? ⟨ao,1,none⟩=some (.slice av ac.length aw)/\w'.cell? (ay.add (aa).toNat)=some (.int .i64 (rd l3 aa))) [] ⟨nz ab 0,nz ab 1,(nE HB am)⟩ oP.uE oP.uz (fun hHeld HT_ HW_=>?_);generalize wc.drew=eB at ab HB ah hHeld⊢;refine lq 1 78 2 ?_;refine lq 2 79 6 ?_;refine lq 3 80 14 ?_;refine nR 0 77 15 ?_;refine nR 4 81 31 ?_;refine oO 5 82 63 (fun K hK=>?_);refine tX Try.func85 (rA.calls (nS (oG bp.out HB.out)) bq.out cS.out) ?_;intro eC hb;replace ab:=nD ab hb;replace HB:=nJ HB hb;(try clear hb);refine hK.out _ _ ⟨nz ab 0,nz ab 1,(nE HB am)⟩ (fun hHeld=>?_);clear hK K;refine og 82 ?_;refine lq 6 83 127 ?_;refine lq 7 84 255 ?_;refine lq 8 85 511 ?_;refine lq 9 86 1023 ?_;refine oN 10 87 2047 ?_;refine oN 11 88 4095 ?_;refine oN 12 89 8191 ?_;refine oN 13 90 16383 ?_;refine oN 14 91 32767 ?_;refine oN 15 92 65535 ?_;refine oN 16 93 131071 ?_;refine oN 17 94 262143 ?_;refine oN 18 95 524287 ?_;refine oN 19 96 1048575 ?_;refine oN 20 97 2097151 ?_;refine oN 21 98 4194303 ?_;refine oN 22 99 8388607 ?_;refine oN 23 100 16777215 ?_;refine oN 24 101 33554431 ?_;refine oN 25 102 67108863 ?_;refine lq 26 103 134217727 ?_;refine lq 27 104 268435455 ?_;refine qb (qf HT_.out (ou)) ?_;try go_wp2
          go_meet
          case rel=>exact⟨_,(false),(nP),H',⟨BV⟩,⟨nG ab.out⟩,⟨nC HB.out⟩⟩
         have H':=dm H;clear H;try go_wp2
         replace ab:=dm (nZ ab.out);replace HB:=dm (pz HB.out);have aM:0<=(aa:Int):=nA;have aN:aa<(l3.length:Int):=nA;obtain⟨ay,bB,ah⟩:=oL ap.out aa aM aN;have am:=ah;cases bB;replace ah:=nE HB ah;replace aM:=eq_true aM;replace aN:=eq_true aN;refine qj 28 (S:=fun w'=>w'.cell? ⟨ao,0,none⟩=some (.int .i64 ae)/\w'.cell? ⟨ao,1,none⟩=some (.slice av ac.length aw)/\w'.cell? (ay.add (aa).toNat)=some (.int .i64 (rd l3 aa))) [] ⟨nz ab 0,nz ab 1,(nE HB am)⟩ oP.uE oP.uz (fun hHeld HT_ HW_=>?_);generalize wc.drew=eD at ab HB ah hHeld⊢;refine lq 1 78 2 ?_;refine lq 2 79 6 ?_;refine lq 3 80 14 ?_;refine nR 0 77 15 ?_;refine nR 4 81 31 ?_;refine oO 5 82 63 (fun K hK=>?_);refine tX Try.func85 (rA.calls (nS (oG bp.out HB.out)) bq.out cS.out) ?_;intro eE hb;replace ab:=nD ab hb;replace HB:=nJ HB hb;(try clear hb);refine hK.out _ _ ⟨nz ab 0,nz ab 1,(nE HB am)⟩ (fun hHeld=>?_);clear hK K;refine og 82 ?_;refine lq 6 83 127 ?_;refine lq 7 84 255 ?_;refine oN 8 85 511 ?_;refine oN 9 86 1023 ?_;refine oN 10 87 2047 ?_;refine oN 11 88 4095 ?_;refine oN 12 89 8191 ?_;refine oN 13 90 16383 ?_;refine oN 14 91 32767 ?_;refine oN 15 92 65535 ?_;refine oN 16 93 131071 ?_;refine oN 17 94 262143 ?_;refine oN 18 95 524287 ?_;refine oN 19 96 1048575 ?_;refine oN 20 97 2097151 ?_;refine oN 21 98 4194303 ?_;refine oN 22 99 8388607 ?_;refine oN 23 100 16777215 ?_;refine oN 24 101 33554431 ?_;refine oN 25 102 67108863 ?_;refine oN 26 103 134217727 ?_;refine lq 27 104 268435455 ?_;refine qb (qf HT_.out (ou)) ?_;try go_wp2
         go_meet
         case rel=>exact⟨_,(true),(nP),H',⟨BV⟩,⟨nG ab.out⟩,⟨nC HB.out⟩⟩
        case rest=>
         clear cp;obtain⟨kq,bu,rfl,HA,bT,ab,HB⟩:=hcut;cases kq with
         |zero=>exact absurd HA.out (by simp[oP.j3])
         |succ aS=>
          have H:=HA.out;clear HA;simp only [oP.j3]at H
          rcases p8 H with⟨h_,H_⟩|⟨h_,H_⟩<;> (subst h_;clear H;have H:=H_;clear H_)
          ·obtain rfl:=Option.some.inj H
           go_wp2
           go_ret
           exact⟨qH,nC HB.out⟩
          skip
          by_cases bU:aa=0
          ·rw[if_pos bU]at H;have cZ:=beq_iff_eq.mpr bU;have c_:=bne_eq_false_iff_eq.mpr bU;clear bU;have H':=dm H;clear H
           go_wp2
           go_roundg aS
           case measure=>have:=bL.out;have:=bM.out;have:=bz.out;have:=bT.out;omega
           case rel=>exact⟨(wrap64 (aa+1)),(nP),H',⟨by have:=bL.out;have:=bM.out;have:=bz.out;have:=bT.out;omega⟩,⟨nG ab.out⟩,⟨nC HB.out⟩⟩
          rw[if_neg bU]at H;have cZ:=beq_eq_false_iff_ne.mpr bU;have c_:=bne_iff_ne.mpr bU;obtain⟨aq,ba⟩:∃j_:Int,(wrap64 (aa - 1))=j_:=⟨_,rfl⟩;replace H:(if 0<=(aq) then(if(aq)<(l3.length:Int) then(if 0<=aa then(if aa<(l3.length:Int) then((vJ.f aS ae ac (rd l3 (aq)) (rd l3 aa)).bind fun bf=>(if bf=true then(oP.l1 aS l1 l2 l3 aa 0 ae ac) else(some false))) else(none)) else(none)) else(none)) else(none))=some r:=by first|(rw[ba]at H;exact H)|(simp only [ba]at H⊢;exact H)
          have du:(IntKind.i64.wrap (aa - 1))=aq:=(qw _).trans ba
          obtain⟨dA,H⟩:=oz H
          obtain⟨dB,H⟩:=oz H
          obtain⟨dC,H⟩:=oz H
          obtain⟨dD,H⟩:=oz H;obtain⟨bf,dQ,H⟩:=oC H;(try dsimp only at H)
          rcases p8 H with⟨h_,H_⟩|⟨h_,H_⟩<;> (subst h_;clear H;have H:=H_;clear H_)
          ·have H':=dm H;clear H;try go_wp2
           replace ab:=dm (nZ ab.out);replace HB:=dm (pz HB.out);have bk:0<=((aq):Int):=nA;have bl:(aq)<(l3.length:Int):=nA;obtain⟨az,cu,aA⟩:=oL ap.out (aq) bk bl;have aZ:=aA;cases cu;replace aA:=nE HB aA;replace bk:=eq_true bk;replace bl:=eq_true bl;have bm:0<=(aa:Int):=nA;have bn:aa<(l3.length:Int):=nA;obtain⟨b9,cv,aB⟩:=oL ap.out aa bm bn;have a6:=aB;obtain rfl:az=b9:=(by injection cv);replace aB:=nE HB aB;replace bm:=eq_true bm;replace bn:=eq_true bn;refine qj 12 (S:=fun w'=>w'.cell? ⟨ao,0,none⟩=some (.int .i64 ae)/\w'.cell? ⟨ao,1,none⟩=some (.slice av ac.length aw)/\w'.cell? (az.add ((aq)).toNat)=some (.int .i64 (rd l3 (aq)))/\w'.cell? (az.add (aa).toNat)=some (.int .i64 (rd l3 aa))) [] ⟨nz ab 0,nz ab 1,(nE HB aZ),(nE HB a6)⟩ oP.Da oP.BM (fun hHeld HT_ HW_=>?_);generalize wc.drew=eF at ab HB aA aB hHeld⊢;refine lq 1 108 2 ?_;refine lq 2 109 6 ?_;refine lq 3 110 14 ?_;refine lq 4 111 30 ?_;refine lq 6 113 94 ?_;refine lq 7 114 222 ?_;refine lq 8 115 478 ?_;refine nR 0 107 479 ?_;refine nR 5 112 511 ?_;refine nR 9 116 1023 ?_;refine oO 10 117 2047 (fun K hK=>?_);refine uq Try.func86 (ou) rfl #[.agg #[.int .i64 ae,.slice av ac.length aw],.int .i64 (rd l3 (aq)),.int .i64 (rd l3 aa)] (by rfl) rfl rfl (F9) ?_;refine(vJ.calls (nS (oG bp.out HB.out)) bq.out dQ.out).mono ?_;rintro e eG ⟨rfl,hb⟩;refine⟨_,rfl,?_⟩;replace ab:=nD ab hb;replace HB:=nJ HB hb;(try clear hb);refine hK.out _ _ ⟨nz ab 0,nz ab 1,(nE HB aZ),(nE HB a6)⟩ (fun hHeld=>?_);clear hK K;refine og 117 ?_;refine lq 11 118 4095 ?_;refine qb (qf HT_.out (ou)) ?_;try go_wp2
           go_loopg [13] aS (fun kq ea w'=>∃ (af:Int),ea=.int .i64 af/\lm (oP.l1 kq l1 l2 l3 aa af ae ac=some r)/\lm (kq<=aS)/\lm (w'.heap[ao]? =some (.cells #[.int .i64 ae,(.slice av ac.length aw)] 31 (0,0)))/\lm (Below w.heap.size w w'))
           case atStart=>exact⟨(0),(nP),H',⟨Nat.le_refl _⟩,⟨nG ab.out⟩,⟨nC HB.out⟩⟩
           case round=>
            clear H';(try clear cm bU cZ c_ dA dB dC dD cn aA aB bk bm bl bn);obtain⟨af,rfl,HA,df,ab,HB⟩:=hrel;cases gk with
            |zero=>exact absurd HA.out (by simp[oP.l1])
            |succ k5=>
             have H:=HA.out;clear HA;simp only [oP.l1]at H
             replace H:=p_ H;rcases H with⟨dE,H⟩|⟨dE,H⟩
             ·skip
              obtain⟨em,H⟩:=oz H;obtain⟨au,bK⟩:∃j_:Int,(wrap64 (aa - 1))=j_:=⟨_,rfl⟩;replace H:(if 0<=(au) then(if(au)<(l3.length:Int) then(if 0<=aa then(if aa<(l3.length:Int) then((tJ.f (rd l3 (au)) (rd l3 aa)).bind fun bN=>(if(((nk l1 af).f0)==bN.1&&(((nk l1 af).f1)==bN.2))=true then(some false) else(oP.l1 k5 l1 l2 l3 aa (wrap64 (af+1)) ae ac))) else(none)) else(none)) else(none)) else(none))=some r:=by first|(rw[bK]at H;exact H)|(simp only [bK]at H⊢;exact H)
              have eb:(IntKind.i64.wrap (aa - 1))=au:=(qw _).trans bK;clear ba du
              obtain⟨en,H⟩:=oz H
              obtain⟨eo,H⟩:=oz H
              obtain⟨ep,H⟩:=oz H
              obtain⟨eq,H⟩:=oz H;obtain⟨⟨aV,aW⟩,dR,H⟩:=oC H;(try dsimp only at H)
              by_cases bo:(((nk l1 af).f0)==aV&&(((nk l1 af).f1)==aW))=true
              ·rw[if_pos bo]at H;have dF:(((nk l1 af).f0)==aV&&(((nk l1 af).f1)==aW))=true:=bo;(try(have dG:decide (((nk l1 af).f0)=aV&&(((nk l1 af).f1)==aW))=true:=by simpa using bo));(try(have dH:(((nk l1 af).f0)==aV&&(((nk l1 af).f1)==aW))=true:=by simpa using bo));clear bo;obtain rfl:=Option.some.inj H;try go_wp2
               replace ab:=dm (nZ ab.out);replace HB:=dm (pz HB.out);have bE:0<=(af:Int):=nA;have bF:af<(l1.length:Int):=nA;obtain⟨bd,cw,aE,aF⟩:=qJ dM.out af bE bF;have a7:=aF;have a8:=aE;cases cw;replace aE:=nE HB aE;replace aF:=nE HB aF;replace bE:=eq_true bE;replace bF:=eq_true bF;have bG:0<=((au):Int):=nA;have bH:(au)<(l3.length:Int):=nA;obtain⟨b_,cx,aG⟩:=oL ap.out (au) bG bH;have a9:=aG;obtain rfl:az=b_:=(by injection cx);replace aG:=nE HB aG;replace bG:=eq_true bG;replace bH:=eq_true bH;have bI:0<=(aa:Int):=nA;have bJ:aa<(l3.length:Int):=nA;obtain⟨ca,cy,aH⟩:=oL ap.out aa bI bJ;have a_:=aH;obtain rfl:az=ca:=(by injection cy);replace aH:=nE HB aH;replace bI:=eq_true bI;replace bJ:=eq_true bJ;refine qj 15 (S:=fun w'=>w'.cell? (bd.add ((af).toNat*2))=some (.int .i64 ((nk l1 af).f0))/\w'.cell? ⟨(bd.add ((af).toNat*2)).block,(bd.add ((af).toNat*2)).off+1,none⟩=some (.int .i64 ((nk l1 af).f1))/\w'.cell? (az.add ((au)).toNat)=some (.int .i64 (rd l3 (au)))/\w'.cell? (az.add (aa).toNat)=some (.int .i64 (rd l3 aa))) [] ⟨(nE HB a8),(nE HB a7),(nE HB a9),(nE HB a_)⟩ oP.Dc oP.BO (fun hHeld HT_ HW_=>?_);generalize wr.drew=eH at ab HB aE aF aG aH hHeld⊢;refine lq 0 125 1 ?_;refine lq 1 126 3 ?_;refine lq 2 127 7 ?_;refine lq 4 129 23 ?_;refine lq 5 130 55 ?_;refine lq 6 131 119 ?_;refine lq 7 132 247 ?_;refine lq 9 134 759 ?_;refine lq 10 135 1783 ?_;refine lq 11 136 3831 ?_;refine nR 3 128 3839 ?_;refine nR 8 133 4095 ?_;refine nR 12 137 8191 ?_;refine oO 13 138 16383 (fun K hK=>?_);refine uq Try.func46 (ou) rfl #[.int .i64 (rd l3 (au)),.int .i64 (rd l3 aa)] (by rfl) rfl rfl (F_) ?_;refine(tJ.calls dR.out).mono ?_;rintro e eI ⟨rfl,hb⟩;refine⟨_,rfl,?_⟩;replace ab:=nD ab hb;replace HB:=nJ HB hb;(try clear hb);refine hK.out _ _ ⟨(nE HB a8),(nE HB a7),(nE HB a9),(nE HB a_)⟩ (fun hHeld=>?_);clear hK K;refine og 138 ?_;refine lq 14 139 32767 ?_;refine qb (qf HT_.out (ou)) ?_;try go_wp2
               go_ret
               exact⟨by first|rfl|(simp[rE,rF]<;>rfl)|(simp only [←ba,←bK];first|rfl|(simp[rE,rF]<;>rfl))|(simp[*,rE,rF]<;>rfl),nC HB.out⟩
              rw[if_neg bo]at H;have dF:(((nk l1 af).f0)==aV&&(((nk l1 af).f1)==aW))=false:=by simpa using bo
              (try(have dG:decide (((nk l1 af).f0)=aV&&(((nk l1 af).f1)==aW))=false:=by simpa using bo));(try(have dH:(((nk l1 af).f0)==aV&&(((nk l1 af).f1)==aW))=false:=by simpa using bo));(try(have es:¬ (((nk l1 af).f0)=aV&&(((nk l1 af).f1)==aW)):=by simpa using bo));clear bo;have H':=dm H;clear H;try go_wp2
              replace ab:=dm (nZ ab.out);replace HB:=dm (pz HB.out);have bE:0<=(af:Int):=nA;have bF:af<(l1.length:Int):=nA;obtain⟨bd,cw,aE,aF⟩:=qJ dM.out af bE bF;have a7:=aF;have a8:=aE;cases cw;replace aE:=nE HB aE;replace aF:=nE HB aF;replace bE:=eq_true bE;replace bF:=eq_true bF;have bG:0<=((au):Int):=nA;have bH:(au)<(l3.length:Int):=nA;obtain⟨b_,cx,aG⟩:=oL ap.out (au) bG bH;have a9:=aG;obtain rfl:az=b_:=(by injection cx);replace aG:=nE HB aG;replace bG:=eq_true bG;replace bH:=eq_true bH;have bI:0<=(aa:Int):=nA;have bJ:aa<(l3.length:Int):=nA;obtain⟨ca,cy,aH⟩:=oL ap.out aa bI bJ;have a_:=aH;obtain rfl:az=ca:=(by injection cy);replace aH:=nE HB aH;replace bI:=eq_true bI;replace bJ:=eq_true bJ;refine qj 15 (S:=fun w'=>w'.cell? (bd.add ((af).toNat*2))=some (.int .i64 ((nk l1 af).f0))/\w'.cell? ⟨(bd.add ((af).toNat*2)).block,(bd.add ((af).toNat*2)).off+1,none⟩=some (.int .i64 ((nk l1 af).f1))/\w'.cell? (az.add ((au)).toNat)=some (.int .i64 (rd l3 (au)))/\w'.cell? (az.add (aa).toNat)=some (.int .i64 (rd l3 aa))) [] ⟨(nE HB a8),(nE HB a7),(nE HB a9),(nE HB a_)⟩ oP.Dc oP.BO (fun hHeld HT_ HW_=>?_);generalize wr.drew=eJ at ab HB aE aF aG aH hHeld⊢;refine lq 0 125 1 ?_;refine lq 1 126 3 ?_;refine lq 2 127 7 ?_;refine lq 4 129 23 ?_;refine lq 5 130 55 ?_;refine lq 6 131 119 ?_;refine lq 7 132 247 ?_;refine lq 9 134 759 ?_;refine lq 10 135 1783 ?_;refine lq 11 136 3831 ?_;refine nR 3 128 3839 ?_;refine nR 8 133 4095 ?_;refine nR 12 137 8191 ?_;refine oO 13 138 16383 (fun K hK=>?_);refine uq Try.func46 (ou) rfl #[.int .i64 (rd l3 (au)),.int .i64 (rd l3 aa)] (by rfl) rfl rfl (F_) ?_;refine(tJ.calls dR.out).mono ?_;rintro e eK ⟨rfl,hb⟩;refine⟨_,rfl,?_⟩;replace ab:=nD ab hb;replace HB:=nJ HB hb;(try clear hb);refine hK.out _ _ ⟨(nE HB a8),(nE HB a7),(nE HB a9),(nE HB a_)⟩ (fun hHeld=>?_);clear hK K;refine og 138 ?_;refine lq 14 139 32767 ?_;refine qb (qf HT_.out (ou)) ?_;try go_wp2
              go_roundg k5
              case measure=>have:=bL.out;have:=bM.out;have:=bz.out;have:=bT.out;have:=df.out;omega
              case rel=>exact⟨(wrap64 (af+1)),(nP),H',⟨by have:=bL.out;have:=bM.out;have:=bz.out;have:=bT.out;have:=df.out;omega⟩,⟨nG ab.out⟩,⟨nC HB.out⟩⟩
             have H':=dm H;clear H
             go_wp2
             go_roundg k5
             case measure=>have:=bL.out;have:=bM.out;have:=bz.out;have:=bT.out;have:=df.out;omega
             case rel=>exact⟨(wrap64 (aa+1)),(nP),H',⟨by have:=bL.out;have:=bM.out;have:=bz.out;have:=bT.out;have:=df.out;omega⟩,⟨nG ab.out⟩,⟨nC HB.out⟩⟩
          obtain rfl:=Option.some.inj H;try go_wp2
          replace ab:=dm (nZ ab.out);replace HB:=dm (pz HB.out);have bk:0<=((aq):Int):=nA;have bl:(aq)<(l3.length:Int):=nA;obtain⟨az,cu,aA⟩:=oL ap.out (aq) bk bl;have aZ:=aA;cases cu;replace aA:=nE HB aA;replace bk:=eq_true bk;replace bl:=eq_true bl;have bm:0<=(aa:Int):=nA;have bn:aa<(l3.length:Int):=nA;obtain⟨b9,cv,aB⟩:=oL ap.out aa bm bn;have a6:=aB;obtain rfl:az=b9:=(by injection cv);replace aB:=nE HB aB;replace bm:=eq_true bm;replace bn:=eq_true bn;refine qj 12 (S:=fun w'=>w'.cell? ⟨ao,0,none⟩=some (.int .i64 ae)/\w'.cell? ⟨ao,1,none⟩=some (.slice av ac.length aw)/\w'.cell? (az.add ((aq)).toNat)=some (.int .i64 (rd l3 (aq)))/\w'.cell? (az.add (aa).toNat)=some (.int .i64 (rd l3 aa))) [] ⟨nz ab 0,nz ab 1,(nE HB aZ),(nE HB a6)⟩ oP.Da oP.BM (fun hHeld HT_ HW_=>?_);generalize wc.drew=eL at ab HB aA aB hHeld⊢;refine lq 1 108 2 ?_;refine lq 2 109 6 ?_;refine lq 3 110 14 ?_;refine lq 4 111 30 ?_;refine lq 6 113 94 ?_;refine lq 7 114 222 ?_;refine lq 8 115 478 ?_;refine nR 0 107 479 ?_;refine nR 5 112 511 ?_;refine nR 9 116 1023 ?_;refine oO 10 117 2047 (fun K hK=>?_);refine uq Try.func86 (ou) rfl #[.agg #[.int .i64 ae,.slice av ac.length aw],.int .i64 (rd l3 (aq)),.int .i64 (rd l3 aa)] (by rfl) rfl rfl (F9) ?_;refine(vJ.calls (nS (oG bp.out HB.out)) bq.out dQ.out).mono ?_;rintro e eM ⟨rfl,hb⟩;refine⟨_,rfl,?_⟩;replace ab:=nD ab hb;replace HB:=nJ HB hb;(try clear hb);refine hK.out _ _ ⟨nz ab 0,nz ab 1,(nE HB aZ),(nE HB a6)⟩ (fun hHeld=>?_);clear hK K;refine og 117 ?_;refine lq 11 118 4095 ?_;refine qb (qf HT_.out (ou)) ?_;try go_wp2
          go_ret
          exact⟨by first|rfl|(simp[rE,rF]<;>rfl)|(simp only [←ba];first|rfl|(simp[rE,rF]<;>rfl))|(simp[*,rE,rF]<;>rfl),nC HB.out⟩
     obtain rfl:=Option.some.inj H
     go_wp2
     go_ret
     exact⟨qH,nC HB.out⟩
theorem Ga(h:p:=by(try simp only [List.map_toArray,List.map_cons,List.map_nil]);first|done|(simp only [cf];rfl)|rfl|(simp only [List.length_drop,List.length_take];rfl)):p:=h
theorem Av(h:p:=by have:=co.out;have:=cp.out;have:=cq.out;omega):p:=h
mutual
def qa.j0:Nat->List (List Int)->Bool->Int->List (S59)->Option (Bool)
 |0,_,_,_,_=>none
 |k+1,x1,fp,ap,aq=>if fp=true then(some false) else(qa.l0 k x1 (([]:List (S59))) (([]:List Int)) 0 ap aq)
def qa.l0:Nat->List (List Int)->List (S59)->List Int->Int->Int->List (S59)->Option (Bool)
 |0,_,_,_,_,_,_=>none
 |k+1,x1,x5,x6,x7,ap,aq=>if x7<(x1.length:Int) then(if 0<=x7 then((oP.f k ap aq x5 x6 (nO x1 x7) (x7==0)).bind fun cD=>(if cD=true then(qa.l1 k x1 x5 x6 x7 0 ap aq) else(some false))) else(none)) else(if(x5.length:Int)=(aq.length:Int) then(some ((x6.length:Int)==ap)) else(some false))
def qa.l1:Nat->List (List Int)->List (S59)->List Int->Int->Int->Int->List (S59)->Option (Bool)
 |0,_,_,_,_,_,_,_=>none
 |k+1,x1,x5,x6,x7,x8,ap,aq=>if 0<=x7 then(if x7<(x1.length:Int) then(if x8<((nO x1 x7).length:Int) then(if x8>0 then(if 0<=(wrap64 (x8 - 1)) then(if(wrap64 (x8 - 1))<((nO x1 x7).length:Int) then(if 0<=x8 then((tJ.f (rd (nO x1 x7) (wrap64 (x8 - 1))) (rd (nO x1 x7) x8)).bind fun bV=>(if x5.length<8796093022208 then((some (x5++[(⟨bV.1,bV.2⟩:S59)]:List (S59))).bind fun aG=>((qD.f k x6 (rd (nO x1 x7) x8)).bind fun aY=>(if aY=true then(qa.l1 k x1 aG x6 x7 (wrap64 (x8+1)) ap aq) else(if x6.length<17592186044416 then(qa.l1 k x1 aG (x6++[rd (nO x1 x7) x8]) x7 (wrap64 (x8+1)) ap aq) else(none))))) else(none))) else(none)) else(none)) else(none)) else(if 0<=x8 then((qD.f k x6 (rd (nO x1 x7) x8)).bind fun cE=>(if cE=true then(qa.l1 k x1 x5 x6 x7 (wrap64 (x8+1)) ap aq) else(if x6.length<17592186044416 then(qa.l1 k x1 x5 (x6++[rd (nO x1 x7) x8]) x7 (wrap64 (x8+1)) ap aq) else(none)))) else(none))) else(qa.l0 k x1 x5 x6 (wrap64 (x7+1)) ap aq)) else(none)) else(none)
end
def qa.f (k:Nat) (ag:Int) (ae:List (S59)) (l1:List (List Int)):Option (Bool):=(qh.f k ag ae).bind fun b8=>(if b8=true then(if(l1.length:Int)<1 then(qa.j0 k l1 true ag ae) else(qa.j0 k l1 (decide ((l1.length:Int)> (ae.length:Int))) ag ae)) else(qa.j0 k l1 true ag ae))
def qa.T8:Bool×List (List Nat×List Nat):=(true,[([],[]),([],[]),([],[]),([],[]),([],[]),([3,4],[3,4]),([5],[5]),([],[]),([7],[7]),([0,1,2,6,8],[0,1,2,6,8]),([9],[9])])
def qa.B8:List Nat:=[0,0,0,0,0,24,56,0,128,511,1023]
theorem qa.yE:qx .any (opsOf Try.f16 8)=qa.T8:=by kernel_rfl
theorem qa.yg:qW qa.T8.2 qa.B8=true:=by kernel_rfl
def qa.T14:Bool×List (List Nat×List Nat):=(true,[([],[]),([],[]),([],[]),([1,2],[1,2]),([3],[3]),([],[]),([5],[5]),([4,6],[4,6]),([7],[7]),([],[]),([],[]),([9,10],[9,10]),([11],[11]),([],[]),([12,13],[12,13]),([14],[14]),([8,15],[8,15]),([16],[16]),([0,17,16],[0,17]),([18,18,0,1,2,3,4,5,6,7,8,9,10,11,12,13,14,15,16,17,18],[0,18])])
def qa.B14:List Nat:=[0,0,0,6,14,0,32,126,254,0,0,1536,3584,0,15872,32256,65534,131070,262143,524287]
theorem qa.zw:qx .any (opsOf Try.f16 14)=qa.T14:=by kernel_rfl
theorem qa.yO:qW qa.T14.2 qa.B14=true:=by kernel_rfl
theorem qa.calls {k:Nat}{ag:Int}{aN:Option Addr}{aQ:Nat}{ae:List (S59)}{A1:Option Addr}{c1:Nat}{l1:List (List Int)}{r:Bool}{w:World}(dk:Kd.C k59 w aN ae.length ae)(dl:ae.length<=aQ)(hr1:Kd.C (Kd.slice 3 (Kd.int .i64)) w A1 l1.length l1)(ev:l1.length<=c1)(h:qa.f k ag ae l1=some r):
  Calls Try.prog 16 #[.agg #[.int .i64 ag,.slice aN ae.length aQ],.slice A1 l1.length c1] w fun e w'=>e=.returned (.bool r)/\Below w.heap.size w w':=by
 have fN:=Try.underlying31;have bW:=dm dk;have bX:=dm dl;clear dk dl;have aT:=dm hr1;have fY:=dm ev;clear hr1 ev;have HB:=dm (Below.refl w.heap.size w);unfold qa.f at h;have H:=h;clear h;have dN:=dm H;clear H
 go_enter Try.func16,Try.ntmps16
 go_upto_region 1 with(first|((with_reducible refine nT 2 rfl ?_);(try(refine rQ (by rfl) ?_;dsimp only));refine vG 2 #[.int .i64 ag,.slice aN ae.length aQ] 31 ?_;intro aU hg w4 nu hb;have ab:=dm (nu);have fD:=dm ((by rw[hg];exact(oF (nC HB.out)):w.heap.size<=aU));have fE:=dm ((by rw[hg];exact(oF (nC HB.out)):w.heap.size<=aU));replace HB:=nJ HB hb;clear hb nu hg))
 (try simp only [Act.put,List.setIfInBounds_toArray,List.set_cons_zero,List.set_cons_succ])
 go_cut [24] (fun fq wc=>∃ (kq:Nat) (cg:Bool),fq=.bool cg/\lm (qa.j0 kq l1 cg ag ae=some r)/\lm (kq<=k)/\lm (wc.heap[aU]? =some (.cells #[.int .i64 ag,(.slice aN ae.length aQ)] 31 (0,0)))/\lm (Below w.heap.size w wc))
 case first=>
  have H:=dN.out;clear dN;obtain⟨b8,A5,H⟩:=oC H;(try dsimp only at H)
  rcases p8 H with⟨h_,H_⟩|⟨h_,H_⟩<;> (subst h_;clear H;have H:=H_;clear H_)
  ·skip
   by_cases c7:(l1.length:Int)<1
   ·rw[if_pos c7]at H;have ci:=decide_eq_true c7;have eA:decide (l1.length<1)=true:=decide_eq_true (by omega);clear c7;(first|rw[ci]|(simp only [qw,qM];rw[ci])|skip);have H':=dm H;clear H;have⟨ft,fu,fv,fw⟩:=nI (w:=w4) ab
    go_wp2_with (first|((with_reducible refine oh 32 rfl ?_);refine rf 10 rfl Try.func32 (qh.calls (nS (oG bW.out HB.out)) bX.out A5.out) ?_;intro w9 hb;replace ab:=nD ab hb;replace HB:=nJ HB hb;(try clear hb)))
    go_meet
    case rel=>exact⟨_,(true),(nP),H',⟨by first|omega|exact Nat.le_refl _⟩,⟨nG ab.out⟩,⟨nC HB.out⟩⟩
   rw[if_neg c7]at H;have ci:=decide_eq_false c7;have eA:decide (l1.length<1)=false:=decide_eq_false (by omega);clear c7;(first|rw[ci]|(simp only [qw,qM];rw[ci])|skip);have H':=dm H;clear H;have⟨eZ,e2,e3,e4⟩:=nI (w:=w4) ab
   go_wp2_with (first|((with_reducible refine oh 32 rfl ?_);refine rf 10 rfl Try.func32 (qh.calls (nS (oG bW.out HB.out)) bX.out A5.out) ?_;intro fx hb;replace ab:=nD ab hb;replace HB:=nJ HB hb;(try clear hb);have⟨e5,e6,e7,e8⟩:=nI (w:=fx) ab))
   go_meet
   case rel=>exact⟨_,(decide ((l1.length:Int)> (ae.length:Int))),(nP),H',⟨by first|omega|exact Nat.le_refl _⟩,⟨nG ab.out⟩,⟨nC HB.out⟩⟩
  have H':=dm H;clear H;have⟨e9,fa,fb,fc⟩:=nI (w:=w4) ab
  go_wp2_with (first|((with_reducible refine oh 32 rfl ?_);refine rf 10 rfl Try.func32 (qh.calls (nS (oG bW.out HB.out)) bX.out A5.out) ?_;intro fZ hb;replace ab:=nD ab hb;replace HB:=nJ HB hb;(try clear hb)))
  go_meet
  case rel=>exact⟨_,(true),(nP),H',⟨by first|omega|exact Nat.le_refl _⟩,⟨nG ab.out⟩,⟨nC HB.out⟩⟩
 case rest=>
  clear dN;obtain⟨kq,cg,rfl,HA,co,ab,HB⟩:=hcut;cases kq with
  |zero=>exact absurd HA.out (by simp[qa.j0])
  |succ cN=>
   have H:=HA.out;clear HA;simp only [qa.j0]at H
   rcases p8 H with⟨h_,H_⟩|⟨h_,H_⟩<;> (subst h_;clear H;have H:=H_;clear H_)
   ·obtain rfl:=Option.some.inj H
    go_wp2
    go_ret
    exact⟨qH,nC HB.out⟩
   obtain⟨cQ,bY⟩:∃y_:List (S59),y_=(([]:List (S59))):=⟨_,rfl⟩;replace H:(qa.l0 cN l1 cQ (([]:List Int)) 0 ag ae)=some r:=pg bY H
   have dn:=dm bY;clear bY;obtain⟨dO,bZ⟩:∃y_:List Int,y_=(([]:List Int)):=⟨_,rfl⟩;replace H:(qa.l0 cN l1 cQ dO 0 ag ae)=some r:=pg bZ H
   have dq:=dm bZ;clear bZ;have H':=dm H;clear H
   go_wp2_with (first|((with_reducible refine nT 25 rfl ?_);(try(refine rQ (by rfl) ?_;dsimp only));refine sF k59 rfl 59 ([]:List (S59)) [] (oH.none _ _) ?_;intro fO f2 cj hb hg_ pW;clear hg_ pW;(first|rw[←dn.out]at cj|(simp only [Int.reduceToNat]at cj;rw[←dn.out]at cj));have ch:=dm (oJ cj (oF (nC HB.out)));replace ab:=nD ab hb;replace HB:=nJ HB hb;clear hb cj)|((with_reducible refine nT 26 rfl ?_);(try(refine rQ (by rfl) ?_;dsimp only));refine sF (Kd.int .i64) rfl 3 ([]:List Int) [] (oH.none _ _) ?_;intro fP f3 ck hb hg_ pW;clear hg_ pW;(first|rw[←dq.out]at ck|(simp only [Int.reduceToNat]at ck;rw[←dq.out]at ck));replace ch:=oD ch hb;have ec:=dm (oJ ck (oF (nC HB.out)));replace ab:=nD ab hb;replace HB:=nJ HB hb;clear hb ck))
   go_loopg [5,6,7] cN (fun kq v5 v6 v7 w'=>∃ (aH:List (S59)) (aZ:List Int) (aa:Int),v7=.int .i64 aa/\lm (qa.l0 kq l1 aH aZ aa ag ae=some r)/\lm (kq<=cN)/\lm (Kd.R k59 59 w' w.heap.size (fun _=>True) v5 aH)/\lm (Kd.R (Kd.int .i64) 3 w' w.heap.size (fun _=>True) v6 aZ)/\lm (w'.heap[aU]? =some (.cells #[.int .i64 ag,(.slice aN ae.length aQ)] 31 (0,0)))/\lm (Below w.heap.size w w'))
   case atStart=>exact⟨(cQ),(dO),(0),(nP),H',⟨Nat.le_refl _⟩,⟨nH ch.out⟩,⟨nH ec.out⟩,⟨nG ab.out⟩,⟨nC HB.out⟩⟩
   case round=>
    clear H';(try clear cO);obtain⟨aH,aZ,aa,rfl,HA,cp,ah,af,ab,HB⟩:=hrel;cases gk with
    |zero=>exact absurd HA.out (by simp[qa.l0])
    |succ k2=>
     have H:=HA.out;clear HA;simp only [qa.l0]at H
     replace H:=p_ H;rcases H with⟨dr,H⟩|⟨dr,H⟩
     ·skip
      obtain⟨ed,H⟩:=oz H;obtain⟨cD,ew,H⟩:=oC H;(try dsimp only at H)
      rcases p8 H with⟨h_,H_⟩|⟨h_,H_⟩<;> (subst h_;clear H;have H:=H_;clear H_)
      ·have H':=dm H;clear H;try go_wp2
       replace ah:=dm (nN ah.out);replace af:=dm (nN af.out);replace ab:=dm (nZ ab.out);replace HB:=dm (pz HB.out);have bq:0<=(aa:Int):=nA;have br:aa<(l1.length:Int):=nA;obtain⟨ak,bu,bv,cS,aE,a5,a6⟩:=tQ aT.out aa bq br;have a7:=aE;cases cS;replace aE:=nE HB aE;have a8:=dm a6;have b9:=dm a5;clear a6 a5;replace bq:=eq_true bq;replace br:=eq_true br;obtain⟨eB,eC,dP⟩:=nX ah.out;(first|subst dP|(injection dP with bx cl bz;have cm:=bx.symm;have cn:=bz.symm;clear bx cl bz;subst cm;subst cn));obtain⟨eD,eE,dQ⟩:=nX af.out;(first|subst dQ|(injection dQ with bx cl bz;have cm:=bx.symm;have cn:=bz.symm;clear bx cl bz;subst cm;subst cn));refine qj 11 (S:=fun w'=>w'.cell? ⟨aU,0,none⟩=some (.int .i64 ag)/\w'.cell? ⟨aU,1,none⟩=some (.slice aN ae.length aQ)/\w'.cell? (ak.add (aa).toNat)=some (.slice bu (nO l1 aa).length bv)) [] ⟨nz ab 0,nz ab 1,(nE HB a7)⟩ qa.yE qa.yg (fun hHeld HT_ HW_=>?_);generalize wr.drew=f4 at ah af ab HB a8 aE hHeld⊢;refine lq 1 34 2 ?_;refine lq 2 35 6 ?_;refine lq 3 36 14 ?_;refine lq 4 37 30 ?_;refine lq 5 38 62 ?_;refine lq 7 40 190 ?_;refine lq 8 41 446 ?_;refine nR 0 33 447 ?_;refine nR 6 39 511 ?_;refine oO 9 42 1023 (fun K hK=>?_);refine tX Try.func45 (oP.calls (nS (oG bW.out HB.out)) bX.out (nS (nK ah.out).2.2) ((nK ah.out).2.1) (nS (nK af.out).2.2) ((nK af.out).2.1) (nS (oG a8.out HB.out)) b9.out ew.out) ?_;intro f5 hb;replace ah:=oD ah hb;replace af:=oD af hb;replace ab:=nD ab hb;replace HB:=nJ HB hb;(try clear hb hk);refine hK.out _ _ ⟨nz ab 0,nz ab 1,(nE HB a7)⟩ (fun hHeld=>?_);clear hK K;refine og 42 ?_;refine lq 10 43 2047 ?_;refine qb (qf HT_.out (ou)) ?_;try go_wp2
       go_loopg [5,6,8] k2 (fun kq v5 v6 v8 w'=>∃ (aA:List (S59)) (ai:List Int) (ac:Int),v8=.int .i64 ac/\lm (qa.l1 kq l1 aA ai aa ac ag ae=some r)/\lm (kq<=k2)/\lm (Kd.R k59 59 w' w.heap.size (fun _=>True) v5 aA)/\lm (Kd.R (Kd.int .i64) 3 w' w.heap.size (fun _=>True) v6 ai)/\lm (w'.heap[aU]? =some (.cells #[.int .i64 ag,(.slice aN ae.length aQ)] 31 (0,0)))/\lm (Below w.heap.size w w'))
       case atStart=>exact⟨(aH),(aZ),(0),(nP),H',⟨Nat.le_refl _⟩,⟨nH ah.out⟩,⟨nH af.out⟩,⟨nG ab.out⟩,⟨nC HB.out⟩⟩
       case round=>
        clear H';(try clear dr ed cP aE bq br);obtain⟨aA,ai,ac,rfl,HA,cq,ah,af,ab,HB⟩:=hrel;cases gk with
        |zero=>exact absurd HA.out (by simp[qa.l1])
        |succ k3=>
         have H:=HA.out;clear HA;simp only [qa.l1]at H
         obtain⟨fF,H⟩:=oz H
         obtain⟨fG,H⟩:=oz H
         replace H:=p_ H;rcases H with⟨ee,H⟩|⟨ee,H⟩
         ·skip
          replace H:=p_ H;rcases H with⟨ef,H⟩|⟨ef,H⟩
          ·obtain⟨ao,cf⟩:∃j_:Int,(wrap64 (ac - 1))=j_:=⟨_,rfl⟩;replace H:(if 0<=(ao) then(if(ao)<((nO l1 aa).length:Int) then(if 0<=ac then((tJ.f (rd (nO l1 aa) (ao)) (rd (nO l1 aa) ac)).bind fun bV=>(if aA.length<8796093022208 then((some (aA++[(⟨bV.1,bV.2⟩:S59)]:List (S59))).bind fun aG=>((qD.f k3 ai (rd (nO l1 aa) ac)).bind fun aY=>(if aY=true then(qa.l1 k3 l1 aG ai aa (wrap64 (ac+1)) ag ae) else(if ai.length<17592186044416 then(qa.l1 k3 l1 aG (ai++[rd (nO l1 aa) ac]) aa (wrap64 (ac+1)) ag ae) else(none))))) else(none))) else(none)) else(none)) else(none))=some r:=by first|(rw[cf]at H;exact H)|(simp only [cf]at H⊢;exact H)
           have fy:(IntKind.i64.wrap (ac - 1))=ao:=(qw _).trans cf
           obtain⟨fH,H⟩:=oz H
           obtain⟨fI,H⟩:=oz H
           obtain⟨fJ,H⟩:=oz H;obtain⟨⟨a3,a4⟩,ex,H⟩:=oC H;(try dsimp only at H)
           obtain⟨dz,H⟩:=qg H;have dA:=dm dz;clear dz;obtain⟨aG,b3⟩:∃y_:List (S59),y_=(aA++[(⟨a3,a4⟩:S59)]):=⟨_,rfl⟩;replace H:((qD.f k3 ai (rd (nO l1 aa) ac)).bind fun aY=>(if aY=true then(qa.l1 k3 l1 aG ai aa (wrap64 (ac+1)) ag ae) else(if ai.length<17592186044416 then(qa.l1 k3 l1 aG (ai++[rd (nO l1 aa) ac]) aa (wrap64 (ac+1)) ag ae) else(none))))=some r:=pg b3 H
           have dB:=dm b3;clear b3;obtain⟨aY,ey,H⟩:=oC H;(try dsimp only at H)
           rcases p8 H with⟨h_,H_⟩|⟨h_,H_⟩<;> (subst h_;clear H;have H:=H_;clear H_)
           ·have H':=dm H;clear H;have aC:0<=(aa:Int):=nA;have aD:aa<(l1.length:Int):=nA;obtain⟨aV,b4,b5,bp,aj,al,am⟩:=tQ aT.out aa aC aD;obtain rfl:ak=aV:=(by injection bp);replace aj:=nE HB aj;have bC:=dm am;have bD:=dm al;clear am al;replace aC:=eq_true aC;replace aD:=eq_true aD;try go_wp2
            replace ah:=dm (nN ah.out);replace af:=dm (nN af.out);replace ab:=dm (nZ ab.out);replace HB:=dm (pz HB.out);have bF:0<=(aa:Int):=nA;have bG:aa<(l1.length:Int):=nA;obtain⟨cF,dR,bA,cT,au,a9,a_⟩:=tQ aT.out aa bF bG;have av:=au;obtain rfl:ak=cF:=(by injection cT);replace au:=nE HB au;have ba:=dm a_;have dH:=dm a9;clear a_ a9;replace bF:=eq_true bF;replace bG:=eq_true bG;have bH:0<=((ao):Int):=nA;have bI:(ao)<((nO l1 aa).length:Int):=nA;obtain⟨aW,cU,aI⟩:=oL ba.out (ao) bH bI;have aw:=aI;cases cU;replace aI:=nE HB aI;replace bH:=eq_true bH;replace bI:=eq_true bI;have bJ:0<=(aa:Int):=nA;have bK:aa<(l1.length:Int):=nA;obtain⟨cG,dS,dT,cW,ax,bd,bf⟩:=tQ aT.out aa bJ bK;have ay:=ax;obtain rfl:ak=cG:=(by injection cW);replace ax:=nE HB ax;have bh:=dm bf;have dI:=dm bd;clear bf bd;replace bJ:=eq_true bJ;replace bK:=eq_true bK;have ea_:=Option.some.inj (au.symm.trans ax);injection ea_ with ea_ en_ ec_;subst ea_;subst ec_;clear en_;have bL:0<=(ac:Int):=nA;have bM:ac<((nO l1 aa).length:Int):=nA;obtain⟨eg,cX,aK⟩:=oL bh.out ac bL bM;have az:=aK;cases cX;replace aK:=nE HB aK;replace bL:=eq_true bL;replace bM:=eq_true bM;refine qj 20 (S:=fun w'=>w'.cell? (ak.add (aa).toNat)=some (.slice (some aW) (nO l1 aa).length bA)/\w'.cell? (aW.add ((ao)).toNat)=some (.int .i64 (rd (nO l1 aa) (ao)))/\w'.cell? (ak.add (aa).toNat)=some (.slice (some aW) (nO l1 aa).length bA)/\w'.cell? (aW.add (ac).toNat)=some (.int .i64 (rd (nO l1 aa) ac))) [] ⟨(nE HB av),(nE HB aw),(nE HB ay),(nE HB az)⟩ qa.zw qa.yO (fun hHeld HT_ HW_=>?_);generalize wr.drew=f6 at ah af ab HB ba bh au aI ax aK hHeld⊢;refine lq 0 55 1 ?_;refine lq 1 56 3 ?_;refine lq 2 57 7 ?_;refine lq 3 58 15 ?_;refine lq 5 60 47 ?_;refine lq 6 61 111 ?_;refine lq 9 64 623 ?_;refine lq 10 65 1647 ?_;refine lq 11 66 3695 ?_;refine lq 13 68 11887 ?_;refine nR 4 59 11903 ?_;refine lq 7 62 12031 ?_;refine nR 8 63 12287 ?_;refine nR 12 67 16383 ?_;refine lq 14 69 32767 ?_;refine nR 15 70 65535 ?_;refine oO 16 71 131071 (fun K hK=>?_);refine uq Try.func46 (ou) rfl #[.int .i64 (rd (nO l1 aa) (ao)),.int .i64 (rd (nO l1 aa) ac)] (by rfl) rfl rfl (Ga) ?_;refine(tJ.calls ex.out).mono ?_;rintro e f7 ⟨rfl,hb⟩;refine⟨_,rfl,?_⟩;replace ah:=oD ah hb;replace af:=oD af hb;replace ab:=nD ab hb;replace HB:=nJ HB hb;(try clear hb);refine hK.out _ _ ⟨(nE HB av),(nE HB aw),(nE HB ay),(nE HB az)⟩ (fun hHeld=>?_);clear hK K;refine og 71 ?_;refine oO 17 72 262143 (fun K hK=>?_);refine wS (w1:= ?_) (v:= ?_) (by rfl) rfl ?_ ?_;rotate_left 2
            ·go_simp
             constructor
             ·rfl
             rfl
            refine hK.out _ _ ⟨(World.cell?_alloc_lt _ _ _ (World.block_lt_of_cell? _ _ ((nE HB av)))).trans ((nE HB av)),(World.cell?_alloc_lt _ _ _ (World.block_lt_of_cell? _ _ ((nE HB aw)))).trans ((nE HB aw)),(World.cell?_alloc_lt _ _ _ (World.block_lt_of_cell? _ _ ((nE HB ay)))).trans ((nE HB ay)),(World.cell?_alloc_lt _ _ _ (World.block_lt_of_cell? _ _ ((nE HB az)))).trans ((nE HB az))⟩ (fun hHeld=>?_);clear hK K;refine og 72 ?_;refine oO 18 73 524287 (fun K hK=>?_);refine wI k59 (w0:=w) w.heap.size (by rfl) (.tmp 55) (.tmp 72) 29 59 (.agg #[(.int .i64 0),(.int .i64 0)]) 16 rfl Try.underlying29 uI rfl (by decide) (by omega) u5 aA (⟨a3,a4⟩:S59) [.int .i64 a3,.int .i64 a4] (fun _=>True) (fun _=>False) rfl rfl ?aP (fun _ hk=>hk.elim) ?aF ?aO ?aB ?aS ?aL ?_;(case aP=>exact ut _ _ _ (⟨a3,a4⟩:S59));(case aB=>exact(nC HB.out));(case aF=>exact(fun _ _=>trivial));(case aO=>exact(nH ah.out));(case aS=>exact(oF (nC HB.out)));(case aL=>have:=dA.out;omega);intro eF f8 ho hb hg hat;rw[←dB.out]at ho;have n0:=dm (sV (nH af.out) (sM (nH ah.out)) (by decide) hg);have n1:=pq ab hg (pM ah.out ab.out (by decide));have n2:=dm (hb);have n3:=dm (ho);clear af ab HB ah;revert n0 n1 n2 n3;intro af ab HB bE;clear ho hb hg hat;refine hK.out _ _ ⟨(nE HB av),(nE HB aw),(nE HB ay),(nE HB az)⟩ (fun hHeld=>?_);clear hK K;refine og 73 ?_;refine lq 19 5 1048575 ?_;refine qb (qf HT_.out (ou)) ?_;have bN:0<=(aa:Int):=nA;have bO:aa<(l1.length:Int):=nA;obtain⟨cH,dU,dV,cY,aX,bj,bk⟩:=tQ aT.out aa bN bO;obtain rfl:ak=cH:=(by injection cY);replace aX:=nE HB aX;have b_:=dm bk;have dJ:=dm bj;clear bk bj;replace bN:=eq_true bN;replace bO:=eq_true bO;have bP:0<=(ac:Int):=nA;have bQ:ac<((nO l1 aa).length:Int):=nA;obtain⟨eh,cZ,bl⟩:=oL b_.out ac bP bQ;cases cZ;replace bl:=nE HB bl;replace bP:=eq_true bP;replace bQ:=eq_true bQ;obtain⟨eG,eH,eI⟩:=nX af.out;subst eI;try go_wp2_with (first|((with_reducible refine oh 47 rfl ?_);refine oZ 82 rfl Try.func47 (qD.calls (nS (nK af.out).2.2) ((nK af.out).2.1) ey.out) ?_;rintro e w' ⟨rfl,⟨nd,rfl⟩⟩;refine⟨_,rfl,?_⟩))
            go_roundg k3
            case measure=>have:=co.out;have:=cp.out;have:=cq.out;omega
            case rel=>exact⟨(aG),(ai),(wrap64 (ac+1)),(nP),H',⟨Av⟩,⟨nH bE.out⟩,⟨nH af.out⟩,⟨nG ab.out⟩,⟨nC HB.out⟩⟩
           skip
           obtain⟨dD,H⟩:=qg H;have ei:=dm dD;clear dD;obtain⟨dW,b6⟩:∃y_:List Int,y_=(ai++[rd (nO l1 aa) ac]):=⟨_,rfl⟩;replace H:(qa.l1 k3 l1 aG dW aa (wrap64 (ac+1)) ag ae)=some r:=pg b6 H
           have ej:=dm b6;clear b6;have H':=dm H;clear H;have aC:0<=(aa:Int):=nA;have aD:aa<(l1.length:Int):=nA;obtain⟨aV,b4,b5,bp,aj,al,am⟩:=tQ aT.out aa aC aD;obtain rfl:ak=aV:=(by injection bp);replace aj:=nE HB aj;have bC:=dm am;have bD:=dm al;clear am al;replace aC:=eq_true aC;replace aD:=eq_true aD;try go_wp2
           replace ah:=dm (nN ah.out);replace af:=dm (nN af.out);replace ab:=dm (nZ ab.out);replace HB:=dm (pz HB.out);have bF:0<=(aa:Int):=nA;have bG:aa<(l1.length:Int):=nA;obtain⟨cF,dR,bA,cT,au,a9,a_⟩:=tQ aT.out aa bF bG;have av:=au;obtain rfl:ak=cF:=(by injection cT);replace au:=nE HB au;have ba:=dm a_;have dH:=dm a9;clear a_ a9;replace bF:=eq_true bF;replace bG:=eq_true bG;have bH:0<=((ao):Int):=nA;have bI:(ao)<((nO l1 aa).length:Int):=nA;obtain⟨aW,cU,aI⟩:=oL ba.out (ao) bH bI;have aw:=aI;cases cU;replace aI:=nE HB aI;replace bH:=eq_true bH;replace bI:=eq_true bI;have bJ:0<=(aa:Int):=nA;have bK:aa<(l1.length:Int):=nA;obtain⟨cG,dS,dT,cW,ax,bd,bf⟩:=tQ aT.out aa bJ bK;have ay:=ax;obtain rfl:ak=cG:=(by injection cW);replace ax:=nE HB ax;have bh:=dm bf;have dI:=dm bd;clear bf bd;replace bJ:=eq_true bJ;replace bK:=eq_true bK;have ea_:=Option.some.inj (au.symm.trans ax);injection ea_ with ea_ en_ ec_;subst ea_;subst ec_;clear en_;have bL:0<=(ac:Int):=nA;have bM:ac<((nO l1 aa).length:Int):=nA;obtain⟨eg,cX,aK⟩:=oL bh.out ac bL bM;have az:=aK;cases cX;replace aK:=nE HB aK;replace bL:=eq_true bL;replace bM:=eq_true bM;refine qj 20 (S:=fun w'=>w'.cell? (ak.add (aa).toNat)=some (.slice (some aW) (nO l1 aa).length bA)/\w'.cell? (aW.add ((ao)).toNat)=some (.int .i64 (rd (nO l1 aa) (ao)))/\w'.cell? (ak.add (aa).toNat)=some (.slice (some aW) (nO l1 aa).length bA)/\w'.cell? (aW.add (ac).toNat)=some (.int .i64 (rd (nO l1 aa) ac))) [] ⟨(nE HB av),(nE HB aw),(nE HB ay),(nE HB az)⟩ qa.zw qa.yO (fun hHeld HT_ HW_=>?_);generalize wr.drew=f9 at ah af ab HB ba bh au aI ax aK hHeld⊢;refine lq 0 55 1 ?_;refine lq 1 56 3 ?_;refine lq 2 57 7 ?_;refine lq 3 58 15 ?_;refine lq 5 60 47 ?_;refine lq 6 61 111 ?_;refine lq 9 64 623 ?_;refine lq 10 65 1647 ?_;refine lq 11 66 3695 ?_;refine lq 13 68 11887 ?_;refine nR 4 59 11903 ?_;refine lq 7 62 12031 ?_;refine nR 8 63 12287 ?_;refine nR 12 67 16383 ?_;refine lq 14 69 32767 ?_;refine nR 15 70 65535 ?_;refine oO 16 71 131071 (fun K hK=>?_);refine uq Try.func46 (ou) rfl #[.int .i64 (rd (nO l1 aa) (ao)),.int .i64 (rd (nO l1 aa) ac)] (by rfl) rfl rfl (Ga) ?_;refine(tJ.calls ex.out).mono ?_;rintro e f_ ⟨rfl,hb⟩;refine⟨_,rfl,?_⟩;replace ah:=oD ah hb;replace af:=oD af hb;replace ab:=nD ab hb;replace HB:=nJ HB hb;(try clear hb);refine hK.out _ _ ⟨(nE HB av),(nE HB aw),(nE HB ay),(nE HB az)⟩ (fun hHeld=>?_);clear hK K;refine og 71 ?_;refine oO 17 72 262143 (fun K hK=>?_);refine wS (w1:= ?_) (v:= ?_) (by rfl) rfl ?_ ?_;rotate_left 2
           ·go_simp
            constructor
            ·rfl
            rfl
           refine hK.out _ _ ⟨(World.cell?_alloc_lt _ _ _ (World.block_lt_of_cell? _ _ ((nE HB av)))).trans ((nE HB av)),(World.cell?_alloc_lt _ _ _ (World.block_lt_of_cell? _ _ ((nE HB aw)))).trans ((nE HB aw)),(World.cell?_alloc_lt _ _ _ (World.block_lt_of_cell? _ _ ((nE HB ay)))).trans ((nE HB ay)),(World.cell?_alloc_lt _ _ _ (World.block_lt_of_cell? _ _ ((nE HB az)))).trans ((nE HB az))⟩ (fun hHeld=>?_);clear hK K;refine og 72 ?_;refine oO 18 73 524287 (fun K hK=>?_);refine wI k59 (w0:=w) w.heap.size (by rfl) (.tmp 55) (.tmp 72) 29 59 (.agg #[(.int .i64 0),(.int .i64 0)]) 16 rfl Try.underlying29 uI rfl (by decide) (by omega) u5 aA (⟨a3,a4⟩:S59) [.int .i64 a3,.int .i64 a4] (fun _=>True) (fun _=>False) rfl rfl ?aP (fun _ hk=>hk.elim) ?aF ?aO ?aB ?aS ?aL ?_;(case aP=>exact ut _ _ _ (⟨a3,a4⟩:S59));(case aB=>exact(nC HB.out));(case aF=>exact(fun _ _=>trivial));(case aO=>exact(nH ah.out));(case aS=>exact(oF (nC HB.out)));(case aL=>have:=dA.out;omega);intro eF ga ho hb hg hat;rw[←dB.out]at ho;have n0:=dm (sV (nH af.out) (sM (nH ah.out)) (by decide) hg);have n1:=pq ab hg (pM ah.out ab.out (by decide));have n2:=dm (hb);have n3:=dm (ho);clear af ab HB ah;revert n0 n1 n2 n3;intro af ab HB bE;clear ho hb hg hat;refine hK.out _ _ ⟨(nE HB av),(nE HB aw),(nE HB ay),(nE HB az)⟩ (fun hHeld=>?_);clear hK K;refine og 73 ?_;refine lq 19 5 1048575 ?_;refine qb (qf HT_.out (ou)) ?_;have bN:0<=(aa:Int):=nA;have bO:aa<(l1.length:Int):=nA;obtain⟨cH,dU,dV,cY,aX,bj,bk⟩:=tQ aT.out aa bN bO;obtain rfl:ak=cH:=(by injection cY);replace aX:=nE HB aX;have b_:=dm bk;have dJ:=dm bj;clear bk bj;replace bN:=eq_true bN;replace bO:=eq_true bO;have bP:0<=(ac:Int):=nA;have bQ:ac<((nO l1 aa).length:Int):=nA;obtain⟨eh,cZ,bl⟩:=oL b_.out ac bP bQ;cases cZ;replace bl:=nE HB bl;replace bP:=eq_true bP;replace bQ:=eq_true bQ;obtain⟨dX,dY,eJ⟩:=nX af.out;subst eJ;try go_wp2_with (first|((with_reducible refine oh 47 rfl ?_);refine oZ 82 rfl Try.func47 (qD.calls (nS (nK af.out).2.2) ((nK af.out).2.1) ey.out) ?_;rintro e w' ⟨rfl,⟨nd,rfl⟩⟩;refine⟨_,rfl,?_⟩;have c_:0<=(aa:Int):=nA;have db:aa<(l1.length:Int):=nA;obtain⟨ek,fz,fA,eK,ca,cv,cw⟩:=tQ aT.out aa c_ db;obtain rfl:ak=ek:=(by injection eK);replace ca:=nE HB ca;have dK:=dm cw;have fd:=dm cv;clear cw cv;replace c_:=eq_true c_;replace db:=eq_true db;have ea_:=Option.some.inj (aX.symm.trans ca);injection ea_ with ea_ en_ ec_;subst ea_;subst ec_;clear en_;have dc:0<=(ac:Int):=nA;have dd:ac<((nO l1 aa).length:Int):=nA;obtain⟨fK,eL,cx⟩:=oL dK.out ac dc dd;cases eL;replace cx:=nE HB cx;replace dc:=eq_true dc;replace dd:=eq_true dd)|((with_reducible refine r_ (b:=.append) (xs:= #[.tmp 84,.tmp 92]) rfl ?_);(try(refine rQ (by rfl) ?_;dsimp only));at_builtin;refine sU (Kd.int .i64) (w0:=w) w.heap.size rfl (.tmp 84) (.tmp 92) 45 3 (.int .i64 0) 8 rfl Try.underlying45 info3 rfl (by decide) (by omega) (.slice dX ai.length dY) ai (rd (nO l1 aa) ac) [.int .i64 (rd (nO l1 aa) ac)] (fun _=>True) (fun _=>False) rfl rfl ?aP (fun _ hk=>hk.elim) ?aF ?aO ?aB ?aS ?aL ?_;(case aP=>exact rfl);(case aB=>exact(nC HB.out));(case aF=>exact(fun _ _=>trivial));(case aO=>exact(nH af.out));(case aS=>exact(oF (nC HB.out)));(case aL=>have:=ei.out;omega);intro fQ gb ho hb hg hat;rw[←ej.out]at ho;have n0:=pq ab hg (pM af.out ab.out (by decide));have n1:=dm (sV (nH bE.out) (sM (nH af.out)) (by decide) hg);have n2:=dm (hb);have n3:=dm (ho);clear ab bE HB af;revert n0 n1 n2 n3;intro ab bE HB el;clear ho hb hg hat))
           go_roundg k3
           case measure=>have:=co.out;have:=cp.out;have:=cq.out;omega
           case rel=>exact⟨(aG),(dW),(wrap64 (ac+1)),(nP),H',⟨Av⟩,⟨nH bE.out⟩,⟨nH el.out⟩,⟨nG ab.out⟩,⟨nC HB.out⟩⟩
          skip
          obtain⟨fL,H⟩:=oz H;obtain⟨cE,ez,H⟩:=oC H;(try dsimp only at H)
          rcases p8 H with⟨h_,H_⟩|⟨h_,H_⟩<;> (subst h_;clear H;have H:=H_;clear H_)
          ·have H':=dm H;clear H;have aC:0<=(aa:Int):=nA;have aD:aa<(l1.length:Int):=nA;obtain⟨aV,b4,b5,bp,aj,al,am⟩:=tQ aT.out aa aC aD;obtain rfl:ak=aV:=(by injection bp);replace aj:=nE HB aj;have bC:=dm am;have bD:=dm al;clear am al;replace aC:=eq_true aC;replace aD:=eq_true aD;have bR:0<=(aa:Int):=nA;have bS:aa<(l1.length:Int):=nA;obtain⟨cI,dZ,d7,de,aR,bm,bn⟩:=tQ aT.out aa bR bS;obtain rfl:ak=cI:=(by injection de);replace aR:=nE HB aR;have cd:=dm bn;have dL:=dm bm;clear bn bm;replace bR:=eq_true bR;replace bS:=eq_true bS;have ea_:=Option.some.inj (aj.symm.trans aR);injection ea_ with ea_ en_ ec_;subst ea_;subst ec_;clear en_;have bT:0<=(ac:Int):=nA;have bU:ac<((nO l1 aa).length:Int):=nA;obtain⟨em,df,bo⟩:=oL cd.out ac bT bU;cases df;replace bo:=nE HB bo;replace bT:=eq_true bT;replace bU:=eq_true bU;obtain⟨eM,eN,eO⟩:=nX af.out;subst eO
           go_wp2_with (first|((with_reducible refine oh 47 rfl ?_);refine oZ 82 rfl Try.func47 (qD.calls (nS (nK af.out).2.2) ((nK af.out).2.1) ez.out) ?_;rintro e w' ⟨rfl,⟨nd,rfl⟩⟩;refine⟨_,rfl,?_⟩))
           go_roundg k3
           case measure=>have:=co.out;have:=cp.out;have:=cq.out;omega
           case rel=>exact⟨(aA),(ai),(wrap64 (ac+1)),(nP),H',⟨Av⟩,⟨nH ah.out⟩,⟨nH af.out⟩,⟨nG ab.out⟩,⟨nC HB.out⟩⟩
          skip
          obtain⟨dG,H⟩:=qg H;have en:=dm dG;clear dG;obtain⟨d8,b7⟩:∃y_:List Int,y_=(ai++[rd (nO l1 aa) ac]):=⟨_,rfl⟩;replace H:(qa.l1 k3 l1 aA d8 aa (wrap64 (ac+1)) ag ae)=some r:=pg b7 H
          have eo:=dm b7;clear b7;have H':=dm H;clear H;have aC:0<=(aa:Int):=nA;have aD:aa<(l1.length:Int):=nA;obtain⟨aV,b4,b5,bp,aj,al,am⟩:=tQ aT.out aa aC aD;obtain rfl:ak=aV:=(by injection bp);replace aj:=nE HB aj;have bC:=dm am;have bD:=dm al;clear am al;replace aC:=eq_true aC;replace aD:=eq_true aD;have bR:0<=(aa:Int):=nA;have bS:aa<(l1.length:Int):=nA;obtain⟨cI,dZ,d7,de,aR,bm,bn⟩:=tQ aT.out aa bR bS;obtain rfl:ak=cI:=(by injection de);replace aR:=nE HB aR;have cd:=dm bn;have dL:=dm bm;clear bn bm;replace bR:=eq_true bR;replace bS:=eq_true bS;have ea_:=Option.some.inj (aj.symm.trans aR);injection ea_ with ea_ en_ ec_;subst ea_;subst ec_;clear en_;have bT:0<=(ac:Int):=nA;have bU:ac<((nO l1 aa).length:Int):=nA;obtain⟨em,df,bo⟩:=oL cd.out ac bT bU;cases df;replace bo:=nE HB bo;replace bT:=eq_true bT;replace bU:=eq_true bU;obtain⟨d9,d_,eP⟩:=nX af.out;subst eP
          go_wp2_with (first|((with_reducible refine oh 47 rfl ?_);refine oZ 82 rfl Try.func47 (qD.calls (nS (nK af.out).2.2) ((nK af.out).2.1) ez.out) ?_;rintro e w' ⟨rfl,⟨nd,rfl⟩⟩;refine⟨_,rfl,?_⟩;have dg:0<=(aa:Int):=nA;have dh:aa<(l1.length:Int):=nA;obtain⟨ep,fB,fC,eQ,ce,cy,cz⟩:=tQ aT.out aa dg dh;obtain rfl:ak=ep:=(by injection eQ);replace ce:=nE HB ce;have dM:=dm cz;have fe:=dm cy;clear cz cy;replace dg:=eq_true dg;replace dh:=eq_true dh;have ea_:=Option.some.inj (aj.symm.trans ce);injection ea_ with ea_ en_ ec_;subst ea_;subst ec_;clear en_;have di:0<=(ac:Int):=nA;have dj:ac<((nO l1 aa).length:Int):=nA;obtain⟨fM,eR,cA⟩:=oL dM.out ac di dj;cases eR;replace cA:=nE HB cA;replace di:=eq_true di;replace dj:=eq_true dj)|((with_reducible refine r_ (b:=.append) (xs:= #[.tmp 84,.tmp 92]) rfl ?_);(try(refine rQ (by rfl) ?_;dsimp only));at_builtin;refine sU (Kd.int .i64) (w0:=w) w.heap.size rfl (.tmp 84) (.tmp 92) 45 3 (.int .i64 0) 8 rfl Try.underlying45 info3 rfl (by decide) (by omega) (.slice d9 ai.length d_) ai (rd (nO l1 aa) ac) [.int .i64 (rd (nO l1 aa) ac)] (fun _=>True) (fun _=>False) rfl rfl ?aP (fun _ hk=>hk.elim) ?aF ?aO ?aB ?aS ?aL ?_;(case aP=>exact rfl);(case aB=>exact(nC HB.out));(case aF=>exact(fun _ _=>trivial));(case aO=>exact(nH af.out));(case aS=>exact(oF (nC HB.out)));(case aL=>have:=en.out;omega);intro fR gc ho hb hg hat;rw[←eo.out]at ho;have n0:=dm (sV (nH ah.out) (sM (nH af.out)) (by decide) hg);have n1:=pq ab hg (pM af.out ab.out (by decide));have n2:=dm (hb);have n3:=dm (ho);clear ah ab HB af;revert n0 n1 n2 n3;intro ah ab HB eq;clear ho hb hg hat))
          go_roundg k3
          case measure=>have:=co.out;have:=cp.out;have:=cq.out;omega
          case rel=>exact⟨(aA),(d8),(wrap64 (ac+1)),(nP),H',⟨Av⟩,⟨nH ah.out⟩,⟨nH eq.out⟩,⟨nG ab.out⟩,⟨nC HB.out⟩⟩
         have H':=dm H;clear H;have aC:0<=(aa:Int):=nA;have aD:aa<(l1.length:Int):=nA;obtain⟨aV,b4,b5,bp,aj,al,am⟩:=tQ aT.out aa aC aD;obtain rfl:ak=aV:=(by injection bp);replace aj:=nE HB aj;have bC:=dm am;have bD:=dm al;clear am al;replace aC:=eq_true aC;replace aD:=eq_true aD
         go_wp2
         go_roundg k3
         case measure=>have:=co.out;have:=cp.out;have:=cq.out;omega
         case rel=>exact⟨(aA),(ai),(wrap64 (aa+1)),(nP),H',⟨Av⟩,⟨nH ah.out⟩,⟨nH af.out⟩,⟨nG ab.out⟩,⟨nC HB.out⟩⟩
      obtain rfl:=Option.some.inj H;try go_wp2
      replace ah:=dm (nN ah.out);replace af:=dm (nN af.out);replace ab:=dm (nZ ab.out);replace HB:=dm (pz HB.out);have bq:0<=(aa:Int):=nA;have br:aa<(l1.length:Int):=nA;obtain⟨ak,bu,bv,cS,aE,a5,a6⟩:=tQ aT.out aa bq br;have a7:=aE;cases cS;replace aE:=nE HB aE;have a8:=dm a6;have b9:=dm a5;clear a6 a5;replace bq:=eq_true bq;replace br:=eq_true br;obtain⟨eS,eT,ea⟩:=nX ah.out;(first|subst ea|(injection ea with bx cl bz;have cm:=bx.symm;have cn:=bz.symm;clear bx cl bz;subst cm;subst cn));obtain⟨eU,eV,eb⟩:=nX af.out;(first|subst eb|(injection eb with bx cl bz;have cm:=bx.symm;have cn:=bz.symm;clear bx cl bz;subst cm;subst cn));refine qj 11 (S:=fun w'=>w'.cell? ⟨aU,0,none⟩=some (.int .i64 ag)/\w'.cell? ⟨aU,1,none⟩=some (.slice aN ae.length aQ)/\w'.cell? (ak.add (aa).toNat)=some (.slice bu (nO l1 aa).length bv)) [] ⟨nz ab 0,nz ab 1,(nE HB a7)⟩ qa.yE qa.yg (fun hHeld HT_ HW_=>?_);generalize wr.drew=ge at ah af ab HB a8 aE hHeld⊢;refine lq 1 34 2 ?_;refine lq 2 35 6 ?_;refine lq 3 36 14 ?_;refine lq 4 37 30 ?_;refine lq 5 38 62 ?_;refine lq 7 40 190 ?_;refine lq 8 41 446 ?_;refine nR 0 33 447 ?_;refine nR 6 39 511 ?_;refine oO 9 42 1023 (fun K hK=>?_);refine tX Try.func45 (oP.calls (nS (oG bW.out HB.out)) bX.out (nS (nK ah.out).2.2) ((nK ah.out).2.1) (nS (nK af.out).2.2) ((nK af.out).2.1) (nS (oG a8.out HB.out)) b9.out ew.out) ?_;intro gf hb;replace ah:=oD ah hb;replace af:=oD af hb;replace ab:=nD ab hb;replace HB:=nJ HB hb;(try clear hb hk);refine hK.out _ _ ⟨nz ab 0,nz ab 1,(nE HB a7)⟩ (fun hHeld=>?_);clear hK K;refine og 42 ?_;refine lq 10 43 2047 ?_;refine qb (qf HT_.out (ou)) ?_;try go_wp2
      go_ret
      exact⟨qH,nC HB.out⟩
     skip
     by_cases bB:(aH.length:Int)=(ae.length:Int)
     ·rw[if_pos bB]at H;have es:=beq_iff_eq.mpr bB;have et:=bne_eq_false_iff_eq.mpr bB;have eu:(aH.length==ae.length)=true:=by first|simpa using bB|(simp at bB⊢;omega)
      clear bB;obtain rfl:=Option.some.inj H;obtain⟨fS,fT,eW⟩:=nX ah.out;subst eW;have⟨ff,fg,fh,fi⟩:=nI (w:=wr) ab;obtain⟨fU,fV,eX⟩:=nX af.out;subst eX
      go_wp2
      go_ret
      exact⟨qH,nC HB.out⟩
     rw[if_neg bB]at H;have es:=beq_eq_false_iff_ne.mpr bB;have et:=bne_iff_ne.mpr bB;have eu:(aH.length==ae.length)=false:=by first|simpa using bB|(simp at bB⊢;omega)
     obtain rfl:=Option.some.inj H;obtain⟨fW,fX,eY⟩:=nX ah.out;subst eY;have⟨fj,fk,fm,fo⟩:=nI (w:=wr) ab
     go_wp2
     go_ret
     exact⟨qH,nC HB.out⟩
theorem F3(h:p:=by(try simp only [List.map_toArray,List.map_cons,List.map_nil]);first|done|(simp only [aQ];rfl)|rfl|(simp only [List.length_drop,List.length_take];rfl)):p:=h
theorem BS(h:p:=by rw[hg];exact Nat.ne_of_lt (pI (g:=aw) (o:=.cells #[.int .i64 ac,.slice (some bq) aa.length aG] 31 (0,0)) (nG ai.out))):p:=h
theorem BU(h:p:=by rw[hg];exact Nat.ne_of_gt (pI (g:=aw) (o:=.cells #[.int .i64 ac,.slice (some bq) aa.length aG] 31 (0,0)) (nG ai.out))):p:=h
attribute [local go_sem high] CF
def sJ.l0:Nat->Int->List Int->Int->Int->Option (Int)
 |0,_,_,_,_=>none
 |k+1,x3,x6,x7,x8=>if x8<x7 then(if 0<=x8 then(if x8<(x6.length:Int) then(if(rd x6 x8)=x3 then(sJ.l0 k x3 x6 x7 (wrap64 (x8+1))) else(some (rd x6 x8))) else(none)) else(none)) else(some x3)
def sJ.f (k:Nat) (l0:List Int):Option (Int):=sJ.l0 k 0 l0 (l0.length:Int) 0
theorem sJ.tF:∀k,(∀y0 y1 y2 y3,LeO (sJ.l0 k y0 y1 y2 y3) (sJ.l0 (k+1) y0 y1 y2 y3))
 |0=>fun _ _ _ _ r h=>by simp[sJ.l0]at h
 |k+1=>by intros;unfold sJ.l0;exact uk (sJ.tF k)
theorem sJ.mono:∀a0 k,LeO (sJ.f k a0) (sJ.f (k+1) a0):=by intro a0 k;unfold sJ.f;exact uk (sJ.tF k)
theorem sJ.calls {k:Nat}{A0:Option Addr}{c0:Nat}{l0:List Int}{r:Int}{w:World}(a7:Kd.C (Kd.int .i64) w A0 l0.length l0)(a8:l0.length<=c0)(h:sJ.f k l0=some r):
  Calls Try.prog 109 #[.slice A0 l0.length c0] w fun e w'=>e=.returned (.int .i64 r)/\pE w w':=by
 have a6:=dm a7;have cf:=dm a8;clear a7 a8;unfold sJ.f at h;have H:=h;clear h;have H':=dm H;clear H
 go_enter Try.func109,Try.ntmps109
 go_wp2
 go_loopg [8] k (fun kq v8 w'=>∃ (ab:Int),v8=.int .i64 ab/\lm (sJ.l0 kq 0 l0 (l0.length:Int) ab=some r)/\lm (kq<=k)/\pE w w')
 case atStart=>exact⟨(0),(nP),H',⟨Nat.le_refl _⟩,by repeat(first|exact pE.refl _|apply pE.step)⟩
 case round=>
  clear H';try clear c1
  obtain⟨ab,rfl,HA,bA,⟨m1,rfl⟩⟩:=hrel;cases gk with
  |zero=>exact absurd HA.out (by simp[sJ.l0])
  |succ k1=>
   have H:=HA.out;clear HA;simp only [sJ.l0]at H
   replace H:=p_ H;rcases H with⟨b5,H⟩|⟨b5,H⟩
   ·skip
    obtain⟨eq,H⟩:=oz H
    obtain⟨aY,H⟩:=oz H
    by_cases c5:(rd l0 ab)=0
    ·rw[if_pos c5]at H;have b6:=beq_iff_eq.mpr c5;have cT:=bne_eq_false_iff_eq.mpr c5;clear c5;have H':=dm H;clear H;have bd:0<=(ab:Int):=nA;have bf:ab<(l0.length:Int):=nA;obtain⟨cD,b7,cm⟩:=oL a6.out ab bd bf;cases b7;replace bd:=eq_true bd;replace bf:=eq_true bf
     go_wp2
     go_roundg k1
     case measure=>have:=bA.out;omega
     case rel=>exact⟨(wrap64 (ab+1)),(nP),H',⟨by have:=bA.out;omega⟩,by repeat(first|exact pE.refl _|apply pE.step)⟩
    rw[if_neg c5]at H;have b6:=beq_eq_false_iff_ne.mpr c5;have cT:=bne_iff_ne.mpr c5;obtain rfl:=Option.some.inj H;have bd:0<=(ab:Int):=nA;have bf:ab<(l0.length:Int):=nA;obtain⟨cD,b7,cm⟩:=oL a6.out ab bd bf;cases b7;replace bd:=eq_true bd;replace bf:=eq_true bf
    go_wp2
    go_ret
    exact⟨nP,by repeat(first|exact pE.refl _|apply pE.step)⟩
   obtain rfl:=Option.some.inj H
   go_wp2
   go_ret
   exact⟨nP,by repeat(first|exact pE.refl _|apply pE.step)⟩
def cmp_isNaN_int.f (a0:Int):Option (Bool):=some (a0 !=a0)
theorem cmp_isNaN_int.calls {a0:Int}{r:Bool}{w:World}(h:cmp_isNaN_int.f a0=some r):
  Calls Try.prog 129 #[.int .i64 a0] w fun e w'=>e=.returned (.bool r)/\pE w w':=by
 unfold cmp_isNaN_int.f at h;have H:=h;clear h;obtain rfl:=Option.some.inj H
 go_enter Try.func129,Try.ntmps129
 go_wp2
 go_ret
 exact⟨nP,by repeat(first|exact pE.refl _|apply pE.step)⟩
def cmp_Compare_int.f (a0:Int) (a1:Int):Option (Int):=(cmp_isNaN_int.f a0).bind fun bh=>((cmp_isNaN_int.f a1).bind fun aD=>(if bh=true then(if aD=true then(some 0) else(some (-1))) else(if aD=true then(some 1) else(if a0<a1 then(some (-1)) else(if a0>a1 then(some 1) else(some 0))))))
theorem cmp_Compare_int.calls {a0:Int}{a1:Int}{r:Int}{w:World}(h:cmp_Compare_int.f a0 a1=some r):
  Calls Try.prog 110 #[.int .i64 a0,.int .i64 a1] w fun e w'=>e=.returned (.int .i64 r)/\pE w w':=by
 unfold cmp_Compare_int.f at h;have H:=h;clear h;obtain⟨bh,A3,H⟩:=oC H;(try dsimp only at H);obtain⟨aD,A4,H⟩:=oC H;(try dsimp only at H)
 rcases p8 H with⟨h_,H_⟩|⟨h_,H_⟩<;> (subst h_;clear H;have H:=H_;clear H_)
 ·skip
  rcases p8 H with⟨h_,H_⟩|⟨h_,H_⟩<;> (subst h_;clear H;have H:=H_;clear H_)
  ·obtain rfl:=Option.some.inj H
   go_enter Try.func110,Try.ntmps110
   go_wp2_with (first|((with_reducible refine oh 129 rfl ?_);refine oZ 8 rfl Try.func129 (cmp_isNaN_int.calls A3.out) ?_;rintro e w' ⟨rfl,⟨nd,rfl⟩⟩;refine⟨_,rfl,?_⟩)|((with_reducible refine oh 129 rfl ?_);refine oZ 10 rfl Try.func129 (cmp_isNaN_int.calls A4.out) ?_;rintro e w' ⟨rfl,⟨nd,rfl⟩⟩;refine⟨_,rfl,?_⟩))
   go_ret
   exact⟨nP,by repeat(first|exact pE.refl _|apply pE.step)⟩
  obtain rfl:=Option.some.inj H
  go_enter Try.func110,Try.ntmps110
  go_wp2_with (first|((with_reducible refine oh 129 rfl ?_);refine oZ 8 rfl Try.func129 (cmp_isNaN_int.calls A3.out) ?_;rintro e w' ⟨rfl,⟨nd,rfl⟩⟩;refine⟨_,rfl,?_⟩)|((with_reducible refine oh 129 rfl ?_);refine oZ 10 rfl Try.func129 (cmp_isNaN_int.calls A4.out) ?_;rintro e w' ⟨rfl,⟨nd,rfl⟩⟩;refine⟨_,rfl,?_⟩))
  go_ret
  exact⟨nP,by repeat(first|exact pE.refl _|apply pE.step)⟩
 skip
 rcases p8 H with⟨h_,H_⟩|⟨h_,H_⟩<;> (subst h_;clear H;have H:=H_;clear H_)
 ·obtain rfl:=Option.some.inj H
  go_enter Try.func110,Try.ntmps110
  go_wp2_with (first|((with_reducible refine oh 129 rfl ?_);refine oZ 8 rfl Try.func129 (cmp_isNaN_int.calls A3.out) ?_;rintro e w' ⟨rfl,⟨nd,rfl⟩⟩;refine⟨_,rfl,?_⟩)|((with_reducible refine oh 129 rfl ?_);refine oZ 10 rfl Try.func129 (cmp_isNaN_int.calls A4.out) ?_;rintro e w' ⟨rfl,⟨nd,rfl⟩⟩;refine⟨_,rfl,?_⟩))
  go_ret
  exact⟨nP,by repeat(first|exact pE.refl _|apply pE.step)⟩
 skip
 replace H:=p_ H;rcases H with⟨b8,H⟩|⟨b8,H⟩
 ·obtain rfl:=Option.some.inj H
  go_enter Try.func110,Try.ntmps110
  go_wp2_with (first|((with_reducible refine oh 129 rfl ?_);refine oZ 8 rfl Try.func129 (cmp_isNaN_int.calls A3.out) ?_;rintro e w' ⟨rfl,⟨nd,rfl⟩⟩;refine⟨_,rfl,?_⟩)|((with_reducible refine oh 129 rfl ?_);refine oZ 10 rfl Try.func129 (cmp_isNaN_int.calls A4.out) ?_;rintro e w' ⟨rfl,⟨nd,rfl⟩⟩;refine⟨_,rfl,?_⟩))
  go_ret
  exact⟨nP,by repeat(first|exact pE.refl _|apply pE.step)⟩
 skip
 replace H:=p_ H;rcases H with⟨b9,H⟩|⟨b9,H⟩
 ·obtain rfl:=Option.some.inj H
  go_enter Try.func110,Try.ntmps110
  go_wp2_with (first|((with_reducible refine oh 129 rfl ?_);refine oZ 8 rfl Try.func129 (cmp_isNaN_int.calls A3.out) ?_;rintro e w' ⟨rfl,⟨nd,rfl⟩⟩;refine⟨_,rfl,?_⟩)|((with_reducible refine oh 129 rfl ?_);refine oZ 10 rfl Try.func129 (cmp_isNaN_int.calls A4.out) ?_;rintro e w' ⟨rfl,⟨nd,rfl⟩⟩;refine⟨_,rfl,?_⟩))
  go_ret
  exact⟨nP,by repeat(first|exact pE.refl _|apply pE.step)⟩
 obtain rfl:=Option.some.inj H
 go_enter Try.func110,Try.ntmps110
 go_wp2_with (first|((with_reducible refine oh 129 rfl ?_);refine oZ 8 rfl Try.func129 (cmp_isNaN_int.calls A3.out) ?_;rintro e w' ⟨rfl,⟨nd,rfl⟩⟩;refine⟨_,rfl,?_⟩)|((with_reducible refine oh 129 rfl ?_);refine oZ 10 rfl Try.func129 (cmp_isNaN_int.calls A4.out) ?_;rintro e w' ⟨rfl,⟨nd,rfl⟩⟩;refine⟨_,rfl,?_⟩))
 go_ret
 exact⟨nP,by repeat(first|exact pE.refl _|apply pE.step)⟩
def tL.f (k:Nat) (ac:Int) (aI:Int) (ah:Int) (ag:Int):Option (Int):=(cmp_Compare_int.f ac ah).bind fun aK=>((cmp_Compare_int.f aI ag).bind fun aH=>((sJ.f k (([aK,aH]:List Int))).bind fun aL=>(some aL)))
theorem tL.mono:∀a0 a1 a2 a3 k,LeO (tL.f k a0 a1 a2 a3) (tL.f (k+1) a0 a1 a2 a3):=by intros;unfold tL.f;exact uk sJ.mono
def tL.T1:Bool×List (List Nat×List Nat):=(true,[([],[]),([0],[0]),([],[]),([2],[2]),([1,3],[1,3]),([],[]),([5],[5]),([],[]),([7],[7]),([6,8,4],[6,8]),([4,9],[4,9]),([10,9],[10]),([11,11,0,1,2,3,4,5,6,7,8,9,10,11],[11])])
def tL.B1:List Nat:=[0,1,0,4,15,0,32,0,128,511,1023,2047,4095]
theorem tL.EK:qx .any (opsOf Try.f80 1)=tL.T1:=by kernel_rfl
theorem tL.DJ:qW tL.T1.2 tL.B1=true:=by kernel_rfl
theorem tL.calls {k:Nat}{ac:Int}{aI:Int}{ah:Int}{ag:Int}{r:Int}{w:World}(h:tL.f k ac aI ah ag=some r):
  Calls Try.prog 80 #[.agg #[.int .i64 ac,.int .i64 aI],.agg #[.int .i64 ah,.int .i64 ag]] w fun e w'=>e=.returned (.int .i64 r)/\Below w.heap.size w w':=by
 have bF:=Try.underlying59;have HB:=dm (Below.refl w.heap.size w);unfold tL.f at h;have H:=h;clear h;obtain⟨aK,A3,H⟩:=oC H;(try dsimp only at H);obtain⟨aH,A4,H⟩:=oC H;(try dsimp only at H);obtain⟨b_,br⟩:∃y_:List Int,y_=(([aK,aH]:List Int)):=⟨_,rfl⟩;replace H:((sJ.f k b_).bind fun aL=>(some aL))=some r:=pg br H
 have cg:=dm br;clear br;obtain⟨aL,A5,H⟩:=oC H;(try dsimp only at H);obtain rfl:=Option.some.inj H
 go_enter Try.func80,Try.ntmps80;try go_wp2_with (first|((with_reducible refine nT 2 rfl ?_);refine oK #[.int .i64 ac,.int .i64 aI] 59 ?_;intro aP hg w6 nu hb;have ak:=dm (nu);have dV:=dm (nQ:w.heap.size<=aP);have dW:=dm (nQ:w.heap.size<=aP);replace HB:=nJ HB hb;clear hb nu hg)|((with_reducible refine nT 3 rfl ?_);refine oK #[.int .i64 ah,.int .i64 ag] 59 ?_;intro a_ hg w7 nu hb;have am:=dm (nu);have dX:=dm (nQ:w.heap.size<=a_);have dY:=dm (nQ:w.heap.size<=a_);replace HB:=nJ HB hb;have cI:=dm ((by rw[hg];exact Nat.ne_of_lt (pI (g:=aP) (o:=.cells #[.int .i64 ac,.int .i64 aI] 59 (0,0)) (nG ak.out)):aP≠a_));have cJ:=dm ((by rw[hg];exact Nat.ne_of_gt (pI (g:=aP) (o:=.cells #[.int .i64 ac,.int .i64 aI] 59 (0,0)) (nG ak.out)):a_≠aP));replace ak:=nD ak hb;clear hb nu hg))
 replace ak:=dm (nZ ak.out);replace am:=dm (nZ am.out);replace HB:=dm (pz HB.out);refine qj 13 (S:=fun w'=>w'.cell? ⟨aP,0,none⟩=some (.int .i64 ac)/\w'.cell? ⟨aP,1,none⟩=some (.int .i64 aI)/\w'.cell? ⟨a_,0,none⟩=some (.int .i64 ah)/\w'.cell? ⟨a_,1,none⟩=some (.int .i64 ag)) [] ⟨nz ak 0,nz ak 1,nz am 0,nz am 1⟩ tL.EK tL.DJ (fun hHeld HT_ HW_=>?_);generalize w7.drew=w8 at ak am HB hHeld⊢;refine lq 0 5 1 ?_;refine lq 2 7 5 ?_;refine lq 5 10 37 ?_;refine lq 7 12 165 ?_;refine nR 1 6 167 ?_;refine nR 3 8 175 ?_;refine nR 6 11 239 ?_;refine nR 8 13 495 ?_;refine oO 4 9 511 (fun K hK=>?_);refine qm Try.func110 (cmp_Compare_int.calls A3.out) ?_;rintro e w' ⟨rfl,⟨nd,rfl⟩⟩;refine⟨_,rfl,?_⟩;refine hK.out _ _ ⟨nz ak 0,nz ak 1,nz am 0,nz am 1⟩ (fun hHeld=>?_);clear hK K;refine og 9 ?_;refine oO 9 14 1023 (fun K hK=>?_);refine qm Try.func110 (cmp_Compare_int.calls A4.out) ?_;rintro e w' ⟨rfl,⟨nd,rfl⟩⟩;refine⟨_,rfl,?_⟩;refine hK.out _ _ ⟨nz ak 0,nz ak 1,nz am 0,nz am 1⟩ (fun hHeld=>?_);clear hK K;refine og 14 ?_;refine oO 10 15 2047 (fun K hK=>?_);refine Am (Kd.int .i64) _ 3 ?hg (N:=15) ?hd (xs:=([aK,aH]:List Int)) (inner:=[.int .i64 aK,.int .i64 aH]) (ok:=fun _=>True) (okp:=fun _=>True) ?hr ?hp (fun _ hk=>hk) trivial (Below.refl _ _) (Nat.le_refl _) (by simp) ?_;(case hd=>rfl);(case hg=>rfl);(case hr=>first|(go_simp;done)|(go_simp;rfl));(case hp=>exact(oH.one (show Kd.M (Kd.int .i64) _ _ _ aK [.int .i64 aK] from rfl) (oH.one (show Kd.M (Kd.int .i64) _ _ _ aH [.int .i64 aH] from rfl) (oH.none _ _))));intro es w9 bG hb hg_ pW;clear hg_ pW;(first|rw[←cg.out]at bG|(simp only [Int.reduceToNat]at bG;rw[←cg.out]at bG));have bN:=dm (oJ bG (oF (nC HB.out)));replace ak:=nD ak hb;replace am:=nD am hb;replace HB:=nJ HB hb;clear hb bG;obtain⟨cU,cW,co⟩:=nX bN.out;(first|subst co|(injection co with cL dI cM;have dJ:=cL.symm;have dK:=cM.symm;clear cL dI cM;subst dJ;subst dK));refine hK.out _ _ ⟨nz ak 0,nz ak 1,nz am 0,nz am 1⟩ (fun hHeld=>?_);clear hK K;refine og 15 ?_;refine oO 11 16 4095 (fun K hK=>?_);refine qm Try.func109 (sJ.calls (nS (nK bN.out).2.2) ((nK bN.out).2.1) A5.out) ?_;rintro e w' ⟨rfl,⟨nd,rfl⟩⟩;refine⟨_,rfl,?_⟩;refine hK.out _ _ ⟨nz ak 0,nz ak 1,nz am 0,nz am 1⟩ (fun hHeld=>?_);clear hK K;refine og 16 ?_;refine lq 12 4 8191 ?_;refine qb (qf HT_.out (ou)) ?_;try go_wp2
 go_ret
 exact⟨qH,nC HB.out⟩
def rq.l0:Nat->List (S59)->Int->Option (Bool)
 |0,_,_=>none
 |k+1,x0,x3=>if x3<(x0.length:Int) then(if 0<=(wrap64 (x3 - 1)) then(if(wrap64 (x3 - 1))<(x0.length:Int) then(if 0<=x3 then((tL.f k ((nk x0 (wrap64 (x3 - 1))).f0) ((nk x0 (wrap64 (x3 - 1))).f1) ((nk x0 x3).f0) ((nk x0 x3).f1)).bind fun aR=>(if aR>=0 then(some false) else(rq.l0 k x0 (wrap64 (x3+1))))) else(none)) else(none)) else(none)) else(some true)
def rq.f (k:Nat) (l0:List (S59)):Option (Bool):=rq.l0 k l0 1
theorem rq.tF:∀k,(∀y0 y1,LeO (rq.l0 k y0 y1) (rq.l0 (k+1) y0 y1))
 |0=>fun _ _ r h=>by simp[rq.l0]at h
 |k+1=>by intros;unfold rq.l0;exact uk (rq.tF k) tL.mono
theorem rq.mono:∀a0 k,LeO (rq.f k a0) (rq.f (k+1) a0):=by intro a0 k;unfold rq.f;exact uk (rq.tF k) tL.mono
def rq.T4:Bool×List (List Nat×List Nat):=(true,[([],[]),([],[]),([1],[1]),([0,2],[0,2]),([3],[3]),([],[]),([],[]),([5,6],[5,6]),([7],[7]),([4,8],[4,8]),([9],[9])])
def rq.B4:List Nat:=[0,0,2,7,15,0,0,96,224,511,1023]
theorem rq.xg:qx .any (opsOf Try.f88 4)=rq.T4:=by kernel_rfl
theorem rq.wV:qW rq.T4.2 rq.B4=true:=by kernel_rfl
theorem rq.calls {k:Nat}{A0:Option Addr}{c0:Nat}{l0:List (S59)}{r:Bool}{w:World}(a7:Kd.C k59 w A0 l0.length l0)(a8:l0.length<=c0)(h:rq.f k l0=some r):
  Calls Try.prog 88 #[.slice A0 l0.length c0] w fun e w'=>e=.returned (.bool r)/\Below w.heap.size w w':=by
 have bF:=Try.underlying59;have a6:=dm a7;have cf:=dm a8;clear a7 a8;have HB:=dm (Below.refl w.heap.size w);unfold rq.f at h;have H:=h;clear h;have H':=dm H;clear H
 go_enter Try.func88,Try.ntmps88
 go_wp2
 go_loopg [3] k (fun kq v3 w'=>∃ (af:Int),v3=.int .i64 af/\lm (rq.l0 kq l0 af=some r)/\lm (kq<=k)/\lm (Below w.heap.size w w'))
 case atStart=>exact⟨(1),(nP),H',⟨Nat.le_refl _⟩,⟨nC HB.out⟩⟩
 case round=>
  clear H';obtain⟨af,rfl,HA,bA,HB⟩:=hrel;cases gk with
  |zero=>exact absurd HA.out (by simp[rq.l0])
  |succ k1=>
   have H:=HA.out;clear HA;simp only [rq.l0]at H
   replace H:=p_ H;rcases H with⟨b5,H⟩|⟨b5,H⟩
   ·obtain⟨aj,aQ⟩:∃j_:Int,(wrap64 (af - 1))=j_:=⟨_,rfl⟩;replace H:(if 0<=(aj) then(if(aj)<(l0.length:Int) then(if 0<=af then((tL.f k1 ((nk l0 (aj)).f0) ((nk l0 (aj)).f1) ((nk l0 af).f0) ((nk l0 af).f1)).bind fun aR=>(if aR>=0 then(some false) else(rq.l0 k1 l0 (wrap64 (af+1))))) else(none)) else(none)) else(none))=some r:=by first|(rw[aQ]at H;exact H)|(simp only [aQ]at H⊢;exact H)
    have dZ:(IntKind.i64.wrap (af - 1))=aj:=(qw _).trans aQ
    obtain⟨aY,H⟩:=oz H
    obtain⟨b6,H⟩:=oz H
    obtain⟨cX,H⟩:=oz H;obtain⟨aR,A7,H⟩:=oC H;(try dsimp only at H)
    replace H:=p_ H;rcases H with⟨b8,H⟩|⟨b8,H⟩
    ·obtain rfl:=Option.some.inj H;try go_wp2
     replace HB:=dm (pz HB.out);have bj:0<=((aj):Int):=nA;have bk:(aj)<(l0.length:Int):=nA;obtain⟨av,ca,az,aA⟩:=qJ a6.out (aj) bj bk;have aS:=aA;have aT:=az;cases ca;replace az:=nE HB az;replace aA:=nE HB aA;replace bj:=eq_true bj;replace bk:=eq_true bk;have bl:0<=(af:Int):=nA;have bm:af<(l0.length:Int):=nA;obtain⟨bO,cd,aB,aC⟩:=qJ a6.out af bl bm;have aU:=aC;have aV:=aB;obtain rfl:av=bO:=(by injection cd);replace aB:=nE HB aB;replace aC:=nE HB aC;replace bl:=eq_true bl;replace bm:=eq_true bm;refine qj 11 (S:=fun w'=>w'.cell? (av.add (((aj)).toNat*2))=some (.int .i64 ((nk l0 (aj)).f0))/\w'.cell? ⟨(av.add (((aj)).toNat*2)).block,(av.add (((aj)).toNat*2)).off+1,none⟩=some (.int .i64 ((nk l0 (aj)).f1))/\w'.cell? (av.add ((af).toNat*2))=some (.int .i64 ((nk l0 af).f0))/\w'.cell? ⟨(av.add ((af).toNat*2)).block,(av.add ((af).toNat*2)).off+1,none⟩=some (.int .i64 ((nk l0 af).f1))) [] ⟨(nE HB aT),(nE HB aS),(nE HB aV),(nE HB aU)⟩ rq.xg rq.wV (fun hHeld HT_ HW_=>?_);generalize wr.drew=w9 at HB az aA aB aC hHeld⊢;refine lq 0 10 1 ?_;refine lq 1 11 3 ?_;refine lq 2 12 7 ?_;refine lq 3 13 15 ?_;refine lq 5 15 47 ?_;refine lq 6 16 111 ?_;refine lq 7 17 239 ?_;refine nR 4 14 255 ?_;refine nR 8 18 511 ?_;refine oO 9 19 1023 (fun K hK=>?_);refine uq Try.func80 (ou) rfl #[.agg #[.int .i64 ((nk l0 (aj)).f0),.int .i64 ((nk l0 (aj)).f1)],.agg #[.int .i64 ((nk l0 af).f0),.int .i64 ((nk l0 af).f1)]] (by rfl) rfl rfl (F3) ?_;refine(tL.calls A7.out).mono ?_;rintro e eu ⟨rfl,hb⟩;refine⟨_,rfl,?_⟩;replace HB:=nJ HB hb;(try clear hb);refine hK.out _ _ ⟨(nE HB aT),(nE HB aS),(nE HB aV),(nE HB aU)⟩ (fun hHeld=>?_);clear hK K;refine og 19 ?_;refine lq 10 20 2047 ?_;refine qb (qf HT_.out (ou)) ?_;try go_wp2
     go_ret
     exact⟨by first|rfl|(simp[rE,rF]<;>rfl)|(simp only [←aQ];first|rfl|(simp[rE,rF]<;>rfl))|(simp[*,rE,rF]<;>rfl),nC HB.out⟩
    have H':=dm H;clear H;try go_wp2
    replace HB:=dm (pz HB.out);have bj:0<=((aj):Int):=nA;have bk:(aj)<(l0.length:Int):=nA;obtain⟨av,ca,az,aA⟩:=qJ a6.out (aj) bj bk;have aS:=aA;have aT:=az;cases ca;replace az:=nE HB az;replace aA:=nE HB aA;replace bj:=eq_true bj;replace bk:=eq_true bk;have bl:0<=(af:Int):=nA;have bm:af<(l0.length:Int):=nA;obtain⟨bO,cd,aB,aC⟩:=qJ a6.out af bl bm;have aU:=aC;have aV:=aB;obtain rfl:av=bO:=(by injection cd);replace aB:=nE HB aB;replace aC:=nE HB aC;replace bl:=eq_true bl;replace bm:=eq_true bm;refine qj 11 (S:=fun w'=>w'.cell? (av.add (((aj)).toNat*2))=some (.int .i64 ((nk l0 (aj)).f0))/\w'.cell? ⟨(av.add (((aj)).toNat*2)).block,(av.add (((aj)).toNat*2)).off+1,none⟩=some (.int .i64 ((nk l0 (aj)).f1))/\w'.cell? (av.add ((af).toNat*2))=some (.int .i64 ((nk l0 af).f0))/\w'.cell? ⟨(av.add ((af).toNat*2)).block,(av.add ((af).toNat*2)).off+1,none⟩=some (.int .i64 ((nk l0 af).f1))) [] ⟨(nE HB aT),(nE HB aS),(nE HB aV),(nE HB aU)⟩ rq.xg rq.wV (fun hHeld HT_ HW_=>?_);generalize wr.drew=ev at HB az aA aB aC hHeld⊢;refine lq 0 10 1 ?_;refine lq 1 11 3 ?_;refine lq 2 12 7 ?_;refine lq 3 13 15 ?_;refine lq 5 15 47 ?_;refine lq 6 16 111 ?_;refine lq 7 17 239 ?_;refine nR 4 14 255 ?_;refine nR 8 18 511 ?_;refine oO 9 19 1023 (fun K hK=>?_);refine uq Try.func80 (ou) rfl #[.agg #[.int .i64 ((nk l0 (aj)).f0),.int .i64 ((nk l0 (aj)).f1)],.agg #[.int .i64 ((nk l0 af).f0),.int .i64 ((nk l0 af).f1)]] (by rfl) rfl rfl (F3) ?_;refine(tL.calls A7.out).mono ?_;rintro e ew ⟨rfl,hb⟩;refine⟨_,rfl,?_⟩;replace HB:=nJ HB hb;(try clear hb);refine hK.out _ _ ⟨(nE HB aT),(nE HB aS),(nE HB aV),(nE HB aU)⟩ (fun hHeld=>?_);clear hK K;refine og 19 ?_;refine lq 10 20 2047 ?_;refine qb (qf HT_.out (ou)) ?_;try go_wp2
    go_roundg k1
    case measure=>have:=bA.out;omega
    case rel=>exact⟨(wrap64 (af+1)),(nP),H',⟨by have:=bA.out;omega⟩,⟨nC HB.out⟩⟩
   obtain rfl:=Option.some.inj H
   go_wp2
   go_ret
   exact⟨qH,nC HB.out⟩
mutual
def qL.j0:Nat->Bool->Int->List (S59)->Option (Bool)
 |0,_,_,_=>none
 |k+1,dL,ba,aO=>if dL=true then(some false) else(qL.l0 k aO (aO.length:Int) 0 ba aO)
def qL.l0:Nat->List (S59)->Int->Int->Int->List (S59)->Option (Bool)
 |0,_,_,_,_,_=>none
 |k+1,bH,cN,bB,ba,aO=>if bB<cN then(if 0<=bB then(if bB<(bH.length:Int) then(if((nk bH bB).f0)<0 then(some false) else(if((nk bH bB).f0)>=((nk bH bB).f1) then(some false) else(if((nk bH bB).f1)>=ba then(some false) else(qL.l0 k bH cN (wrap64 (bB+1)) ba aO)))) else(none)) else(none)) else((rq.f k aO).bind fun bP=>(some bP))
end
def qL.f (k:Nat) (ac:Int) (aa:List (S59)):Option (Bool):=if ac<0 then(qL.j0 k true ac aa) else(qL.j0 k (decide (ac>8)) ac aa)
theorem qL.tF:∀k,(∀y0 y1 y2,LeO (qL.j0 k y0 y1 y2) (qL.j0 (k+1) y0 y1 y2))/\(∀y0 y1 y2 y3 y4,LeO (qL.l0 k y0 y1 y2 y3 y4) (qL.l0 (k+1) y0 y1 y2 y3 y4))
 |0=>⟨fun _ _ _ r h=>by simp[qL.j0]at h,fun _ _ _ _ _ r h=>by simp[qL.l0]at h⟩
 |k+1=>by
  obtain⟨ax,bX⟩:=qL.tF k;refine⟨?_,?_⟩<;>intros
  all_goals (first|unfold qL.j0|unfold qL.l0);exact uk ax bX rq.mono
theorem qL.mono:∀a0 a1 k,LeO (qL.f k a0 a1) (qL.f (k+1) a0 a1):=by intro a0 a1 k;obtain⟨ax,bX⟩:=qL.tF k;unfold qL.f;exact uk ax bX rq.mono
theorem qL.calls {k:Nat}{ac:Int}{aM:Option Addr}{aG:Nat}{aa:List (S59)}{r:Bool}{w:World}(bu:Kd.C k59 w aM aa.length aa)(bv:aa.length<=aG)(h:qL.f k ac aa=some r):
  Calls Try.prog 50 #[.agg #[.int .i64 ac,.slice aM aa.length aG]] w fun e w'=>e=.returned (.bool r)/\Below w.heap.size w w':=by
 have cY:=Try.underlying31;have bF:=Try.underlying59;have aZ:=dm bu;have bQ:=dm bv;clear bu bv;have HB:=dm (Below.refl w.heap.size w);unfold qL.f at h;have H:=h;clear h;have cp:=dm H;clear H
 go_enter Try.func50,Try.ntmps50
 go_upto_region 1 with(first|((with_reducible refine nT 1 rfl ?_);refine oK #[.int .i64 ac,.slice aM aa.length aG] 31 ?_;intro aw hg w3 nu hb;have ai:=dm (nu);have d7:=dm (nQ:w.heap.size<=aw);have d8:=dm (nQ:w.heap.size<=aw);replace HB:=nJ HB hb;clear hb nu hg))
 (try simp only [Act.put,List.setIfInBounds_toArray,List.set_cons_zero,List.set_cons_succ])
 go_cut [12] (fun dM wc=>∃ (kq:Nat) (bC:Bool),dM=.bool bC/\lm (qL.j0 kq bC ac aa=some r)/\lm (kq<=k)/\lm (wc.heap[aw]? =some (.cells #[.int .i64 ac,(.slice aM aa.length aG)] 31 (0,0)))/\lm (Below w.heap.size w wc))
 case first=>
  have H:=cp.out;clear cp
  replace H:=p_ H;rcases H with⟨aY,H⟩|⟨aY,H⟩
  ·(first|rw[aY]|(simp only [qw,qM];rw[aY])|skip);have H':=dm H;clear H;have⟨cq,cr,ct,cu⟩:=nI (w:=w3) ai
   go_wp2
   go_meet
   case rel=>exact⟨_,(true),(nP),H',⟨by first|omega|exact Nat.le_refl _⟩,⟨nG ai.out⟩,⟨nC HB.out⟩⟩
  (first|rw[aY]|(simp only [qw,qM];rw[aY])|skip);have H':=dm H;clear H;have⟨cv,cw,cx,cy⟩:=nI (w:=w3) ai
  go_wp2
  go_meet
  case rel=>exact⟨_,(decide (ac>8)),(nP),H',⟨by first|omega|exact Nat.le_refl _⟩,⟨nG ai.out⟩,⟨nC HB.out⟩⟩
 case rest=>
  clear cp;obtain⟨kq,bC,rfl,HA,cO,ai,HB⟩:=hcut;cases kq with
  |zero=>exact absurd HA.out (by simp[qL.j0])
  |succ cz=>
   have H:=HA.out;clear HA;simp only [qL.j0]at H
   rcases p8 H with⟨h_,H_⟩|⟨h_,H_⟩<;> (subst h_;clear H;have H:=H_;clear H_)
   ·obtain rfl:=Option.some.inj H
    go_wp2
    go_ret
    exact⟨qH,nC HB.out⟩
   have H':=dm H;clear H;have⟨bY,bZ,b3,b4⟩:=nI (w:=wc) ai
   go_wp2
   go_loopg [16] cz (fun kq dN w'=>∃ (ae:Int),dN=.int .i64 ae/\lm (qL.l0 kq aa (aa.length:Int) ae ac aa=some r)/\lm (kq<=cz)/\lm (w'.heap[aw]? =some (.cells #[.int .i64 ac,(.slice aM aa.length aG)] 31 (0,0)))/\lm (Below w.heap.size w w'))
   case atStart=>exact⟨(0),(nP),H',⟨Nat.le_refl _⟩,⟨nG ai.out⟩,⟨nC HB.out⟩⟩
   case round=>
    clear H';(try clear c7 bY bZ b3 b4);obtain⟨ae,rfl,HA,cP,ai,HB⟩:=hrel;cases gk with
    |zero=>exact absurd HA.out (by simp[qL.l0])
    |succ k2=>
     have H:=HA.out;clear HA;simp only [qL.l0]at H
     replace H:=p_ H;rcases H with⟨b9,H⟩|⟨b9,H⟩
     ·skip
      obtain⟨d9,H⟩:=oz H
      obtain⟨d_,H⟩:=oz H
      replace H:=p_ H;rcases H with⟨cE,H⟩|⟨cE,H⟩
      ·obtain rfl:=Option.some.inj H;have aE:0<=(ae:Int):=nA;have aF:ae<(aa.length:Int):=nA;obtain⟨bq,bn,aq,au⟩:=qJ aZ.out ae aE aF;cases bn;replace aq:=nE HB aq;replace au:=nE HB au;replace aE:=eq_true aE;replace aF:=eq_true aF
       go_wp2_with (first|((with_reducible refine nT 4 rfl ?_);refine oK #[.int .i64 0,.int .i64 0] 59 ?_;intro al hg dO nu hb;have a4:=dm (nu);have bR:=dm (nQ:w.heap.size<=al);have bS:=dm (nQ:w.heap.size<=al);replace HB:=nJ HB hb;have ao:=dm (BS:aw≠al);have ay:=dm (BU:al≠aw);replace ai:=nD ai hb;clear hb nu hg;have ea:=ay.out;have eb:=ao.out;have⟨dc,dd,de,df⟩:=nI (w:=dO) a4))
       go_ret
       exact⟨qH,nC HB.out⟩
      skip
      replace H:=p_ H;rcases H with⟨cF,H⟩|⟨cF,H⟩
      ·obtain rfl:=Option.some.inj H;have aE:0<=(ae:Int):=nA;have aF:ae<(aa.length:Int):=nA;obtain⟨bq,bn,aq,au⟩:=qJ aZ.out ae aE aF;cases bn;replace aq:=nE HB aq;replace au:=nE HB au;replace aE:=eq_true aE;replace aF:=eq_true aF
       go_wp2_with (first|((with_reducible refine nT 4 rfl ?_);refine oK #[.int .i64 0,.int .i64 0] 59 ?_;intro al hg dP nu hb;have a4:=dm (nu);have bR:=dm (nQ:w.heap.size<=al);have bS:=dm (nQ:w.heap.size<=al);replace HB:=nJ HB hb;have ao:=dm (BS:aw≠al);have ay:=dm (BU:al≠aw);replace ai:=nD ai hb;clear hb nu hg;have ec:=ay.out;have ed:=ao.out;have⟨dg,dh,di,dj⟩:=nI (w:=dP) a4))
       go_ret
       exact⟨qH,nC HB.out⟩
      skip
      replace H:=p_ H;rcases H with⟨cG,H⟩|⟨cG,H⟩
      ·obtain rfl:=Option.some.inj H;have aE:0<=(ae:Int):=nA;have aF:ae<(aa.length:Int):=nA;obtain⟨bq,bn,aq,au⟩:=qJ aZ.out ae aE aF;cases bn;replace aq:=nE HB aq;replace au:=nE HB au;replace aE:=eq_true aE;replace aF:=eq_true aF
       go_wp2_with (first|((with_reducible refine nT 4 rfl ?_);refine oK #[.int .i64 0,.int .i64 0] 59 ?_;intro al hg cQ nu hb;have a4:=dm (nu);have bR:=dm (nQ:w.heap.size<=al);have bS:=dm (nQ:w.heap.size<=al);replace HB:=nJ HB hb;have ao:=dm (BS:aw≠al);have ay:=dm (BU:al≠aw);replace ai:=nD ai hb;clear hb nu hg;have ee:=ay.out;have ef:=ao.out;have⟨dk,dl,dn,dq⟩:=nI (w:=cQ) a4;have⟨dr,dt,du,dv⟩:=nI (w:=cQ) ai))
       go_ret
       exact⟨qH,nC HB.out⟩
      have H':=dm H;clear H;have aE:0<=(ae:Int):=nA;have aF:ae<(aa.length:Int):=nA;obtain⟨bq,bn,aq,au⟩:=qJ aZ.out ae aE aF;cases bn;replace aq:=nE HB aq;replace au:=nE HB au;replace aE:=eq_true aE;replace aF:=eq_true aF
      go_wp2_with (first|((with_reducible refine nT 4 rfl ?_);refine oK #[.int .i64 0,.int .i64 0] 59 ?_;intro al hg cS nu hb;have a4:=dm (nu);have bR:=dm (nQ:w.heap.size<=al);have bS:=dm (nQ:w.heap.size<=al);replace HB:=nJ HB hb;have ao:=dm (BS:aw≠al);have ay:=dm (BU:al≠aw);replace ai:=nD ai hb;clear hb nu hg;have eg:=ay.out;have eh:=ao.out;have⟨dw,dx,dy,dz⟩:=nI (w:=cS) a4;have⟨dA,dB,dC,dD⟩:=nI (w:=cS) ai))
      go_roundg k2
      case measure=>have:=cO.out;have:=cP.out;omega
      case rel=>exact⟨(wrap64 (ae+1)),(nP),H',⟨by have:=cO.out;have:=cP.out;omega⟩,⟨pJ ai.out⟩,⟨nC HB.out⟩⟩
     obtain⟨bP,dQ,H⟩:=oC H;(try dsimp only at H);obtain rfl:=Option.some.inj H;have⟨dE,dF,dG,dH⟩:=nI (w:=wr) ai
     go_wp2_with (first|((with_reducible refine oh 88 rfl ?_);refine rf 40 rfl Try.func88 (rq.calls (nS (oG aZ.out HB.out)) bQ.out dQ.out) ?_;intro ex hb;replace ai:=nD ai hb;replace HB:=nJ HB hb;(try clear hb)))
     go_ret
     exact⟨qH,nC HB.out⟩
def vW.f (a0:Int) (a1:Int):Option (Int×Int):=some (mn a0 a1,mx a0 a1)
theorem vW.calls {a0:Int}{a1:Int}{r1:Int}{r2:Int}{w:World}(h:vW.f a0 a1=some (r1,r2)):
  Calls Try.prog 53 #[.int .i64 a0,.int .i64 a1] w fun e w'=>e=.returned (.agg #[.int .i64 r1,.int .i64 r2])/\Below w.heap.size w w':=by
 have bF:=Try.underlying59;have HB:=dm (Below.refl w.heap.size w);unfold vW.f at h;have H:=h;clear h;obtain⟨aj,aQ⟩:∃j_:Int,(mn a0 a1)=j_:=⟨_,rfl⟩;replace H:(some (aj,mx a0 a1))=some (r1,r2):=by first|(rw[aQ]at H;exact H)|(simp only [aQ]at H⊢;exact H)
 have ei:(if a1<a0 then a1 else a0)=aj:=aQ;obtain⟨cA,bT⟩:∃j_:Int,(mx a0 a1)=j_:=⟨_,rfl⟩;replace H:(some (aj,cA))=some (r1,r2):=by first|(rw[bT]at H;exact H)|(simp only [bT]at H⊢;exact H)
 have ej:(if a0<a1 then a1 else a0)=cA:=bT;simp only [Option.some.injEq,Prod.mk.injEq]at H;obtain⟨rfl,rfl⟩:=H
 go_enter Try.func53,Try.ntmps53
 go_wp2_with (first|((with_reducible refine nT 4 rfl ?_);refine oK #[.int .i64 0,.int .i64 0] 59 ?_;intro bU hg w5 nu hb;have ci:=dm (nu);have ek:=dm (nQ:w.heap.size<=bU);have el:=dm (nQ:w.heap.size<=bU);replace HB:=nJ HB hb;clear hb nu hg;have⟨cv,cw,cx,cy⟩:=nI (w:=w5) ci))
 refine bodyPost_ret (results_cell_row rfl _ _ bU 59 #[.int .i64 aj,.int .i64 cA] (0,0) _ rfl (pJ ci.out) Try.underlying59 rfl (ou)) rfl ?_;exact⟨by first|rfl|(simp[rE,rF]<;>rfl)|(simp only [←aQ,←bT];first|rfl|(simp[rE,rF]<;>rfl))|(simp[*,rE,rF]<;>rfl),nC HB.out⟩
def sQ.l0:Nat->List (S59)->Int->Int->Int->Int->Option (Int)
 |0,_,_,_,_,_=>none
 |k+1,x0,x7,x8,bL,bM=>if x8<x7 then(if 0<=x8 then(if x8<(x0.length:Int) then(if(bL==((nk x0 x8).f0)&&(bM==((nk x0 x8).f1)))=true then(some x8) else(sQ.l0 k x0 x7 (wrap64 (x8+1)) bL bM)) else(none)) else(none)) else(some (-1))
def sQ.f (k:Nat) (l0:List (S59)) (ah:Int) (ag:Int):Option (Int):=sQ.l0 k l0 (l0.length:Int) 0 ah ag
theorem sQ.tF:∀k,(∀y0 y1 y2 y3 y4,LeO (sQ.l0 k y0 y1 y2 y3 y4) (sQ.l0 (k+1) y0 y1 y2 y3 y4))
 |0=>fun _ _ _ _ _ r h=>by simp[sQ.l0]at h
 |k+1=>by intros;unfold sQ.l0;exact uk (sQ.tF k)
theorem sQ.mono:∀a0 a1 a2 k,LeO (sQ.f k a0 a1 a2) (sQ.f (k+1) a0 a1 a2):=by intro a0 a1 a2 k;unfold sQ.f;exact uk (sQ.tF k)
theorem sQ.calls {k:Nat}{A0:Option Addr}{c0:Nat}{l0:List (S59)}{ah:Int}{ag:Int}{r:Int}{w:World}(a7:Kd.C k59 w A0 l0.length l0)(a8:l0.length<=c0)(h:sQ.f k l0 ah ag=some r):
  Calls Try.prog 111 #[.slice A0 l0.length c0,.agg #[.int .i64 ah,.int .i64 ag]] w fun e w'=>e=.returned (.int .i64 r)/\Below w.heap.size w w':=by
 have bF:=Try.underlying59;have a6:=dm a7;have cf:=dm a8;clear a7 a8;have HB:=dm (Below.refl w.heap.size w);unfold sQ.f at h;have H:=h;clear h;have H':=dm H;clear H
 go_enter Try.func111,Try.ntmps111
 go_wp2_with (first|((with_reducible refine nT 3 rfl ?_);refine oK #[.int .i64 ah,.int .i64 ag] 59 ?_;intro aN hg w3 nu hb;have a5:=dm (nu);have cj:=dm (nQ:w.heap.size<=aN);have ck:=dm (nQ:w.heap.size<=aN);replace HB:=nJ HB hb;clear hb nu hg))
 repeat(go_quiet (first|((with_reducible refine nT 3 rfl ?_);refine oK #[.int .i64 ah,.int .i64 ag] 59 ?_;intro aN hg w3 nu hb;have a5:=dm (nu);have cj:=dm (nQ:w.heap.size<=aN);have ck:=dm (nQ:w.heap.size<=aN);replace HB:=nJ HB hb;clear hb nu hg));try go_wp2_with (first|((with_reducible refine nT 3 rfl ?_);refine oK #[.int .i64 ah,.int .i64 ag] 59 ?_;intro aN hg w3 nu hb;have a5:=dm (nu);have cj:=dm (nQ:w.heap.size<=aN);have ck:=dm (nQ:w.heap.size<=aN);replace HB:=nJ HB hb;clear hb nu hg)))
 go_loopg [8] k (fun kq v8 w'=>∃ (ab:Int),v8=.int .i64 ab/\lm (sQ.l0 kq l0 (l0.length:Int) ab ah ag=some r)/\lm (kq<=k)/\lm (w'.heap[aN]? =some (.cells #[.int .i64 ah,.int .i64 ag] 59 (0,0)))/\lm (Below w.heap.size w w'))
 case atStart=>exact⟨(0),(nP),H',⟨Nat.le_refl _⟩,⟨nG a5.out⟩,⟨nC HB.out⟩⟩
 case round=>
  clear H';obtain⟨ab,rfl,HA,bA,a5,HB⟩:=hrel;cases gk with
  |zero=>exact absurd HA.out (by simp[sQ.l0])
  |succ k1=>
   have H:=HA.out;clear HA;simp only [sQ.l0]at H
   replace H:=p_ H;rcases H with⟨aY,H⟩|⟨aY,H⟩
   ·skip
    obtain⟨b6,H⟩:=oz H
    obtain⟨cX,H⟩:=oz H
    by_cases c7:(ah==((nk l0 ab).f0)&&(ag==((nk l0 ab).f1)))=true
    ·rw[if_pos c7]at H;have cZ:(ah==((nk l0 ab).f0)&&(ag==((nk l0 ab).f1)))=true:=c7;(try(have c_:decide (ah=((nk l0 ab).f0)&&(ag==((nk l0 ab).f1)))=true:=by simpa using c7));(try(have db:(ah==((nk l0 ab).f0)&&(ag==((nk l0 ab).f1)))=true:=by simpa using c7));clear c7;obtain rfl:=Option.some.inj H;have⟨bY,bZ,b3,b4⟩:=nI (w:=wr) a5;have bo:0<=(ab:Int):=nA;have bp:ab<(l0.length:Int):=nA;obtain⟨cH,ce,aW,aX⟩:=qJ a6.out ab bo bp;cases ce;replace aW:=nE HB aW;replace aX:=nE HB aX;replace bo:=eq_true bo;replace bp:=eq_true bp
     go_wp2
     repeat(go_quiet (fail);try go_wp2)
     go_ret
     exact⟨qH,nC HB.out⟩
    rw[if_neg c7]at H;have cZ:(ah==((nk l0 ab).f0)&&(ag==((nk l0 ab).f1)))=false:=by simpa using c7
    (try(have c_:decide (ah=((nk l0 ab).f0)&&(ag==((nk l0 ab).f1)))=false:=by simpa using c7));(try(have db:(ah==((nk l0 ab).f0)&&(ag==((nk l0 ab).f1)))=false:=by simpa using c7));(try(have et:¬ (ah=((nk l0 ab).f0)&&(ag==((nk l0 ab).f1))):=by simpa using c7));clear c7;have H':=dm H;clear H;have⟨dR,dS,dT,dU⟩:=nI (w:=wr) a5;have bo:0<=(ab:Int):=nA;have bp:ab<(l0.length:Int):=nA;obtain⟨cH,ce,aW,aX⟩:=qJ a6.out ab bo bp;cases ce;replace aW:=nE HB aW;replace aX:=nE HB aX;replace bo:=eq_true bo;replace bp:=eq_true bp
    go_wp2
    repeat(go_quiet (fail);try go_wp2)
    go_roundg k1
    case measure=>have:=bA.out;omega
    case rel=>exact⟨(wrap64 (ab+1)),(nP),H',⟨by have:=bA.out;omega⟩,⟨nG a5.out⟩,⟨nC HB.out⟩⟩
   obtain rfl:=Option.some.inj H
   go_wp2
   repeat(go_quiet (fail);try go_wp2)
   go_ret
   exact⟨qH,nC HB.out⟩
def vI.f (k:Nat) (l0:List (S59)) (ah:Int) (ag:Int):Option (Bool):=(sQ.f k l0 ah ag).bind fun bz=>(some (decide (bz>=0)))
theorem vI.mono:∀a0 a1 a2 k,LeO (vI.f k a0 a1 a2) (vI.f (k+1) a0 a1 a2):=by intros;unfold vI.f;exact uk sQ.mono
theorem vI.calls {k:Nat}{A0:Option Addr}{c0:Nat}{l0:List (S59)}{ah:Int}{ag:Int}{r:Bool}{w:World}(a7:Kd.C k59 w A0 l0.length l0)(a8:l0.length<=c0)(h:vI.f k l0 ah ag=some r):
  Calls Try.prog 81 #[.slice A0 l0.length c0,.agg #[.int .i64 ah,.int .i64 ag]] w fun e w'=>e=.returned (.bool r)/\Below w.heap.size w w':=by
 have bF:=Try.underlying59;have a6:=dm a7;have cf:=dm a8;clear a7 a8;have HB:=dm (Below.refl w.heap.size w);unfold vI.f at h;have H:=h;clear h;obtain⟨bz,A3,H⟩:=oC H;(try dsimp only at H);obtain rfl:=Option.some.inj H
 go_enter Try.func81,Try.ntmps81
 go_wp2_with (first|((with_reducible refine nT 3 rfl ?_);refine oK #[.int .i64 ah,.int .i64 ag] 59 ?_;intro cl hg w4 nu hb;have bD:=dm (nu);have em:=dm (nQ:w.heap.size<=cl);have en:=dm (nQ:w.heap.size<=cl);replace HB:=nJ HB hb;clear hb nu hg;have⟨cq,cr,ct,cu⟩:=nI (w:=w4) bD)|((with_reducible refine oh 111 rfl ?_);refine rf 7 rfl Try.func111 (sQ.calls (nS (oG a6.out HB.out)) cf.out A3.out) ?_;intro w6 hb;replace bD:=nD bD hb;replace HB:=nJ HB hb;(try clear hb)))
 go_ret
 exact⟨qH,nC HB.out⟩
def vH.f (k:Nat) (ac:Int) (aa:List (S59)) (a1:Int) (a2:Int):Option (Bool):=(vW.f a1 a2).bind fun bx=>((vI.f k aa bx.1 bx.2).bind fun a9=>(some a9))
theorem vH.mono:∀a0 a1 a2 a3 k,LeO (vH.f k a0 a1 a2 a3) (vH.f (k+1) a0 a1 a2 a3):=by intros;unfold vH.f;exact uk vI.mono
theorem vH.calls {k:Nat}{ac:Int}{aM:Option Addr}{aG:Nat}{aa:List (S59)}{a1:Int}{a2:Int}{r:Bool}{w:World}(bu:Kd.C k59 w aM aa.length aa)(bv:aa.length<=aG)(h:vH.f k ac aa a1 a2=some r):
  Calls Try.prog 65 #[.agg #[.int .i64 ac,.slice aM aa.length aG],.int .i64 a1,.int .i64 a2] w fun e w'=>e=.returned (.bool r)/\Below w.heap.size w w':=by
 have cY:=Try.underlying31;have aZ:=dm bu;have bQ:=dm bv;clear bu bv;have HB:=dm (Below.refl w.heap.size w);unfold vH.f at h;have H:=h;clear h;obtain⟨⟨bV,bW⟩,A4,H⟩:=oC H;(try dsimp only at H);obtain⟨a9,A5,H⟩:=oC H;(try dsimp only at H);obtain rfl:=Option.some.inj H
 go_enter Try.func65,Try.ntmps65;try go_wp2_with (first|((with_reducible refine nT 3 rfl ?_);refine oK #[.int .i64 ac,.slice aM aa.length aG] 31 ?_;intro bE hg w6 nu hb;have ap:=dm (nu);have eo:=dm (nQ:w.heap.size<=bE);have ep:=dm (nQ:w.heap.size<=bE);replace HB:=nJ HB hb;clear hb nu hg))
 replace ap:=dm (nZ ap.out);replace HB:=dm (pz HB.out);refine zt (n:=7) (S:=fun w'=>w'.cell? ⟨bE,0,none⟩=some (.int .i64 ac)/\w'.cell? ⟨bE,1,none⟩=some (.slice aM aa.length aG)) (ds:=[]) (pQ 7 0) (ou) rfl (ou) ⟨nz ap 0,nz ap 1⟩ (fun hHeld=>?_);generalize w6.drew=w7 at ap HB hHeld⊢;refine lq 0 7 1 ?_;refine lq 2 9 5 ?_;refine lq 3 10 13 ?_;refine nR 1 8 15 ?_;refine wD (i:=4) (N:=some 11) (pQ 7 31) rfl rfl (ou) (by decide) (fun K hK=>?_);refine tX Try.func53 (vW.calls A4.out) ?_;intro w8 hb;replace ap:=nD ap hb;replace HB:=nJ HB hb;(try clear hb);refine hK.out _ _ ⟨nz ap 0,nz ap 1⟩ (fun hHeld=>?_);clear hK K;refine og 11 ?_;refine wD (i:=5) (N:=some 12) (pQ 7 63) rfl rfl (ou) (by decide) (fun K hK=>?_);refine tX Try.func81 (vI.calls (nS (oG aZ.out HB.out)) bQ.out A5.out) ?_;intro w9 hb;replace ap:=nD ap hb;replace HB:=nJ HB hb;(try clear hb);refine hK.out _ _ ⟨nz ap 0,nz ap 1⟩ (fun hHeld=>?_);clear hK K;refine og 12 ?_;refine lq 6 6 127 ?_;refine qb (ou) ?_;try go_wp2
 go_ret
 exact⟨qH,nC HB.out⟩
end Go.Proofs.Ytgeonpciodepgaa.P
namespace Go.Proofs.Ytgeonpciodepgaa.P
open Go.RowKit Go.Proofs.YtgeonpciodepgaaW.PrintWords Go.Proofs.Ytgeonpciodepgaa.G Go.Proofs.YtgeonpciodepgaaW.PrintWords.Kd
def AX (t:G.Tie) (i:Nat):MapEntry:=⟨.agg #[.int .i64 t.f0,.int .i64 t.f1],.bool true,i⟩
def uD:Nat->List G.Tie->List MapEntry
 |_,[]=>[]
 |i,t::r=>AX t i::uD (i+1) r
def rX (l:List G.Tie):Obj:=.map (uD 0 l).toArray l.length
def uK:List G.Tie->Int->Int->Bool
 |[],_,_=>false
 |t::r,a,b=>(a==t.f0&&b==t.f1)||uK r a b
theorem H9:∀ (l:List G.Tie) (i:Nat),(uD i l).length=l.length
 |[],_=>rfl
 |_::r,i=>by simp[uD,H9 r]
theorem Ia (t:G.Tie):∀ (l:List G.Tie) (i:Nat),uD i l++[AX t (i+l.length)]=uD i (l++[t])
 |[],i=>by simp[uD]
 |x::r,i=>by
  simp only [uD,List.cons_append,List.length_cons]
  rw[←Ia t r (i+1)]
  simp[Nat.add_comm,Nat.add_left_comm,Nat.add_assoc]
theorem Mk (l:List G.Tie) (t:G.Tie):Obj.map ((uD 0 l).toArray.push (AX t l.length)) (l.length+1)=rX (l++[t]):=by
 have h:=Ia t l 0
 simp only [Nat.zero_add]at h
 simp[rX,←h]
theorem mEq (d:Nat) (w:World) (x0 y0:Int) (x1 y1:Int):
  (Op.equalIn (d+2) 59 (.agg #[.int .i64 x0,.int .i64 x1]) (.agg #[.int .i64 y0,.int .i64 y1])).run Try.prog w=.ok (x0==y0&&(x1==y1)) w:=by
 refine Hd Try.underlying59 (by kernel_rfl) ?_
 refine He (by rfl) (by go_simp;rfl) (by go_simp;rfl) (by go_simp) ?_
 exact Hf (by rfl) (by go_simp;rfl) (by go_simp;rfl) (by go_simp)
theorem Mg (w:World) (x0 y0:Int) (x1 y1:Int):
  (Op.equal 59 (.agg #[.int .i64 x0,.int .i64 x1]) (.agg #[.int .i64 y0,.int .i64 y1])).run Try.prog w=.ok (x0==y0&&(x1==y1)) w:=mEq _ w x0 y0 x1 y1
theorem H7 (w:World) (a b:Int):∀ (l:List G.Tie) (i j:Nat),
  (uK l a b=false->(Instr.findAsking 59 (.agg #[.int .i64 a,.int .i64 b]) (uD i l) j).run Try.prog w=.ok none w)/\
  (uK l a b=true->∃n,(Instr.findAsking 59 (.agg #[.int .i64 a,.int .i64 b]) (uD i l) j).run Try.prog w=.ok (some (n,.bool true)) w)
 |[],i,j=>⟨fun _=>by simp[uD,Instr.findAsking],fun h=>by simp[uK]at h⟩
 |t::r,i,j=>by
  have ih:=H7 w a b r (i+1) (j+1)
  simp only [uD,Instr.findAsking,uK]
  have e:(Op.equal 59 (.agg #[.int .i64 a,.int .i64 b]) (AX t i).key).run Try.prog w=.ok (a==t.f0&&(b==t.f1)) w:=Mg w a t.f0 b t.f1
  cases h:(a==t.f0&&b==t.f1)
  ·simp only [Bool.false_or]
   rw[h]at e
   refine⟨fun h1=>?_,fun h1=>?_⟩
   ·simp[Sem.run_bind,e,Result.andThen,ih.1 h1]
   obtain⟨n,hn⟩:=ih.2 h1
   exact⟨n,by simp[Sem.run_bind,e,Result.andThen,hn]⟩
  rw[h]at e
  exact⟨fun h1=>by simp at h1,fun _=>⟨j,by simp[Sem.run_bind,e,Result.andThen];rfl⟩⟩
theorem Ib (w:World) (a b:Int) (l:List G.Tie):
  (uK l a b=false->(Instr.findKey 59 (.agg #[.int .i64 a,.int .i64 b]) (uD 0 l)).run Try.prog w=.ok none w)/\
  (uK l a b=true->∃n,(Instr.findKey 59 (.agg #[.int .i64 a,.int .i64 b]) (uD 0 l)).run Try.prog w=.ok (some (n,.bool true)) w):=by
 have h:=H7 w a b l 0 0
 unfold Instr.findKey
 cases l with
 |nil=>exact⟨fun _=>by simp[uD,Instr.findNow,Sem.run_bind,run_underlying Try.underlying59,Result.andThen],fun h=>by simp[uK]at h⟩
 |cons t r=>
  refine⟨fun h1=>?_,fun h1=>?_⟩
  ·simp[Sem.run_bind,run_underlying Try.underlying59,Result.andThen,Instr.findNow,uD,Instr.sameNow]
   simpa [uD] using h.1 h1
  obtain⟨n,hn⟩:=h.2 h1
  exact⟨n,by
   simp[Sem.run_bind,run_underlying Try.underlying59,Result.andThen,Instr.findNow,uD,Instr.sameNow]
   simpa [uD] using hn⟩
theorem Ex (w:World) (em:Bool) (a b:Int):(Instr.checkKey em 10000 59 (.agg #[.int .i64 a,.int .i64 b])).run Try.prog w=.ok () w:=by
 have c:∀x:Int,(Instr.checkKey em 9999 3 (.int .i64 x)).run Try.prog w=.ok () w:=fun x=>MapKept.run_checkKey (k:=.int .i64 x) Try.underlying3 (show MapKept.IsKey (.int .i64) (.int .i64 x) from rfl) em 9998
 unfold Instr.checkKey
 simp[Sem.run_bind,run_underlying Try.underlying59,Result.andThen]
 have p0:(part 3 #[Value.int IntKind.i64 a,Value.int IntKind.i64 b] 0).run Try.prog w=.ok (.int .i64 a) w:=by go_simp
 have p1:(part 3 #[Value.int IntKind.i64 a,Value.int IntKind.i64 b] 1).run Try.prog w=.ok (.int .i64 b) w:=by go_simp
 simp[p0,p1,c]
theorem Mi {w:World}{g:Nat}{l:List G.Tie}(hb:w.heap[g]? =some (rX l)) (a b:Int):
  (Instr.lookup 69 (.map (some g)) (.agg #[.int .i64 a,.int .i64 b]) false).run Try.prog w=.ok (.bool (uK l a b)) w:=by
 have hf:=Ib w a b l
 cases h:uK l a b
 ·have z:(zeroValue 4).run Try.prog w=.ok (.bool false) w:=by kernel_rfl
  simp[Instr.lookup,run_underlying Try.underlying69,MapKept.run_getObj_map hb,Ex,hf.1 h,z,Result.andThen,Sem.run_bind]
 obtain⟨n,hn⟩:=hf.2 h
 simp[Instr.lookup,run_underlying Try.underlying69,MapKept.run_getObj_map hb,Ex,hn,Result.andThen,Sem.run_bind]
theorem Ml {w:World}{g:Nat}{l:List G.Tie}(hb:w.heap[g]? =some (rX l)) (t:G.Tie) (h:uK l t.f0 t.f1=false):
  ∃w1,(Instr.mapUpdate 69 (.map (some g)) (.agg #[.int .i64 t.f0,.int .i64 t.f1]) (.bool true)).run Try.prog w=.ok () w1/\w1.heap[g]? =some (rX (l++[t]))/\w.grownBy w1 (some g):=by
 have hf:=(Ib w t.f0 t.f1 l).1 h
 refine⟨ChangeMaps.setBlock w g (rX (l++[t])),?_,ChangeMaps.heap_setBlock_same hb _,⟨rfl,rfl,rfl,by simp[ChangeMaps.setBlock],fun i _ hi=>ChangeMaps.heap_setBlock_other hb _ (fun e=>hi (by rw[e]))⟩⟩
 rw[←Mk]
 simp[Instr.mapUpdate,run_underlying Try.underlying69,MapKept.run_getObj_map hb,Ex,hf,MapKept.run_setObj_map _ hb,Result.andThen,Sem.run_bind,ChangeMaps.setBlock,AX]
theorem Mh {w:World}{g:Nat}{l:List G.Tie}(hb:w.heap[g]? =some (rX l)) (ty:TypeId):(Builtin.len_ #[69] ty #[.map (some g)]).run Try.prog w=.ok (.int .i64 l.length) w:=by
 simp[Builtin.len_,run_underlying Try.underlying69,MapKept.run_getObj_map hb,Result.andThen,Sem.run_bind,goInt,H9]
section
variable {ops:Array Oper}{rest:List Oper}{o:Oper}{a:Act}{Q:Exit->Act->World->Prop}{W:World}{g:Nat}{l:List G.Tie}{x0 x1:Int}
theorem Mj (N:Tmp) (h:∀g,g=W.heap.size->∀w1,w1.heap[g]? =some (rX [])->Below W.heap.size W w1->wpList Try.prog ops Q rest (a.put o.dst (.map (some g))) w1)
  (hd:o.dst=some N:=by with_reducible rfl) (hg:o.guard=none:=by rfl) (hop:o.op=.makeMap 69 none:=by rfl):wpList Try.prog ops Q (o::rest) a W:=by
 refine wpList_plain hg fun K' hK'=>?_
 unfold Oper.wp
 have hr:(Instr.makeMap 69 none).run Try.prog W=.ok (.map (some W.heap.size)) (W.alloc (rX [])):=rfl
 simp only [execOp,hop]
 simp[hr,Result.andThen]
 exact hK' _ _ (h _ rfl _ (BQ W (rX [])) (Below.alloc (Below.refl W.heap.size W) (Nat.le_refl _) _))
theorem H8 (N:Tmp) {m x:Operand}{b:Bool}(hb:W.heap[g]? =some (rX l)) (he:uK l x0 x1=b) (h:wpList Try.prog ops Q rest (a.put o.dst (.bool b)) W)
  (hd:o.dst=some N:=by with_reducible rfl) (hg:o.guard=none:=by rfl) (hop:o.op=.lookup 69 m x false:=by rfl)
  (hm:a.eval m=.map (some g):=by rfl) (hx:a.eval x=.agg #[.int .i64 x0,.int .i64 x1]:=by rfl):wpList Try.prog ops Q (o::rest) a W:=by
 refine wpList_plain hg fun K' hK'=>?_
 unfold Oper.wp
 simp[execOp,hop,hm,hx,Mi hb,he,Result.andThen]
 exact hK' _ _ h
theorem Ic (N:Tmp) {m:Operand}(hb:W.heap[g]? =some (rX l)) (h:wpList Try.prog ops Q rest (a.put o.dst (.int .i64 l.length)) W)
  (hd:o.dst=some N:=by with_reducible rfl) (hg:o.guard=none:=by rfl) (hop:o.op=.call {callee:=.builtin .len,args:= #[m],argTypes:= #[69]}:=by rfl)
  (hm:a.eval m=.map (some g):=by rfl):wpList Try.prog ops Q (o::rest) a W:=by
 refine wpList_plain hg fun K' hK'=>?_
 unfold Oper.wp
 have hl:=Mh hb
 simp only [execOp,hop,hm,resolve,Sem.run_bind,Sem.run_pure,Result.andThen_ok,List.map_toArray,List.map_cons,List.map_nil,invoke,builtin,hl]
 exact hK' _ _ h
theorem Mm {m x v:Operand}(hb:W.heap[g]? =some (rX l)) (hn:uK l x0 x1=false)
  (h:∀w1,w1.heap[g]? =some (rX (l++[⟨x0,x1⟩]))->W.grownBy w1 (some g)->wpList Try.prog ops Q rest (a.put o.dst undef) w1)
  (hop:o.op=.mapUpdate 69 m x v:=by rfl) (hg:o.guard=none:=by rfl)
  (hm:a.eval m=.map (some g):=by rfl) (hx:a.eval x=.agg #[.int .i64 x0,.int .i64 x1]:=by rfl) (hv:a.eval v=.bool true:=by rfl):wpList Try.prog ops Q (o::rest) a W:=by
 refine wpList_plain hg fun K' hK'=>?_
 obtain⟨w1,hr,h1,h2⟩:=Ml hb ⟨x0,x1⟩ hn
 unfold Oper.wp
 simp[execOp,hop,hm,hx,hv,hr,Result.andThen]
 exact hK' _ _ (h _ h1 h2)
end
section
variable {α:Type}{d:Kd α}{e base:Nat}{ok:Nat->Prop}{w:World}{v:Value}{xs:List α}{g:Nat}{l:List G.Tie}
theorem mNe (h:d.R e w base ok v xs) (hb:w.heap[g]? =some (rX l)):some g≠v.ownBlock:=fun he=>by
 obtain⟨cells,hc⟩:=sM h g he.symm
 rw[hb]at hc
 simp[rX]at hc
theorem Mo (h:d.R e w base ok v xs) (hb:w.heap[g]? =some (rX l)):d.R e w base (fun k=>ok k/\k≠g) v xs:=
 nL (vE h) (fun k hk=>⟨hk.1,by
  obtain⟨_,_,_,q,hq,cells',hc⟩:=hk
  rintro rfl
  rw[hc]at hb
  simp[rX]at hb⟩)
theorem zY {w:World}(h:w.heap[g]? =some (rX l)) {p:Addr}(hp:g≠p.block) (u:Value):(w.setCell p u).heap[g]? =some (rX l):=(Below.heap_setCell w p u g hp).trans h
theorem Mf {w0 w w1:World}(h:Below w0.heap.size w0 w) (hg:w.grownBy w1 (some g)) (hge:w0.heap.size<=g):Below w0.heap.size w0 w1:=
 ⟨hg.os.trans h.os,hg.tape.trans h.tape,hg.output.trans h.output,Nat.le_trans h.size hg.size,fun k hk=>(hg.block k (Nat.lt_of_lt_of_le hk h.size) (fun e=>by injection e with e;omega)).trans (h.block k hk)⟩
end
end Go.Proofs.Ytgeonpciodepgaa.P
namespace Go.Proofs.Ytgeonpciodepgaa.P
set_option maxHeartbeats 8000000
set_option maxRecDepth 100000
open Go.RowKit Go.Proofs.YtgeonpciodepgaaW.PrintWords Go.Proofs.YtgeonpciodepgaaW.PrintLast Go.Proofs.YtgeonpciodepgaaW.PrintMore Go.Proofs.YtgeonpciodepgaaW.PrintWords.Kd Go.Proofs.YtgeonpciodepgaaW.PrintMore.Kd
attribute [local go_sem] xB xG xE xJ xD xI xC xH
variable {p:Prop}
theorem F4(h:p:=by(try simp only [List.map_toArray,List.map_cons,List.map_nil]);first|done|(rw[show(l0.take (ag:Int).toNat).length=ag.toNat from(by rw[List.length_take];have h_:(ag:Int)<=(l0.length:Int):=nA;omega)]<;>rfl)|rfl|(simp only [List.length_drop,List.length_take];rfl)):p:=h
theorem F5(h:p:=by(try simp only [List.map_toArray,List.map_cons,List.map_nil]);first|done|(simp only [aD];rfl)|rfl|(simp only [List.length_drop,List.length_take];rfl)):p:=h
def wX.f (af:Int) (ae:List (S59)) (a1:Int):Option (Bool):=if a1>=0 then(some (decide (a1<af))) else(some false)
theorem wX.calls {af:Int}{aj:Option Addr}{ak:Nat}{ae:List (S59)}{a1:Int}{r:Bool}{w:World}(aQ:Kd.C k59 w aj ae.length ae)(aR:ae.length<=ak)(h:wX.f af ae a1=some r):
  Calls Try.prog 78 #[.agg #[.int .i64 af,.slice aj ae.length ak],.int .i64 a1] w fun e w'=>e=.returned (.bool r)/\Below w.heap.size w w':=by
 have bI:=Try.underlying31;have aA:=dm aQ;have aB:=dm aR;clear aQ aR;have HB:=dm (Below.refl w.heap.size w);unfold wX.f at h;have H:=h;clear h
 replace H:=p_ H;rcases H with⟨aU,H⟩|⟨aU,H⟩
 ·obtain rfl:=Option.some.inj H
  go_enter Try.func78,Try.ntmps78
  go_wp2_with (first|((with_reducible refine nT 2 rfl ?_);refine oK #[.int .i64 af,.slice aj ae.length ak] 31 ?_;intro aS hg w4 nu hb;have bj:=dm (nu);have bA:=dm (nQ:w.heap.size<=aS);have bB:=dm (nQ:w.heap.size<=aS);replace HB:=nJ HB hb;clear hb nu hg;have⟨bM,bN,bO,bP⟩:=nI (w:=w4) bj))
  go_ret
  exact⟨qH,nC HB.out⟩
 obtain rfl:=Option.some.inj H
 go_enter Try.func78,Try.ntmps78
 go_wp2_with (first|((with_reducible refine nT 2 rfl ?_);refine oK #[.int .i64 af,.slice aj ae.length ak] 31 ?_;intro aS hg w6 nu hb;have bj:=dm (nu);have bA:=dm (nQ:w.heap.size<=aS);have bB:=dm (nQ:w.heap.size<=aS);replace HB:=nJ HB hb;clear hb nu hg))
 go_ret
 exact⟨qH,nC HB.out⟩
def qR.l0:Nat->List Int->List Int->Int->Int->Int->List (S59)->Option (Bool)
 |0,_,_,_,_,_,_=>none
 |k+1,x1,x7,x8,x9,aE,aF=>if x9<x8 then(if 0<=x9 then(if x9<(x7.length:Int) then((wX.f aE aF (rd x7 x9)).bind fun a3=>(if a3=true then(if x9>0 then(if 0<=(wrap64 (x9 - 1)) then(if(wrap64 (x9 - 1))<(x1.length:Int) then((vH.f k aE aF (rd x1 (wrap64 (x9 - 1))) (rd x7 x9)).bind fun ay=>(if ay=true then(qR.l0 k x1 x7 x8 (wrap64 (x9+1)) aE aF) else(some false))) else(none)) else(none)) else(qR.l0 k x1 x7 x8 (wrap64 (x9+1)) aE aF)) else(some false))) else(none)) else(none)) else(some true)
def qR.f (k:Nat) (af:Int) (ae:List (S59)) (l1:List Int):Option (Bool):=qR.l0 k l1 l1 (l1.length:Int) 0 af ae
theorem qR.tF:∀k,(∀y0 y1 y2 y3 y4 y5,LeO (qR.l0 k y0 y1 y2 y3 y4 y5) (qR.l0 (k+1) y0 y1 y2 y3 y4 y5))
 |0=>fun _ _ _ _ _ _ r h=>by simp[qR.l0]at h
 |k+1=>by intros;unfold qR.l0;exact uk (qR.tF k) vH.mono
theorem qR.mono:∀a0 a1 a2 k,LeO (qR.f k a0 a1 a2) (qR.f (k+1) a0 a1 a2):=by intro a0 a1 a2 k;unfold qR.f;exact uk (qR.tF k) vH.mono
def qR.T4:Bool×List (List Nat×List Nat):=(true,[([],[]),([],[]),([0,1],[0,1]),([2],[2]),([3,2],[3]),([4],[4]),([5,4],[4,5]),([6,4,4],[4,6]),([7],[7]),([7],[7]),([7],[7]),([10,7],[7,10]),([9,11,7],[7,9,11]),([12,7],[7,12]),([7],[7]),([8,13,14,7,7],[7,8,13,14]),([15,7],[7,15]),([7,16,4],[4,7,16]),([4,17],[4,17])])
def qR.B4:List Nat:=[0,0,3,7,15,31,63,127,255,255,255,1279,3839,7935,255,32767,65535,131071,262143]
theorem qR.xg:qx .any (opsOf Try.f51 4)=qR.T4:=by kernel_rfl
theorem qR.wV:qW qR.T4.2 qR.B4=true:=by kernel_rfl
theorem qR.calls {k:Nat}{af:Int}{aj:Option Addr}{ak:Nat}{ae:List (S59)}{A1:Option Addr}{c1:Nat}{l1:List Int}{r:Bool}{w:World}(aQ:Kd.C k59 w aj ae.length ae)(aR:ae.length<=ak)(hr1:Kd.C (Kd.int .i64) w A1 l1.length l1)(bE:l1.length<=c1)(h:qR.f k af ae l1=some r):
  Calls Try.prog 51 #[.agg #[.int .i64 af,.slice aj ae.length ak],.slice A1 l1.length c1] w fun e w'=>e=.returned (.bool r)/\Below w.heap.size w w':=by
 have bI:=Try.underlying31;have aA:=dm aQ;have aB:=dm aR;clear aQ aR;have aZ:=dm hr1;have bZ:=dm bE;clear hr1 bE;have HB:=dm (Below.refl w.heap.size w);unfold qR.f at h;have H:=h;clear h;have H':=dm H;clear H
 go_enter Try.func51,Try.ntmps51
 go_wp2_with (first|((with_reducible refine nT 2 rfl ?_);refine oK #[.int .i64 af,.slice aj ae.length ak] 31 ?_;intro aq hg w3 nu hb;have aa:=dm (nu);have bS:=dm (nQ:w.heap.size<=aq);have bT:=dm (nQ:w.heap.size<=aq);replace HB:=nJ HB hb;clear hb nu hg))
 go_loopg [9] k (fun kq v9 w'=>∃ (ab:Int),v9=.int .i64 ab/\lm (qR.l0 kq l1 l1 (l1.length:Int) ab af ae=some r)/\lm (kq<=k)/\lm (w'.heap[aq]? =some (.cells #[.int .i64 af,(.slice aj ae.length ak)] 31 (0,0)))/\lm (Below w.heap.size w w'))
 case atStart=>exact⟨(0),(nP),H',⟨Nat.le_refl _⟩,⟨nG aa.out⟩,⟨nC HB.out⟩⟩
 case round=>
  clear H';obtain⟨ab,rfl,HA,az,aa,HB⟩:=hrel;cases gk with
  |zero=>exact absurd HA.out (by simp[qR.l0])
  |succ k1=>
   have H:=HA.out;clear HA;simp only [qR.l0]at H
   replace H:=p_ H;rcases H with⟨a4,H⟩|⟨a4,H⟩
   ·skip
    obtain⟨a_,H⟩:=oz H
    obtain⟨aY,H⟩:=oz H;obtain⟨a3,A7,H⟩:=oC H;(try dsimp only at H)
    rcases p8 H with⟨h_,H_⟩|⟨h_,H_⟩<;> (subst h_;clear H;have H:=H_;clear H_)
    ·skip
     replace H:=p_ H;rcases H with⟨bJ,H⟩|⟨bJ,H⟩
     ·obtain⟨ah,aD⟩:∃j_:Int,(wrap64 (ab - 1))=j_:=⟨_,rfl⟩;replace H:(if 0<=(ah) then(if(ah)<(l1.length:Int) then((vH.f k1 af ae (rd l1 (ah)) (rd l1 ab)).bind fun ay=>(if ay=true then(qR.l0 k1 l1 l1 (l1.length:Int) (wrap64 (ab+1)) af ae) else(some false))) else(none)) else(none))=some r:=by first|(rw[aD]at H;exact H)|(simp only [aD]at H⊢;exact H)
      (try rw[aD]at A7);have bQ:(IntKind.i64.wrap (ab - 1))=ah:=(qw _).trans aD
      obtain⟨bU,H⟩:=oz H
      obtain⟨bV,H⟩:=oz H;obtain⟨ay,bF,H⟩:=oC H;(try dsimp only at H)
      rcases p8 H with⟨h_,H_⟩|⟨h_,H_⟩<;> (subst h_;clear H;have H:=H_;clear H_)
      ·have H':=dm H;clear H;have ao:0<=(ab:Int):=nA;have ap:ab<(l1.length:Int):=nA;obtain⟨aC,aG,ai⟩:=oL aZ.out ab ao ap;cases aG;replace ai:=nE HB ai;replace ao:=eq_true ao;replace ap:=eq_true ap;try go_wp2
       replace aa:=dm (nZ aa.out);replace HB:=dm (pz HB.out);have aH:0<=((ah):Int):=nA;have aI:(ah)<(l1.length:Int):=nA;obtain⟨a5,ba,am⟩:=oL aZ.out (ah) aH aI;have au:=am;obtain rfl:aC=a5:=(by injection ba);replace am:=nE HB am;replace aH:=eq_true aH;replace aI:=eq_true aI;refine qj 19 (S:=fun w'=>w'.cell? ⟨aq,0,none⟩=some (.int .i64 af)/\w'.cell? ⟨aq,1,none⟩=some (.slice aj ae.length ak)/\w'.cell? (aC.add ((ah)).toNat)=some (.int .i64 (rd l1 (ah)))) [] ⟨nz aa 0,nz aa 1,(nE HB au)⟩ qR.xg qR.wV (fun hHeld HT_ HW_=>?_);generalize wr.drew=b3 at aa HB am hHeld⊢;refine lq 1 15 2 ?_;refine nR 0 14 3 ?_;refine oO 2 16 7 (fun K hK=>?_);refine tX Try.func78 (wX.calls (nS (oG aA.out HB.out)) aB.out A7.out) ?_;intro b4 hb;replace aa:=nD aa hb;replace HB:=nJ HB hb;(try clear hb);refine hK.out _ _ ⟨nz aa 0,nz aa 1,(nE HB au)⟩ (fun hHeld=>?_);clear hK K;refine og 16 ?_;refine lq 3 17 15 ?_;refine lq 4 18 31 ?_;refine lq 5 19 63 ?_;refine lq 6 20 127 ?_;refine lq 7 21 255 ?_;refine lq 9 23 767 ?_;refine lq 10 24 1791 ?_;refine lq 11 25 3839 ?_;refine lq 12 26 7935 ?_;refine lq 14 28 24319 ?_;refine nR 8 22 24575 ?_;refine nR 13 27 32767 ?_;refine oO 15 29 65535 (fun K hK=>?_);refine uq Try.func65 (ou) rfl #[.agg #[.int .i64 af,.slice aj ae.length ak],.int .i64 (rd l1 (ah)),.int .i64 (rd l1 ab)] (by rfl) rfl rfl (F5) ?_;refine(vH.calls (nS (oG aA.out HB.out)) aB.out bF.out).mono ?_;rintro e b5 ⟨rfl,hb⟩;refine⟨_,rfl,?_⟩;replace aa:=nD aa hb;replace HB:=nJ HB hb;(try clear hb);refine hK.out _ _ ⟨nz aa 0,nz aa 1,(nE HB au)⟩ (fun hHeld=>?_);clear hK K;refine og 29 ?_;refine lq 16 30 131071 ?_;refine lq 17 31 262143 ?_;refine lq 18 32 524287 ?_;refine qb (qf HT_.out (ou)) ?_;try go_wp2
       go_roundg k1
       case measure=>have:=az.out;omega
       case rel=>exact⟨(wrap64 (ab+1)),(nP),H',⟨by have:=az.out;omega⟩,⟨nG aa.out⟩,⟨nC HB.out⟩⟩
      obtain rfl:=Option.some.inj H;have ao:0<=(ab:Int):=nA;have ap:ab<(l1.length:Int):=nA;obtain⟨aC,aG,ai⟩:=oL aZ.out ab ao ap;cases aG;replace ai:=nE HB ai;replace ao:=eq_true ao;replace ap:=eq_true ap;try go_wp2
      replace aa:=dm (nZ aa.out);replace HB:=dm (pz HB.out);have aH:0<=((ah):Int):=nA;have aI:(ah)<(l1.length:Int):=nA;obtain⟨a5,ba,am⟩:=oL aZ.out (ah) aH aI;have au:=am;obtain rfl:aC=a5:=(by injection ba);replace am:=nE HB am;replace aH:=eq_true aH;replace aI:=eq_true aI;refine qj 19 (S:=fun w'=>w'.cell? ⟨aq,0,none⟩=some (.int .i64 af)/\w'.cell? ⟨aq,1,none⟩=some (.slice aj ae.length ak)/\w'.cell? (aC.add ((ah)).toNat)=some (.int .i64 (rd l1 (ah)))) [] ⟨nz aa 0,nz aa 1,(nE HB au)⟩ qR.xg qR.wV (fun hHeld HT_ HW_=>?_);generalize wr.drew=b6 at aa HB am hHeld⊢;refine lq 1 15 2 ?_;refine nR 0 14 3 ?_;refine oO 2 16 7 (fun K hK=>?_);refine tX Try.func78 (wX.calls (nS (oG aA.out HB.out)) aB.out A7.out) ?_;intro b7 hb;replace aa:=nD aa hb;replace HB:=nJ HB hb;(try clear hb);refine hK.out _ _ ⟨nz aa 0,nz aa 1,(nE HB au)⟩ (fun hHeld=>?_);clear hK K;refine og 16 ?_;refine lq 3 17 15 ?_;refine lq 4 18 31 ?_;refine lq 5 19 63 ?_;refine lq 6 20 127 ?_;refine lq 7 21 255 ?_;refine lq 9 23 767 ?_;refine lq 10 24 1791 ?_;refine lq 11 25 3839 ?_;refine lq 12 26 7935 ?_;refine lq 14 28 24319 ?_;refine nR 8 22 24575 ?_;refine nR 13 27 32767 ?_;refine oO 15 29 65535 (fun K hK=>?_);refine uq Try.func65 (ou) rfl #[.agg #[.int .i64 af,.slice aj ae.length ak],.int .i64 (rd l1 (ah)),.int .i64 (rd l1 ab)] (by rfl) rfl rfl (F5) ?_;refine(vH.calls (nS (oG aA.out HB.out)) aB.out bF.out).mono ?_;rintro e b8 ⟨rfl,hb⟩;refine⟨_,rfl,?_⟩;replace aa:=nD aa hb;replace HB:=nJ HB hb;(try clear hb);refine hK.out _ _ ⟨nz aa 0,nz aa 1,(nE HB au)⟩ (fun hHeld=>?_);clear hK K;refine og 29 ?_;refine lq 16 30 131071 ?_;refine lq 17 31 262143 ?_;refine lq 18 32 524287 ?_;refine qb (qf HT_.out (ou)) ?_;try go_wp2
      go_ret
      exact⟨by first|rfl|(simp[rE,rF]<;>rfl)|(simp only [←aD];first|rfl|(simp[rE,rF]<;>rfl))|(simp[*,rE,rF]<;>rfl),nC HB.out⟩
     have H':=dm H;clear H;have ao:0<=(ab:Int):=nA;have ap:ab<(l1.length:Int):=nA;obtain⟨aC,aG,ai⟩:=oL aZ.out ab ao ap;cases aG;replace ai:=nE HB ai;replace ao:=eq_true ao;replace ap:=eq_true ap;try go_wp2
     replace aa:=dm (nZ aa.out);replace HB:=dm (pz HB.out);refine qj 19 (S:=fun w'=>w'.cell? ⟨aq,0,none⟩=some (.int .i64 af)/\w'.cell? ⟨aq,1,none⟩=some (.slice aj ae.length ak)) [] ⟨nz aa 0,nz aa 1⟩ qR.xg qR.wV (fun hHeld HT_ HW_=>?_);generalize wr.drew=b9 at aa HB hHeld⊢;refine lq 1 15 2 ?_;refine nR 0 14 3 ?_;refine oO 2 16 7 (fun K hK=>?_);refine tX Try.func78 (wX.calls (nS (oG aA.out HB.out)) aB.out A7.out) ?_;intro b_ hb;replace aa:=nD aa hb;replace HB:=nJ HB hb;(try clear hb);refine hK.out _ _ ⟨nz aa 0,nz aa 1⟩ (fun hHeld=>?_);clear hK K;refine og 16 ?_;refine lq 3 17 15 ?_;refine lq 4 18 31 ?_;refine lq 5 19 63 ?_;refine lq 6 20 127 ?_;refine lq 7 21 255 ?_;refine oN 8 22 511 ?_;refine oN 9 23 1023 ?_;refine oN 10 24 2047 ?_;refine oN 11 25 4095 ?_;refine oN 12 26 8191 ?_;refine oN 13 27 16383 ?_;refine oN 14 28 32767 ?_;refine oN 15 29 65535 ?_;refine oN 16 30 131071 ?_;refine lq 17 31 262143 ?_;refine lq 18 32 524287 ?_;refine qb (qf HT_.out (ou)) ?_;try go_wp2
     go_roundg k1
     case measure=>have:=az.out;omega
     case rel=>exact⟨(wrap64 (ab+1)),(nP),H',⟨by have:=az.out;omega⟩,⟨nG aa.out⟩,⟨nC HB.out⟩⟩
    obtain rfl:=Option.some.inj H;have ao:0<=(ab:Int):=nA;have ap:ab<(l1.length:Int):=nA;obtain⟨aC,aG,ai⟩:=oL aZ.out ab ao ap;cases aG;replace ai:=nE HB ai;replace ao:=eq_true ao;replace ap:=eq_true ap;try go_wp2
    replace aa:=dm (nZ aa.out);replace HB:=dm (pz HB.out);refine qj 19 (S:=fun w'=>w'.cell? ⟨aq,0,none⟩=some (.int .i64 af)/\w'.cell? ⟨aq,1,none⟩=some (.slice aj ae.length ak)) [] ⟨nz aa 0,nz aa 1⟩ qR.xg qR.wV (fun hHeld HT_ HW_=>?_);generalize wr.drew=ca at aa HB hHeld⊢;refine lq 1 15 2 ?_;refine nR 0 14 3 ?_;refine oO 2 16 7 (fun K hK=>?_);refine tX Try.func78 (wX.calls (nS (oG aA.out HB.out)) aB.out A7.out) ?_;intro cd hb;replace aa:=nD aa hb;replace HB:=nJ HB hb;(try clear hb);refine hK.out _ _ ⟨nz aa 0,nz aa 1⟩ (fun hHeld=>?_);clear hK K;refine og 16 ?_;refine lq 3 17 15 ?_;refine lq 4 18 31 ?_;refine oN 5 19 63 ?_;refine oN 6 20 127 ?_;refine oN 7 21 255 ?_;refine oN 8 22 511 ?_;refine oN 9 23 1023 ?_;refine oN 10 24 2047 ?_;refine oN 11 25 4095 ?_;refine oN 12 26 8191 ?_;refine oN 13 27 16383 ?_;refine oN 14 28 32767 ?_;refine oN 15 29 65535 ?_;refine oN 16 30 131071 ?_;refine oN 17 31 262143 ?_;refine lq 18 32 524287 ?_;refine qb (qf HT_.out (ou)) ?_;try go_wp2
    go_ret
    exact⟨qH,nC HB.out⟩
   obtain rfl:=Option.some.inj H
   go_wp2
   go_ret
   exact⟨qH,nC HB.out⟩
def sS.l0:Nat->List Int->Int->Int->Int->Option (Int)
 |0,_,_,_,_=>none
 |k+1,x0,x1,x7,x8=>if x8<x7 then(if 0<=x8 then(if x8<(x0.length:Int) then(if x1=(rd x0 x8) then(some x8) else(sS.l0 k x0 x1 x7 (wrap64 (x8+1)))) else(none)) else(none)) else(some (-1))
def sS.f (k:Nat) (l0:List Int) (a1:Int):Option (Int):=sS.l0 k l0 a1 (l0.length:Int) 0
theorem sS.tF:∀k,(∀y0 y1 y2 y3,LeO (sS.l0 k y0 y1 y2 y3) (sS.l0 (k+1) y0 y1 y2 y3))
 |0=>fun _ _ _ _ r h=>by simp[sS.l0]at h
 |k+1=>by intros;unfold sS.l0;exact uk (sS.tF k)
theorem sS.mono:∀a0 a1 k,LeO (sS.f k a0 a1) (sS.f (k+1) a0 a1):=by intro a0 a1 k;unfold sS.f;exact uk (sS.tF k)
theorem sS.calls {k:Nat}{A0:Option Addr}{c0:Nat}{l0:List Int}{a1:Int}{r:Int}{w:World}(av:Kd.C (Kd.int .i64) w A0 l0.length l0)(aw:l0.length<=c0)(h:sS.f k l0 a1=some r):
  Calls Try.prog 114 #[.slice A0 l0.length c0,.int .i64 a1] w fun e w'=>e=.returned (.int .i64 r)/\pE w w':=by
 have ax:=dm av;have aX:=dm aw;clear av aw;unfold sS.f at h;have H:=h;clear h;have H':=dm H;clear H
 go_enter Try.func114,Try.ntmps114
 go_wp2
 go_loopg [8] k (fun kq v8 w'=>∃ (ac:Int),v8=.int .i64 ac/\lm (sS.l0 kq l0 a1 (l0.length:Int) ac=some r)/\lm (kq<=k)/\pE w w')
 case atStart=>exact⟨(0),(nP),H',⟨Nat.le_refl _⟩,by repeat(first|exact pE.refl _|apply pE.step)⟩
 case round=>
  clear H';obtain⟨ac,rfl,HA,az,⟨m1,rfl⟩⟩:=hrel;cases gk with
  |zero=>exact absurd HA.out (by simp[sS.l0])
  |succ k1=>
   have H:=HA.out;clear HA;simp only [sS.l0]at H
   replace H:=p_ H;rcases H with⟨aU,H⟩|⟨aU,H⟩
   ·skip
    obtain⟨a4,H⟩:=oz H
    obtain⟨a_,H⟩:=oz H
    by_cases c6:a1=(rd l0 ac)
    ·rw[if_pos c6]at H;have aY:=beq_iff_eq.mpr c6;have a6:=bne_eq_false_iff_eq.mpr c6;clear c6;obtain rfl:=Option.some.inj H;have aK:0<=(ac:Int):=nA;have aL:ac<(l0.length:Int):=nA;obtain⟨bC,bd,bp⟩:=oL ax.out ac aK aL;cases bd;replace aK:=eq_true aK;replace aL:=eq_true aL
     go_wp2
     go_ret
     exact⟨nP,by repeat(first|exact pE.refl _|apply pE.step)⟩
    rw[if_neg c6]at H;have aY:=beq_eq_false_iff_ne.mpr c6;have a6:=bne_iff_ne.mpr c6;have H':=dm H;clear H;have aK:0<=(ac:Int):=nA;have aL:ac<(l0.length:Int):=nA;obtain⟨bC,bd,bp⟩:=oL ax.out ac aK aL;cases bd;replace aK:=eq_true aK;replace aL:=eq_true aL
    go_wp2
    go_roundg k1
    case measure=>have:=az.out;omega
    case rel=>exact⟨(wrap64 (ac+1)),(nP),H',⟨by have:=az.out;omega⟩,by repeat(first|exact pE.refl _|apply pE.step)⟩
   obtain rfl:=Option.some.inj H
   go_wp2
   go_ret
   exact⟨nP,by repeat(first|exact pE.refl _|apply pE.step)⟩
def vR.f (k:Nat) (l0:List Int) (a1:Int):Option (Bool):=(sS.f k l0 a1).bind fun aV=>(some (decide (aV>=0)))
theorem vR.mono:∀a0 a1 k,LeO (vR.f k a0 a1) (vR.f (k+1) a0 a1):=by intros;unfold vR.f;exact uk sS.mono
theorem vR.calls {k:Nat}{A0:Option Addr}{c0:Nat}{l0:List Int}{a1:Int}{r:Bool}{w:World}(av:Kd.C (Kd.int .i64) w A0 l0.length l0)(aw:l0.length<=c0)(h:vR.f k l0 a1=some r):
  Calls Try.prog 89 #[.slice A0 l0.length c0,.int .i64 a1] w fun e w'=>e=.returned (.bool r)/\pE w w':=by
 have ax:=dm av;have aX:=dm aw;clear av aw;unfold vR.f at h;have H:=h;clear h;obtain⟨aV,A3,H⟩:=oC H;(try dsimp only at H);obtain rfl:=Option.some.inj H
 go_enter Try.func89,Try.ntmps89
 go_wp2_with (first|((with_reducible refine oh 114 rfl ?_);refine oZ 7 rfl Try.func114 (sS.calls (nS ax.out) aX.out A3.out) ?_;rintro e w' ⟨rfl,⟨nd,rfl⟩⟩;refine⟨_,rfl,?_⟩))
 go_ret
 exact⟨nP,by repeat(first|exact pE.refl _|apply pE.step)⟩
def sj.l0:Nat->List Int->List Int->Int->Int->Option (Bool)
 |0,_,_,_,_=>none
 |k+1,x0,x5,x6,x7=>if x7<x6 then(if 0<=x7 then(if x7<(x5.length:Int) then(if x7<=(x0.length:Int) then((vR.f k (x0.take (x7:Int).toNat) (rd x5 x7)).bind fun a7=>(if a7=true then(some false) else(sj.l0 k x0 x5 x6 (wrap64 (x7+1))))) else(none)) else(none)) else(none)) else(some true)
def sj.f (k:Nat) (l0:List Int):Option (Bool):=sj.l0 k l0 l0 (l0.length:Int) 0
theorem sj.tF:∀k,(∀y0 y1 y2 y3,LeO (sj.l0 k y0 y1 y2 y3) (sj.l0 (k+1) y0 y1 y2 y3))
 |0=>fun _ _ _ _ r h=>by simp[sj.l0]at h
 |k+1=>by intros;unfold sj.l0;exact uk (sj.tF k) vR.mono
theorem sj.mono:∀a0 k,LeO (sj.f k a0) (sj.f (k+1) a0):=by intro a0 k;unfold sj.f;exact uk (sj.tF k) vR.mono
theorem sj.calls {k:Nat}{A0:Option Addr}{c0:Nat}{l0:List Int}{r:Bool}{w:World}(av:Kd.C (Kd.int .i64) w A0 l0.length l0)(aw:l0.length<=c0)(h:sj.f k l0=some r):
  Calls Try.prog 52 #[.slice A0 l0.length c0] w fun e w'=>e=.returned (.bool r)/\pE w w':=by
 have ax:=dm av;have aX:=dm aw;clear av aw;unfold sj.f at h;have H:=h;clear h;have H':=dm H;clear H
 go_enter Try.func52,Try.ntmps52
 go_wp2
 go_loopg [7] k (fun kq v7 w'=>∃ (ag:Int),v7=.int .i64 ag/\lm (sj.l0 kq l0 l0 (l0.length:Int) ag=some r)/\lm (kq<=k)/\pE w w')
 case atStart=>exact⟨(0),(nP),H',⟨Nat.le_refl _⟩,by repeat(first|exact pE.refl _|apply pE.step)⟩
 case round=>
  clear H';obtain⟨ag,rfl,HA,az,⟨m1,rfl⟩⟩:=hrel;cases gk with
  |zero=>exact absurd HA.out (by simp[sj.l0])
  |succ k1=>
   have H:=HA.out;clear HA;simp only [sj.l0]at H
   replace H:=p_ H;rcases H with⟨bK,H⟩|⟨bK,H⟩
   ·skip
    obtain⟨aU,H⟩:=oz H
    obtain⟨a4,H⟩:=oz H;have a_:=eq_true (of_decide_eq_true (xn):0<=ag)
    obtain⟨c6,H⟩:=qg H;have aY:=eq_true c6;have a6:=decide_eq_true c6;clear c6;obtain⟨a7,A7,H⟩:=oC H;(try dsimp only at H)
    rcases p8 H with⟨h_,H_⟩|⟨h_,H_⟩<;> (subst h_;clear H;have H:=H_;clear H_)
    ·obtain rfl:=Option.some.inj H;have aM:0<=(ag:Int):=nA;have aN:ag<(l0.length:Int):=nA;obtain⟨aT,bf,bq⟩:=oL ax.out ag aM aN;cases bf;replace aM:=eq_true aM;replace aN:=eq_true aN;obtain⟨ce,bu,_,bv,_⟩:=info_parts info3;obtain⟨bW,bG,bH⟩:=CW (P:=Try.prog) (Value.int .i64) 0 45 3 .i64 Try.underlying45 bu bv (some aT) c0 l0 ag nA nA aX.out;have a8:=dm (zz (h1:=fun _=>rfl) (bG _ (yz ax.out)));have a9:=dm bH;clear bG bH bu bv
     go_wp2_with (first|((with_reducible refine zS (f:=89) rfl ?_);refine yn (some 16) rfl rfl Try.func89 (ou) rfl #[.slice (some aT) (l0.take (ag:Int).toNat).length c0,.int .i64 (rd l0 ag)] rfl (F4) ?_;refine(vR.calls (nS a8.out) a9.out A7.out).mono ?_;rintro e w' ⟨rfl,⟨nd,rfl⟩⟩;refine⟨_,rfl,?_⟩))
     go_ret
     exact⟨nP,by repeat(first|exact pE.refl _|apply pE.step)⟩
    have H':=dm H;clear H;have aM:0<=(ag:Int):=nA;have aN:ag<(l0.length:Int):=nA;obtain⟨aT,bf,bq⟩:=oL ax.out ag aM aN;cases bf;replace aM:=eq_true aM;replace aN:=eq_true aN;obtain⟨bX,bn,_,bo,_⟩:=info_parts info3;obtain⟨bR,bx,bz⟩:=CW (P:=Try.prog) (Value.int .i64) 0 45 3 .i64 Try.underlying45 bn bo (some aT) c0 l0 ag nA nA aX.out;have a8:=dm (zz (h1:=fun _=>rfl) (bx _ (yz ax.out)));have a9:=dm bz;clear bx bz bn bo
    go_wp2_with (first|((with_reducible refine zS (f:=89) rfl ?_);refine yn (some 16) rfl rfl Try.func89 (ou) rfl #[.slice (some aT) (l0.take (ag:Int).toNat).length c0,.int .i64 (rd l0 ag)] rfl (F4) ?_;refine(vR.calls (nS a8.out) a9.out A7.out).mono ?_;rintro e w' ⟨rfl,⟨nd,rfl⟩⟩;refine⟨_,rfl,?_⟩))
    go_roundg k1
    case measure=>have:=az.out;omega
    case rel=>exact⟨(wrap64 (ag+1)),(nP),H',⟨by have:=az.out;omega⟩,by repeat(first|exact pE.refl _|apply pE.step)⟩
   obtain rfl:=Option.some.inj H
   go_wp2
   go_ret
   exact⟨nP,by repeat(first|exact pE.refl _|apply pE.step)⟩
def sP.l0:Nat->List Bool->Bool->Int->Int->Option (Int)
 |0,_,_,_,_=>none
 |k+1,x0,x1,x7,x8=>if x8<x7 then(if 0<=x8 then(if x8<(x0.length:Int) then(if(x1==(qz false x0 x8))=true then(some x8) else(sP.l0 k x0 x1 x7 (wrap64 (x8+1)))) else(none)) else(none)) else(some (-1))
def sP.f (k:Nat) (l0:List Bool) (a1:Bool):Option (Int):=sP.l0 k l0 a1 (l0.length:Int) 0
theorem sP.tF:∀k,(∀y0 y1 y2 y3,LeO (sP.l0 k y0 y1 y2 y3) (sP.l0 (k+1) y0 y1 y2 y3))
 |0=>fun _ _ _ _ r h=>by simp[sP.l0]at h
 |k+1=>by intros;unfold sP.l0;exact uk (sP.tF k)
theorem sP.mono:∀a0 a1 k,LeO (sP.f k a0 a1) (sP.f (k+1) a0 a1):=by intro a0 a1 k;unfold sP.f;exact uk (sP.tF k)
theorem sP.calls {k:Nat}{A0:Option Addr}{c0:Nat}{l0:List Bool}{a1:Bool}{r:Int}{w:World}(av:Kd.C Kd.bool w A0 l0.length l0)(aw:l0.length<=c0)(h:sP.f k l0 a1=some r):
  Calls Try.prog 90 #[.slice A0 l0.length c0,.bool a1] w fun e w'=>e=.returned (.int .i64 r)/\pE w w':=by
 have ax:=dm av;have aX:=dm aw;clear av aw;unfold sP.f at h;have H:=h;clear h;have H':=dm H;clear H
 go_enter Try.func90,Try.ntmps90
 go_wp2
 go_loopg [8] k (fun kq v8 w'=>∃ (ac:Int),v8=.int .i64 ac/\lm (sP.l0 kq l0 a1 (l0.length:Int) ac=some r)/\lm (kq<=k)/\pE w w')
 case atStart=>exact⟨(0),(nP),H',⟨Nat.le_refl _⟩,by repeat(first|exact pE.refl _|apply pE.step)⟩
 case round=>
  clear H';try clear p2
  obtain⟨ac,rfl,HA,az,⟨m1,rfl⟩⟩:=hrel;cases gk with
  |zero=>exact absurd HA.out (by simp[sP.l0])
  |succ k1=>
   have H:=HA.out;clear HA;simp only [sP.l0]at H
   replace H:=p_ H;rcases H with⟨aU,H⟩|⟨aU,H⟩
   ·skip
    obtain⟨a4,H⟩:=oz H
    obtain⟨a_,H⟩:=oz H
    by_cases c6:(a1==(qz false l0 ac))=true
    ·rw[if_pos c6]at H;have aY:(a1==(qz false l0 ac))=true:=c6;(try(have a6:decide (a1=(qz false l0 ac))=true:=by simpa using c6));(try(have bL:(a1==(qz false l0 ac))=true:=by simpa using c6));clear c6;obtain rfl:=Option.some.inj H;have aO:0<=(ac:Int):=nA;have aP:ac<(l0.length:Int):=nA;obtain⟨bD,bh,br⟩:=vV ax.out ac aO aP;cases bh;replace aO:=eq_true aO;replace aP:=eq_true aP
     go_wp2
     go_ret
     exact⟨nP,by repeat(first|exact pE.refl _|apply pE.step)⟩
    rw[if_neg c6]at H;have aY:(a1==(qz false l0 ac))=false:=by simpa using c6
    (try(have a6:decide (a1=(qz false l0 ac))=false:=by simpa using c6));(try(have bL:(a1==(qz false l0 ac))=false:=by simpa using c6));(try(have bY:¬ (a1=(qz false l0 ac)):=by simpa using c6));clear c6;have H':=dm H;clear H;have aO:0<=(ac:Int):=nA;have aP:ac<(l0.length:Int):=nA;obtain⟨bD,bh,br⟩:=vV ax.out ac aO aP;cases bh;replace aO:=eq_true aO;replace aP:=eq_true aP
    go_wp2
    go_roundg k1
    case measure=>have:=az.out;omega
    case rel=>exact⟨(wrap64 (ac+1)),(nP),H',⟨by have:=az.out;omega⟩,by repeat(first|exact pE.refl _|apply pE.step)⟩
   obtain rfl:=Option.some.inj H
   go_wp2
   go_ret
   exact⟨nP,by repeat(first|exact pE.refl _|apply pE.step)⟩
def vY.f (k:Nat) (l0:List Bool) (a1:Bool):Option (Bool):=(sP.f k l0 a1).bind fun aW=>(some (decide (aW>=0)))
theorem vY.mono:∀a0 a1 k,LeO (vY.f k a0 a1) (vY.f (k+1) a0 a1):=by intros;unfold vY.f;exact uk sP.mono
theorem vY.calls {k:Nat}{A0:Option Addr}{c0:Nat}{l0:List Bool}{a1:Bool}{r:Bool}{w:World}(av:Kd.C Kd.bool w A0 l0.length l0)(aw:l0.length<=c0)(h:vY.f k l0 a1=some r):
  Calls Try.prog 54 #[.slice A0 l0.length c0,.bool a1] w fun e w'=>e=.returned (.bool r)/\pE w w':=by
 have ax:=dm av;have aX:=dm aw;clear av aw;unfold vY.f at h;have H:=h;clear h;obtain⟨aW,A3,H⟩:=oC H;(try dsimp only at H);obtain rfl:=Option.some.inj H
 go_enter Try.func54,Try.ntmps54
 go_wp2_with (first|((with_reducible refine oh 90 rfl ?_);refine oZ 7 rfl Try.func90 (sP.calls (nS ax.out) aX.out A3.out) ?_;rintro e w' ⟨rfl,⟨nd,rfl⟩⟩;refine⟨_,rfl,?_⟩))
 go_ret
 exact⟨nP,by repeat(first|exact pE.refl _|apply pE.step)⟩
theorem AJ(h:p:=by first|rfl|(simp[rE,rF]<;>rfl)|(simp only [←aY];first|rfl|(simp[rE,rF]<;>rfl))|(simp[*,rE,rF]<;>rfl)):p:=h
theorem Ct(h:p:=by(try simp only [List.map_toArray,List.map_cons,List.map_nil]);first|done|(simp only [bH];rfl)|rfl|(simp only [List.length_drop,List.length_take];rfl)):p:=h
theorem GQ(h:p:=by have:=bj.out;have:=bk.out;have:=a_.out;have:=bf.out;have:=bq.out;have:=bZ.out;have:=cM.out;have:=eo.out;omega):p:=h
theorem AL(h:p:=by rw[hg];exact Nat.ne_of_lt (pI (g:=az) (o:=.cells #[.int .i64 ag,.slice aM ai.length aN] 31 (0,0)) (nG ab.out))):p:=h
theorem AO(h:p:=by rw[hg];exact Nat.ne_of_gt (pI (g:=az) (o:=.cells #[.int .i64 ag,.slice aM ai.length aN] 31 (0,0)) (nG ab.out))):p:=h
theorem Cu(h:p:=by rw[hg];exact Nat.ne_of_lt (pI (g:=ax) (o:=rX ao) (nG ac.out))):p:=h
theorem Cv(h:p:=by rw[hg];exact Nat.ne_of_gt (pI (g:=ax) (o:=rX ao) (nG ac.out))):p:=h
theorem AP(h:p:=by have:=bj.out;have:=bk.out;have:=a_.out;first|omega|exact Nat.le_refl _):p:=h
mutual
def nV.j0:Nat->List (List Int)->List Int->Bool->Int->List (S59)->Option (Bool)
 |0,_,_,_,_,_=>none
 |k+1,x1,x2,gj,ap,ay=>if gj=true then(some false) else(if 0<=ap then(if(ap:Int).toNat<=281474976710656 then(nV.l0 k x2 (List.replicate (ap:Int).toNat false) x1 (x1.length:Int) 0 ap ay [] 0) else(none)) else(none))
def nV.l0:Nat->List Int->List Bool->List (List Int)->Int->Int->Int->List (S59)->List (S59)->Int->Option (Bool)
 |0,_,_,_,_,_,_,_,_,_=>none
 |k+1,x2,x6,aL,aP,aK,ap,ay,aA,aC=>if aK<aP then(if 0<=aK then(if aK<(aL.length:Int) then(if((nO aL aK).length:Int)<2 then(nV.j2 k x2 x6 aK (nO aL aK) aL aP aK true ap ay aA aC) else((qR.f k ap ay (nO aL aK)).bind fun b0=>(nV.j2 k x2 x6 aK (nO aL aK) aL aP aK (!b0) ap ay aA aC))) else(none)) else(none)) else(if(aA.length:Int)=(ay.length:Int) then((vY.f k x6 false).bind fun cn=>(some (!cn))) else(some false))
def nV.j2:Nat->List Int->List Bool->Int->List Int->List (List Int)->Int->Int->Bool->Int->List (S59)->List (S59)->Int->Option (Bool)
 |0,_,_,_,_,_,_,_,_,_,_,_,_=>none
 |k+1,x2,x6,x7,x8,aL,aP,aK,gl,ap,ay,aA,aC=>if gl=true then(some false) else(if 0<(x8.length:Int) then(if 0<=(wrap64 ((x8.length:Int) - 1)) then(if(wrap64 ((x8.length:Int) - 1))<(x8.length:Int) then(if(rd x8 0)=(rd x8 (wrap64 ((x8.length:Int) - 1))) then(if(x8.length:Int)<4 then(nV.j3 k x2 x6 x7 x8 (rd x8 0) (rd x8 (wrap64 ((x8.length:Int) - 1))) aL aP aK true ap ay aA aC) else(if x7=0 then(nV.j3 k x2 x6 x7 x8 (rd x8 0) (rd x8 (wrap64 ((x8.length:Int) - 1))) aL aP aK ((rd x8 0) !=(rd x8 (wrap64 ((x8.length:Int) - 1)))) ap ay aA aC) else(nV.j3 k x2 x6 x7 x8 (rd x8 0) (rd x8 (wrap64 ((x8.length:Int) - 1))) aL aP aK false ap ay aA aC))) else(if x7=0 then(nV.j3 k x2 x6 x7 x8 (rd x8 0) (rd x8 (wrap64 ((x8.length:Int) - 1))) aL aP aK ((rd x8 0) !=(rd x8 (wrap64 ((x8.length:Int) - 1)))) ap ay aA aC) else(nV.j3 k x2 x6 x7 x8 (rd x8 0) (rd x8 (wrap64 ((x8.length:Int) - 1))) aL aP aK false ap ay aA aC))) else(none)) else(none)) else(none))
def nV.j3:Nat->List Int->List Bool->Int->List Int->Int->Int->List (List Int)->Int->Int->Bool->Int->List (S59)->List (S59)->Int->Option (Bool)
 |0,_,_,_,_,_,_,_,_,_,_,_,_,_,_=>none
 |k+1,x2,x6,x7,x8,x9,ep,aL,aP,aK,gm,ap,ay,aA,aC=>if gm=true then(some false) else(if 1<=(wrap64 ((x8.length:Int) - 1)) then(if(wrap64 ((x8.length:Int) - 1))<=(x8.length:Int) then(if x7=0 then(if 1<=(x8.length:Int) then(nV.j4 k x2 x6 x8 (x8.drop 1) aL aP aK ap ay aA aC) else(none)) else(if 0<=x9 then(if x9<(x6.length:Int) then(if qz false x6 x9=true then(if 0<=ep then(if ep<(x6.length:Int) then(if qz false x6 ep=true then(nV.j4 k x2 x6 x8 ((x8.take (wrap64 ((x8.length:Int) - 1)).toNat).drop 1) aL aP aK ap ay aA aC) else(some false)) else(none)) else(none)) else(some false)) else(none)) else(none))) else(none)) else(none))
def nV.j4:Nat->List Int->List Bool->List Int->List Int->List (List Int)->Int->Int->Int->List (S59)->List (S59)->Int->Option (Bool)
 |0,_,_,_,_,_,_,_,_,_,_,_=>none
 |k+1,x2,x6,x8,eq,aL,aP,aK,ap,ay,aA,aC=>(sj.f k eq).bind fun co=>(if co=true then(nV.l1 k x2 x6 x8 aL aP aK eq (eq.length:Int) 0 ap ay aA aC) else(some false))
def nV.l1:Nat->List Int->List Bool->List Int->List (List Int)->Int->Int->List Int->Int->Int->Int->List (S59)->List (S59)->Int->Option (Bool)
 |0,_,_,_,_,_,_,_,_,_,_,_,_,_=>none
 |k+1,x2,x6,x8,aL,aP,aK,cN,fj,b1,ap,ay,aA,aC=>if b1<fj then(if 0<=b1 then(if b1<(cN.length:Int) then(if 0<=(rd cN b1) then(if(rd cN b1)<(x6.length:Int) then(if qz false x6 (rd cN b1)=true then(some false) else(nV.l1 k x2 x6 x8 aL aP aK cN fj (wrap64 (b1+1)) ap ay aA aC)) else(none)) else(none)) else(none)) else(none)) else(nV.l2 k x2 x6 x8 1 aL aP aK ap ay aA aC)
def nV.l2:Nat->List Int->List Bool->List Int->Int->List (List Int)->Int->Int->Int->List (S59)->List (S59)->Int->Option (Bool)
 |0,_,_,_,_,_,_,_,_,_,_,_=>none
 |k+1,x2,x6,x8,b2,aL,aP,aK,ap,ay,aA,aC=>if b2<(x8.length:Int) then(if 0<=(wrap64 (b2 - 1)) then(if(wrap64 (b2 - 1))<(x8.length:Int) then(if 0<=b2 then((vW.f (rd x8 (wrap64 (b2 - 1))) (rd x8 b2)).bind fun a4=>(if uK aA a4.1 a4.2=true then(some false) else(nV.l2 k x2 x6 x8 (wrap64 (b2+1)) aL aP aK ap ay (aA++[⟨a4.1,a4.2⟩]) aC))) else(none)) else(none)) else(none)) else(nV.l3 k x2 x6 aL aP aK x8 (x8.length:Int) 0 ap ay aA aC)
def nV.l3:Nat->List Int->List Bool->List (List Int)->Int->Int->List Int->Int->Int->Int->List (S59)->List (S59)->Int->Option (Bool)
 |0,_,_,_,_,_,_,_,_,_,_,_,_=>none
 |k+1,x2,x6,aL,aP,aK,b3,er,br,ap,ay,aA,aC=>if br<er then(if 0<=br then(if br<(b3.length:Int) then(if 0<=(rd b3 br) then(if(rd b3 br)<(x6.length:Int) then(nV.l3 k x2 (x6.set ((rd b3 br):Int).toNat true) aL aP aK b3 er (wrap64 (br+1)) ap ay aA aC) else(none)) else(none)) else(none)) else(none)) else(nV.l0 k x2 x6 aL aP (wrap64 (aK+1)) ap ay aA aC)
end
def nV.f (k:Nat) (ag:Int) (ai:List (S59)) (l1:List (List Int)) (l2:List Int):Option (Bool):=(qL.f k ag ai).bind fun bR=>(if bR=true then(nV.j0 k l1 l2 ((l1.length:Int)==0) ag ai) else(nV.j0 k l1 l2 true ag ai))
theorem nV.tF:∀k,(∀y0 y1 y2 y3 y4,LeO (nV.j0 k y0 y1 y2 y3 y4) (nV.j0 (k+1) y0 y1 y2 y3 y4))/\(∀y0 y1 y2 y3 y4 y5 y6 y7 y8,LeO (nV.l0 k y0 y1 y2 y3 y4 y5 y6 y7 y8) (nV.l0 (k+1) y0 y1 y2 y3 y4 y5 y6 y7 y8))/\(∀y0 y1 y2 y3 y4 y5 y6 y7 y8 y9 aZ bl,LeO (nV.j2 k y0 y1 y2 y3 y4 y5 y6 y7 y8 y9 aZ bl) (nV.j2 (k+1) y0 y1 y2 y3 y4 y5 y6 y7 y8 y9 aZ bl))/\(∀y0 y1 y2 y3 y4 y5 y6 y7 y8 y9 aZ bl cO fk,LeO (nV.j3 k y0 y1 y2 y3 y4 y5 y6 y7 y8 y9 aZ bl cO fk) (nV.j3 (k+1) y0 y1 y2 y3 y4 y5 y6 y7 y8 y9 aZ bl cO fk))/\(∀y0 y1 y2 y3 y4 y5 y6 y7 y8 y9 aZ,LeO (nV.j4 k y0 y1 y2 y3 y4 y5 y6 y7 y8 y9 aZ) (nV.j4 (k+1) y0 y1 y2 y3 y4 y5 y6 y7 y8 y9 aZ))/\(∀y0 y1 y2 y3 y4 y5 y6 y7 y8 y9 aZ bl cO,LeO (nV.l1 k y0 y1 y2 y3 y4 y5 y6 y7 y8 y9 aZ bl cO) (nV.l1 (k+1) y0 y1 y2 y3 y4 y5 y6 y7 y8 y9 aZ bl cO))/\(∀y0 y1 y2 y3 y4 y5 y6 y7 y8 y9 aZ,LeO (nV.l2 k y0 y1 y2 y3 y4 y5 y6 y7 y8 y9 aZ) (nV.l2 (k+1) y0 y1 y2 y3 y4 y5 y6 y7 y8 y9 aZ))/\(∀y0 y1 y2 y3 y4 y5 y6 y7 y8 y9 aZ bl,LeO (nV.l3 k y0 y1 y2 y3 y4 y5 y6 y7 y8 y9 aZ bl) (nV.l3 (k+1) y0 y1 y2 y3 y4 y5 y6 y7 y8 y9 aZ bl))
 |0=>⟨fun _ _ _ _ _ r h=>by simp[nV.j0]at h,fun _ _ _ _ _ _ _ _ _ r h=>by simp[nV.l0]at h,fun _ _ _ _ _ _ _ _ _ _ _ _ r h=>by simp[nV.j2]at h,fun _ _ _ _ _ _ _ _ _ _ _ _ _ _ r h=>by simp[nV.j3]at h,fun _ _ _ _ _ _ _ _ _ _ _ r h=>by simp[nV.j4]at h,fun _ _ _ _ _ _ _ _ _ _ _ _ _ r h=>by simp[nV.l1]at h,fun _ _ _ _ _ _ _ _ _ _ _ r h=>by simp[nV.l2]at h,fun _ _ _ _ _ _ _ _ _ _ _ _ r h=>by simp[nV.l3]at h⟩
 |k+1=>by
  obtain⟨cP,cQ,cS,cT,cU,cV,cW,cX⟩:=nV.tF k;refine⟨?_,?_,?_,?_,?_,?_,?_,?_⟩<;>intros
  all_goals (first|unfold nV.j0|unfold nV.l0|unfold nV.j2|unfold nV.j3|unfold nV.j4|unfold nV.l1|unfold nV.l2|unfold nV.l3);exact uk cP cQ cS cT cU cV cW cX qL.mono qR.mono sj.mono vY.mono
theorem nV.mono:∀a0 a1 a2 a3 k,LeO (nV.f k a0 a1 a2 a3) (nV.f (k+1) a0 a1 a2 a3):=by intro a0 a1 a2 a3 k;obtain⟨cP,cQ,cS,cT,cU,cV,cW,cX⟩:=nV.tF k;unfold nV.f;exact uk cP cQ cS cT cU cV cW cX qL.mono qR.mono sj.mono vY.mono
def nV.T10:Bool×List (List Nat×List Nat):=(true,[([],[]),([0],[0]),([1],[1]),([],[]),([],[]),([4],[4]),([5],[5]),([3,6],[3,6]),([7],[7]),([2,0,1,2],[2]),([8,9,0,1,2,3,4,5,6,7,8,9],[8])])
def nV.B10:List Nat:=[0,1,3,0,0,16,48,120,248,7,1023]
theorem nV.Da:qx .any (opsOf Try.f19 10)=nV.T10:=by kernel_rfl
theorem nV.BM:qW nV.T10.2 nV.B10=true:=by kernel_rfl
def nV.T29:Bool×List (List Nat×List Nat):=(true,[([],[]),([],[]),([1],[1]),([0,2],[0,2]),([3],[3]),([],[]),([],[]),([5,6],[5,6]),([7],[7]),([4,8],[4,8]),([],[]),([10,9,9,0,1,2,3,4,5,6,7,8,9,10],[9,10])])
def nV.B29:List Nat:=[0,0,2,7,15,0,0,96,224,511,0,2047]
theorem nV.IW:qx .any (opsOf Try.f19 29)=nV.T29:=by kernel_rfl
theorem nV.FX:qW nV.T29.2 nV.B29=true:=by kernel_rfl
theorem nV.calls (k:Nat) (ag:Int) (aM:Option Addr) (aN:Nat) (ai:List (S59)) (A1:Option Addr) (c1:Nat) (l1:List (List Int)) (l2:List Int) (r:Bool) (w:World) (dI:Kd.C k59 w aM ai.length ai) (dJ:ai.length<=aN) (hr1:Kd.C (Kd.slice 3 (Kd.int .i64)) w A1 l1.length l1) (fm:l1.length<=c1) (h:nV.f k ag ai l1 l2=some r):
  Calls Try.prog 19 #[.agg #[.int .i64 ag,.slice aM ai.length aN],.slice A1 l1.length c1] w fun e w'=>e=.returned (.bool r)/\Below w.heap.size w w':=by
 have ix:=Try.underlying31;have iy:=Try.underlying59;have cp:=dm dI;have cq:=dm dJ;clear dI dJ;have gn:=dm hr1;have iP:=dm fm;clear hr1 fm;have HB:=dm (Below.refl w.heap.size w);unfold nV.f at h;have H:=h;clear h;have es:=dm H;clear H
 go_enter Try.func19,Try.ntmps19
 go_upto_region 1 with(first|((with_reducible refine nT 2 rfl ?_);(try(refine rQ (by rfl) ?_;dsimp only));refine vG 2 #[.int .i64 ag,.slice aM ai.length aN] 31 ?_;intro az hg w5 nu hb;have ab:=dm (nu);have gU:=dm (nQ:w.heap.size<=az);have gV:=dm (nQ:w.heap.size<=az);replace HB:=nJ HB hb;clear hb nu hg))
 (try simp only [Act.put,List.setIfInBounds_toArray,List.set_cons_zero,List.set_cons_succ])
 go_cut [25] (fun gp wc=>∃ (kq:Nat) (bW:Bool),gp=.bool bW/\lm (nV.j0 kq l1 l2 bW ag ai=some r)/\lm (kq<=k)/\lm (wc.heap[az]? =some (.cells #[.int .i64 ag,(.slice aM ai.length aN)] 31 (0,0)))/\lm (Below w.heap.size w wc))
 case first=>
  have H:=es.out;clear es;obtain⟨bR,A6,H⟩:=oC H;(try dsimp only at H)
  rcases p8 H with⟨h_,H_⟩|⟨h_,H_⟩<;> (subst h_;clear H;have H:=H_;clear H_)
  ·have H':=dm H;clear H;have⟨gq,gr,gs,gt⟩:=nI (w:=w5) ab
   go_wp2_with (first|((with_reducible refine zS (f:=50) rfl ?_);refine yn (some 19) rfl rfl Try.func50 (ou) rfl #[.agg #[.int .i64 ag,.slice aM ai.length aN]] rfl (xm) ?_;refine(qL.calls (nS (oG cp.out HB.out)) cq.out A6.out).mono ?_;rintro e w9 ⟨rfl,hb⟩;refine⟨_,rfl,?_⟩;replace ab:=nD ab hb;replace HB:=nJ HB hb;(try clear hb)))
   go_meet
   case rel=>exact⟨_,(((l1.length:Int)==0)),(nP),H',⟨by first|omega|exact Nat.le_refl _⟩,⟨nG ab.out⟩,⟨nC HB.out⟩⟩
  have H':=dm H;clear H;have⟨fL,fM,fN,fO⟩:=nI (w:=w5) ab
  go_wp2_with (first|((with_reducible refine zS (f:=50) rfl ?_);refine yn (some 19) rfl rfl Try.func50 (ou) rfl #[.agg #[.int .i64 ag,.slice aM ai.length aN]] rfl (xm) ?_;refine(qL.calls (nS (oG cp.out HB.out)) cq.out A6.out).mono ?_;rintro e iQ ⟨rfl,hb⟩;refine⟨_,rfl,?_⟩;replace ab:=nD ab hb;replace HB:=nJ HB hb;(try clear hb)))
  go_meet
  case rel=>exact⟨_,(true),(nP),H',⟨by first|omega|exact Nat.le_refl _⟩,⟨nG ab.out⟩,⟨nC HB.out⟩⟩
 case rest=>
  clear es;obtain⟨kq,bW,rfl,HA,bj,ab,HB⟩:=hcut;cases kq with
  |zero=>exact absurd HA.out (by simp[nV.j0])
  |succ dK=>
   have H:=HA.out;clear HA;simp only [nV.j0]at H
   rcases p8 H with⟨h_,H_⟩|⟨h_,H_⟩<;> (subst h_;clear H;have H:=H_;clear H_)
   ·obtain rfl:=Option.some.inj H
    go_wp2
    go_ret
    exact⟨qH,nC HB.out⟩
   skip
   obtain⟨cZ,H⟩:=qg H;have eE:=eq_true cZ;have eF:=decide_eq_true cZ;clear cZ
   obtain⟨c_,H⟩:=qg H;have eG:=eq_true c_;have eH:=decide_eq_true c_;clear c_;obtain⟨et,bI⟩:∃y_:List Bool,y_=(List.replicate (ag:Int).toNat false):=⟨_,rfl⟩;replace H:(nV.l0 dK l2 et l1 (l1.length:Int) 0 ag ai [] 0)=some r:=pg bI H
   have dL:=dm bI;clear bI;have H':=dm H;clear H
   go_wp2_with (first|((with_reducible refine nT 26 rfl ?_);refine Mj 26 ?_;intro ax hg gu nu hb;have ac:=dm (nu);have gW:=dm (nQ:w.heap.size<=ax);have eI:=dm (nQ:w.heap.size<=ax);replace HB:=nJ HB hb;have aQ:=dm (AL:az≠ax);have aT:=dm (AO:ax≠az);replace ab:=nD ab hb;clear hb nu hg;have gX:=aQ.out;have gY:=aT.out;have⟨ej,ek,el,em⟩:=nI (w:=gu) ab)|((with_reducible refine nT 29 rfl ?_);(try(refine rQ (by rfl) ?_;dsimp only));refine Fx Kd.bool _ 4 rfl (N:=29) rfl 54 _ _ rfl ag rfl rfl Try.underlying54 (.bool false) 1 Ht rfl (by decide) (by omega) false (ok:=fun _=>True) (okp:=fun _=>True) rfl (fun _ hk=>hk) trivial nA (Nat.le_trans (Nat.mul_le_mul_right _ (of_decide_eq_true (xn):ag.toNat<=281474976710656)) (by omega)) (Below.refl _ _) (Nat.le_refl _) ?_;intro a6 iR b5 hb hg_ pW;clear hg_ pW;(first|rw[←dL.out]at b5|(simp only [Int.reduceToNat]at b5;rw[←dL.out]at b5));have eJ:=dm (oJ b5 (oF (nC HB.out)));replace ab:=nD ab hb;replace ac:=nD ac hb;replace HB:=nJ HB hb;clear hb b5))
   go_loopg [32] dK (fun kq gv w'=>∃ (aj:List Bool) (aa:Int) (af:List (S59)),gv=.int .i64 aa/\lm (nV.l0 kq l2 aj l1 (l1.length:Int) aa ag ai af 0=some r)/\lm (kq<=dK)/\lm (Kd.R Kd.bool 4 w' w.heap.size (fun _=>True) a6 aj)/\lm (w'.heap[az]? =some (.cells #[.int .i64 ag,(.slice aM ai.length aN)] 31 (0,0)))/\lm (w'.heap[ax]? =some (rX af))/\lm (Below w.heap.size w w'))
   case atStart=>exact⟨(et),(0),[],(nP),H',⟨Nat.le_refl _⟩,⟨nH eJ.out⟩,⟨nG ab.out⟩,⟨nG ac.out⟩,⟨nC HB.out⟩⟩
   case round=>
    clear H';(try clear cY eE eF eG eH ej ek el em);obtain⟨aj,aa,af,rfl,HA,bk,ae,ab,ac,HB⟩:=hrel;cases gk with
    |zero=>exact absurd HA.out (by simp[nV.l0])
    |succ k2=>
     have H:=HA.out;clear HA;simp only [nV.l0]at H
     replace H:=p_ H;rcases H with⟨dM,H⟩|⟨dM,H⟩
     ·skip
      obtain⟨eK,H⟩:=oz H
      obtain⟨eL,H⟩:=oz H;have du:=dm H;clear H;have cr:0<=(aa:Int):=nA;have ct:aa<(l1.length:Int):=nA;obtain⟨gZ,gw,bJ,fq,bS,cf,cg⟩:=tQ gn.out aa cr ct;cases fq;replace bS:=nE HB bS;have aO:=dm cg;have bT:=dm cf;clear cg cf;replace cr:=eq_true cr;replace ct:=eq_true ct
      go_upto_region 8 with(fail)
      go_cut [45] (fun gx wc=>∃ (kq:Nat) (bK:Bool),gx=.bool bK/\lm (nV.j2 kq l2 aj aa (nO l1 aa) l1 (l1.length:Int) aa bK ag ai af 0=some r)/\lm (kq<=k2)/\lm (Kd.R Kd.bool 4 wc w.heap.size (fun _=>True) a6 aj)/\lm (wc.heap[az]? =some (.cells #[.int .i64 ag,(.slice aM ai.length aN)] 31 (0,0)))/\lm (wc.heap[ax]? =some (rX af))/\lm (Below w.heap.size w wc))
      case first=>
       have H:=du.out;clear du
       by_cases ch:((nO l1 aa).length:Int)<2
       ·rw[if_pos ch]at H;have bL:=decide_eq_true ch;have eM:decide ((nO l1 aa).length<2)=true:=decide_eq_true (by omega);clear ch;(first|rw[bL]|(simp only [qw,qM];rw[bL])|skip);have H':=dm H;clear H
        go_wp2
        go_meet
        case rel=>exact⟨_,(true),(nP),H',⟨by have:=bj.out;have:=bk.out;first|omega|exact Nat.le_refl _⟩,⟨nH ae.out⟩,⟨nG ab.out⟩,⟨nG ac.out⟩,⟨nC HB.out⟩⟩
       rw[if_neg ch]at H;have bL:=decide_eq_false ch;have eM:decide ((nO l1 aa).length<2)=false:=decide_eq_false (by omega);clear ch;(first|rw[bL]|(simp only [qw,qM];rw[bL])|skip);obtain⟨b0,gy,H⟩:=oC H;(try dsimp only at H);have H':=dm H;clear H;have g0:=aQ.out;have g1:=aT.out;have⟨fP,fQ,fR,fS⟩:=nI (w:=wr) ab
       go_wp2_with (first|(go_at_call 51;refine(qR.calls (nS (oG cp.out HB.out)) cq.out (nS (oG aO.out HB.out)) bT.out gy.out).mono ?_;rintro e iS ⟨rfl,hb⟩;replace ae:=oD ae hb;replace ab:=nD ab hb;replace ac:=nD ac hb;replace HB:=nJ HB hb;(try clear hb)))
       go_meet
       case rel=>exact⟨_,(!b0),(nP),H',⟨by have:=bj.out;have:=bk.out;first|omega|exact Nat.le_refl _⟩,⟨nH ae.out⟩,⟨nG ab.out⟩,⟨nG ac.out⟩,⟨nC HB.out⟩⟩
      case rest=>
       clear du;(try clear dM eK eL bS cr ct);obtain⟨kq,bK,rfl,HA,a_,ae,ab,ac,HB⟩:=hcut;cases kq with
       |zero=>exact absurd HA.out (by simp[nV.j2])
       |succ a7=>
        have H:=HA.out;clear HA;simp only [nV.j2]at H
        rcases p8 H with⟨h_,H_⟩|⟨h_,H_⟩<;> (subst h_;clear H;have H:=H_;clear H_)
        ·obtain rfl:=Option.some.inj H
         go_wp2
         go_ret
         exact⟨qH,nC HB.out⟩
        skip
        obtain⟨dP,H⟩:=qg H;have eN:=decide_eq_true dP;have eO:decide (0<(nO l1 aa).length)=true:=decide_eq_true (by omega);clear dP;obtain⟨au,aY⟩:∃j_:Int,(wrap64 (((nO l1 aa).length:Int) - 1))=j_:=⟨_,rfl⟩;replace H:(if 0<=(au) then(if(au)<((nO l1 aa).length:Int) then(if(rd (nO l1 aa) 0)=(rd (nO l1 aa) (au)) then(if((nO l1 aa).length:Int)<4 then(nV.j3 a7 l2 aj aa (nO l1 aa) (rd (nO l1 aa) 0) (rd (nO l1 aa) (au)) l1 (l1.length:Int) aa true ag ai af 0) else(if aa=0 then(nV.j3 a7 l2 aj aa (nO l1 aa) (rd (nO l1 aa) 0) (rd (nO l1 aa) (au)) l1 (l1.length:Int) aa ((rd (nO l1 aa) 0) !=(rd (nO l1 aa) (au))) ag ai af 0) else(nV.j3 a7 l2 aj aa (nO l1 aa) (rd (nO l1 aa) 0) (rd (nO l1 aa) (au)) l1 (l1.length:Int) aa false ag ai af 0))) else(if aa=0 then(nV.j3 a7 l2 aj aa (nO l1 aa) (rd (nO l1 aa) 0) (rd (nO l1 aa) (au)) l1 (l1.length:Int) aa ((rd (nO l1 aa) 0) !=(rd (nO l1 aa) (au))) ag ai af 0) else(nV.j3 a7 l2 aj aa (nO l1 aa) (rd (nO l1 aa) 0) (rd (nO l1 aa) (au)) l1 (l1.length:Int) aa false ag ai af 0))) else(none)) else(none))=some r:=by first|(rw[aY]at H;exact H)|(simp only [aY]at H⊢;exact H)
        have gz:(IntKind.i64.wrap (((nO l1 aa).length:Int) - 1))=au:=(qw _).trans aY
        obtain⟨eP,H⟩:=oz H
        obtain⟨eQ,H⟩:=oz H;have dv:=dm H;clear H;try go_wp2
        replace ae:=dm (nN ae.out);replace ab:=dm (nZ ab.out);replace ac:=dm (nZ ac.out);replace HB:=dm (pz HB.out);have cu:0<=(0:Int):=(by omega);have cv:0<((nO l1 aa).length:Int):=nA;obtain⟨aJ,ft,aW⟩:=oL aO.out 0 cu cv;have bn:=aW;(try rw[show((0:Int)).toNat=0 from rfl]at bn);(try rw[show 0*1=0 from rfl]at bn);(try rw[Addr.add_zero']at bn);cases ft;have g2:(0<(nO l1 aa).length)=True:=eq_true (by omega);(try rw[show((0:Int)).toNat=0 from rfl]at aW);(try rw[Addr.add_zero']at aW);replace aW:=nE HB aW;replace cu:=eq_true cu;replace cv:=eq_true cv;have cw:0<=((au):Int):=nA;have cx:(au)<((nO l1 aa).length:Int):=nA;obtain⟨eR,fu,ba⟩:=oL aO.out (au) cw cx;have en:=ba;obtain rfl:aJ=eR:=(by injection fu);replace ba:=nE HB ba;replace cw:=eq_true cw;replace cx:=eq_true cx;refine zt (n:=11) (S:=fun w'=>w'.cell? aJ=some (.int .i64 (rd (nO l1 aa) 0))/\w'.cell? (aJ.add ((au)).toNat)=some (.int .i64 (rd (nO l1 aa) (au)))) (ds:=[]) (pQ 11 0) (ou) rfl (ou) ⟨(nE HB bn),(nE HB en)⟩ (fun hHeld=>?_);refine Di nV.Da nV.BM (fun HT_ HW_=>?_);generalize wc.drew=iT at ae ab ac HB aW ba hHeld⊢;refine lq 0 46 1 ?_;refine lq 1 47 3 ?_;refine lq 3 49 11 ?_;refine lq 4 50 27 ?_;refine lq 5 51 59 ?_;refine lq 6 52 123 ?_;refine lq 7 53 251 ?_;refine nR 2 48 255 ?_;refine lq 9 9 767 ?_;refine nR 8 54 1023 ?_;refine lq 10 10 2047 ?_;refine qb (qf HT_.out (ou)) ?_
        go_upto_region 11 with(fail)
        go_cut [71] (fun gA wc=>∃ (kq:Nat) (bM:Bool),gA=.bool bM/\lm (nV.j3 kq l2 aj aa (nO l1 aa) (rd (nO l1 aa) 0) (rd (nO l1 aa) (au)) l1 (l1.length:Int) aa bM ag ai af 0=some r)/\lm (kq<=a7)/\lm (Kd.R Kd.bool 4 wc w.heap.size (fun _=>True) a6 aj)/\lm (wc.heap[az]? =some (.cells #[.int .i64 ag,(.slice aM ai.length aN)] 31 (0,0)))/\lm (wc.heap[ax]? =some (rX af))/\lm (Below w.heap.size w wc))
        case first=>
         have H:=dv.out;clear dv
         by_cases b6:(rd (nO l1 aa) 0)=(rd (nO l1 aa) (au))
         ·rw[if_pos b6]at H;have bN:=beq_iff_eq.mpr b6;have eS:=bne_eq_false_iff_eq.mpr b6;clear b6;(first|rw[bN]|(simp only [qw,qM];rw[bN])|skip)
          by_cases ci:((nO l1 aa).length:Int)<4
          ·rw[if_pos ci]at H;have eT:=decide_eq_true ci;have eU:decide ((nO l1 aa).length<4)=true:=decide_eq_true (by omega);clear ci;have H':=dm H;clear H
           go_wp2
           go_meet
           case rel=>exact⟨_,(true),(nP),H',⟨AP⟩,⟨nH ae.out⟩,⟨nG ab.out⟩,⟨nG ac.out⟩,⟨nC HB.out⟩⟩
          rw[if_neg ci]at H;have eT:=decide_eq_false ci;have eU:decide ((nO l1 aa).length<4)=false:=decide_eq_false (by omega);clear ci
          by_cases b7:aa=0
          ·rw[if_pos b7]at H;have eV:=beq_iff_eq.mpr b7;have eW:=bne_eq_false_iff_eq.mpr b7;clear b7;have H':=dm H;clear H
           go_wp2
           go_meet
           case rel=>exact⟨_,(((rd (nO l1 aa) 0) !=(rd (nO l1 aa) (au)))),(by first|rfl|(simp;done)|(simp[*];done)|(simp only [←aY];done)|(simp[bne, *];done)),H',⟨AP⟩,⟨nH ae.out⟩,⟨nG ab.out⟩,⟨nG ac.out⟩,⟨nC HB.out⟩⟩
          rw[if_neg b7]at H;have eV:=beq_eq_false_iff_ne.mpr b7;have eW:=bne_iff_ne.mpr b7;have H':=dm H;clear H
          go_wp2
          go_meet
          case rel=>exact⟨_,(false),(nP),H',⟨AP⟩,⟨nH ae.out⟩,⟨nG ab.out⟩,⟨nG ac.out⟩,⟨nC HB.out⟩⟩
         rw[if_neg b6]at H;have bN:=beq_eq_false_iff_ne.mpr b6;have eS:=bne_iff_ne.mpr b6;(first|rw[bN]|(simp only [qw,qM];rw[bN])|skip)
         by_cases b8:aa=0
         ·rw[if_pos b8]at H;have eX:=beq_iff_eq.mpr b8;have eY:=bne_eq_false_iff_eq.mpr b8;clear b8;have H':=dm H;clear H
          go_wp2
          go_meet
          case rel=>exact⟨_,(((rd (nO l1 aa) 0) !=(rd (nO l1 aa) (au)))),(by first|rfl|(simp;done)|(simp[*];done)|(simp only [←aY];done)|(simp[bne, *];done)),H',⟨AP⟩,⟨nH ae.out⟩,⟨nG ab.out⟩,⟨nG ac.out⟩,⟨nC HB.out⟩⟩
         rw[if_neg b8]at H;have eX:=beq_eq_false_iff_ne.mpr b8;have eY:=bne_iff_ne.mpr b8;have H':=dm H;clear H
         go_wp2
         go_meet
         case rel=>exact⟨_,(false),(nP),H',⟨AP⟩,⟨nH ae.out⟩,⟨nG ab.out⟩,⟨nG ac.out⟩,⟨nC HB.out⟩⟩
        case rest=>
         clear dv;(try clear da eN eO eP eQ aW ba cu cw cv cx);obtain⟨kq,bM,rfl,HA,bf,ae,ab,ac,HB⟩:=hcut;cases kq with
         |zero=>exact absurd HA.out (by simp[nV.j3])
         |succ bu=>
          have H:=HA.out;clear HA;simp only [nV.j3]at H
          rcases p8 H with⟨h_,H_⟩|⟨h_,H_⟩<;> (subst h_;clear H;have H:=H_;clear H_)
          ·obtain rfl:=Option.some.inj H
           go_wp2
           go_ret
           exact⟨AJ,nC HB.out⟩
          skip
          obtain⟨dc,H⟩:=qg H;have eZ:=eq_true dc;have e2:=decide_eq_true dc;clear dc
          obtain⟨dd,H⟩:=qg H;have e3:=eq_true dd;have e4:=decide_eq_true dd;clear dd;have dw:=dm H;clear H;obtain⟨iz,dS,_,dT,_⟩:=info_parts info3;obtain⟨gB,eu,ev,ew⟩:=M0 (P:=Try.prog) (Value.int .i64) 0 45 3 .i64 .i64 Try.underlying45 dS dT (some aJ) bJ (nO l1 aa) 1 (wrap64 (((nO l1 aa).length:Int) - 1)) (by omega) (by first|omega|exact of_decide_eq_true (xn)) nA bT.out;simp only [aY]at eu;have e5:=dm (zz (h1:=fun _=>rfl) (ev _ (yz aO.out)));have e6:=dm ew;clear ev ew dS dT
          go_upto_if 78 with(fail)
          go_cut [11] (fun gC wc=>∃ (kq:Nat) (ak:List Int) (A2:Option Addr) (c2:Nat),gC=.slice A2 ak.length c2/\lm (Kd.C (Kd.int .i64) w A2 ak.length ak)/\lm (ak.length<=c2)/\lm (nV.j4 kq l2 aj (nO l1 aa) ak l1 (l1.length:Int) aa ag ai af 0=some r)/\lm (kq<=bu)/\lm (Kd.R Kd.bool 4 wc w.heap.size (fun _=>True) a6 aj)/\lm (wc.heap[az]? =some (.cells #[.int .i64 ag,(.slice aM ai.length aN)] 31 (0,0)))/\lm (wc.heap[ax]? =some (rX af))/\lm (Below w.heap.size w wc))
          case first=>
           have H:=dw.out;clear dw
           by_cases b9:aa=0
           ·rw[if_pos b9]at H;have bO:=beq_iff_eq.mpr b9;have e7:=bne_eq_false_iff_eq.mpr b9;clear b9;(first|rw[bO]|(simp only [qw,qM];rw[bO])|skip)
            obtain⟨de,H⟩:=qg H;have g3:=eq_true de;have g4:=decide_eq_true de;clear de;have H':=dm H;clear H;obtain⟨iA,dU,_,dV,_⟩:=info_parts info3;obtain⟨gD,gE,ex,ey⟩:=MZ (P:=Try.prog) (Value.int .i64) 0 45 3 .i64 Try.underlying45 dU dV (some aJ) bJ (nO l1 aa) 1 (by omega) nA bT.out;have e8:=dm (zz (h1:=fun _=>rfl) (ex _ (yz aO.out)));have e9:=dm ey;clear ex ey dU dV
            go_wp2
            go_meet
            case rel=>exact⟨_,((nO l1 aa).drop 1),gD,bJ - 1,(by first|rfl|(simp[List.length_drop,List.length_take];done)|(simp[List.length_drop,List.length_take,←aY];done)),e8,e9,H',⟨by have:=bj.out;have:=bk.out;have:=a_.out;have:=bf.out;first|omega|exact Nat.le_refl _⟩,⟨nH ae.out⟩,⟨nG ab.out⟩,⟨nG ac.out⟩,⟨nC HB.out⟩⟩
           rw[if_neg b9]at H;have bO:=beq_eq_false_iff_ne.mpr b9;have e7:=bne_iff_ne.mpr b9;(first|rw[bO]|(simp only [qw,qM];rw[bO])|skip)
           obtain⟨g5,H⟩:=oz H
           obtain⟨g6,H⟩:=oz H;obtain⟨ez,cy⟩:∃b_:Bool,b_=(qz false aj (rd (nO l1 aa) 0)):=⟨_,rfl⟩;replace H:(if ez=true then(if 0<=(rd (nO l1 aa) (au)) then(if(rd (nO l1 aa) (au))<(aj.length:Int) then(if qz false aj (rd (nO l1 aa) (au))=true then(nV.j4 bu l2 aj (nO l1 aa) (((nO l1 aa).take (wrap64 (((nO l1 aa).length:Int) - 1)).toNat).drop 1) l1 (l1.length:Int) aa ag ai af 0) else(some false)) else(none)) else(none)) else(some false))=some r:=by rw[←cy]at H;exact H
           have bP:=dm cy;clear cy
           rcases p8 H with⟨h_,H_⟩|⟨h_,H_⟩<;> (subst h_;clear H;have H:=H_;clear H_)
           ·skip
            obtain⟨g7,H⟩:=oz H
            obtain⟨g8,H⟩:=oz H;obtain⟨eA,cz⟩:∃b_:Bool,b_=(qz false aj (rd (nO l1 aa) (au))):=⟨_,rfl⟩;replace H:(if eA=true then(nV.j4 bu l2 aj (nO l1 aa) (((nO l1 aa).take (wrap64 (((nO l1 aa).length:Int) - 1)).toNat).drop 1) l1 (l1.length:Int) aa ag ai af 0) else(some false))=some r:=by rw[←cz]at H;exact H
            have bX:=dm cz;clear cz
            rcases p8 H with⟨h_,H_⟩|⟨h_,H_⟩<;> (subst h_;clear H;have H:=H_;clear H_)
            ·have H':=dm H;clear H;obtain⟨iB,iC,fv⟩:=nX ae.out;subst fv;have a8:0<=((rd (nO l1 aa) 0):Int):=nA;have a9:(rd (nO l1 aa) 0)<(aj.length:Int):=nA;obtain⟨bY,ca,aX⟩:=vV (nK ae.out).2.2 (rd (nO l1 aa) 0) a8 a9;(try rw[←bP.out]at aX);(try rw[←bX.out]at aX);cases ca;replace a8:=eq_true a8;replace a9:=eq_true a9;have bv:0<=((rd (nO l1 aa) (au)):Int):=nA;have bw:(rd (nO l1 aa) (au))<(aj.length:Int):=nA;obtain⟨cA,dx,bc⟩:=vV (nK ae.out).2.2 (rd (nO l1 aa) (au)) bv bw;(try rw[←bP.out]at bc);(try rw[←bX.out]at bc);obtain rfl:bY=cA:=(by injection dx);replace bv:=eq_true bv;replace bw:=eq_true bw
             go_wp2
             go_meet
             case rel=>exact⟨_,(((nO l1 aa).take (wrap64 (((nO l1 aa).length:Int) - 1)).toNat).drop 1),gB,bJ - 1,(by first|rfl|(simp[List.length_drop,List.length_take];done)|(simp[List.length_drop,List.length_take,←aY];done)),e5,e6,H',⟨by have:=bj.out;have:=bk.out;have:=a_.out;have:=bf.out;first|omega|exact Nat.le_refl _⟩,⟨nH ae.out⟩,⟨nG ab.out⟩,⟨nG ac.out⟩,⟨nC HB.out⟩⟩
            obtain rfl:=Option.some.inj H;obtain⟨iD,iE,fw⟩:=nX ae.out;subst fw;have a8:0<=((rd (nO l1 aa) 0):Int):=nA;have a9:(rd (nO l1 aa) 0)<(aj.length:Int):=nA;obtain⟨bY,ca,aX⟩:=vV (nK ae.out).2.2 (rd (nO l1 aa) 0) a8 a9;(try rw[←bP.out]at aX);(try rw[←bX.out]at aX);cases ca;replace a8:=eq_true a8;replace a9:=eq_true a9;have bv:0<=((rd (nO l1 aa) (au)):Int):=nA;have bw:(rd (nO l1 aa) (au))<(aj.length:Int):=nA;obtain⟨cA,dx,bc⟩:=vV (nK ae.out).2.2 (rd (nO l1 aa) (au)) bv bw;(try rw[←bP.out]at bc);(try rw[←bX.out]at bc);obtain rfl:bY=cA:=(by injection dx);replace bv:=eq_true bv;replace bw:=eq_true bw
            go_wp2
            go_ret
            exact⟨AJ,nC HB.out⟩
           obtain rfl:=Option.some.inj H;obtain⟨iF,iG,fx⟩:=nX ae.out;subst fx;have a8:0<=((rd (nO l1 aa) 0):Int):=nA;have a9:(rd (nO l1 aa) 0)<(aj.length:Int):=nA;obtain⟨bY,ca,aX⟩:=vV (nK ae.out).2.2 (rd (nO l1 aa) 0) a8 a9;(try rw[←bP.out]at aX);cases ca;replace a8:=eq_true a8;replace a9:=eq_true a9
           go_wp2
           go_ret
           exact⟨AJ,nC HB.out⟩
          case rest=>
           clear dw;(try clear db eZ e2 e3 e4);obtain⟨kq,ak,A2,c2,rfl,d4,fo,HA,bq,ae,ab,ac,HB⟩:=hcut;cases kq with
           |zero=>exact absurd HA.out (by simp[nV.j4])
           |succ bU=>
            have H:=HA.out;clear HA;simp only [nV.j4]at H;obtain⟨co,fp,H⟩:=oC H;(try dsimp only at H)
            rcases p8 H with⟨h_,H_⟩|⟨h_,H_⟩<;> (subst h_;clear H;have H:=H_;clear H_)
            ·have H':=dm H;clear H
             go_wp2_with (first|((with_reducible refine zS (f:=52) rfl ?_);refine yn (some 94) rfl rfl Try.func52 (ou) rfl #[.slice A2 ak.length c2] rfl (xm) ?_;refine(sj.calls (nS (oG d4.out HB.out)) fo.out fp.out).mono ?_;rintro e w' ⟨rfl,⟨nd,rfl⟩⟩;refine⟨_,rfl,?_⟩))
             go_loopg [98] bU (fun kq gF w'=>∃ (aE:Int),gF=.int .i64 aE/\lm (nV.l1 kq l2 aj (nO l1 aa) l1 (l1.length:Int) aa ak (ak.length:Int) aE ag ai af 0=some r)/\lm (kq<=bU)/\lm (Kd.R Kd.bool 4 w' w.heap.size (fun _=>True) a6 aj)/\lm (w'.heap[az]? =some (.cells #[.int .i64 ag,(.slice aM ai.length aN)] 31 (0,0)))/\lm (w'.heap[ax]? =some (rX af))/\lm (Below w.heap.size w w'))
             case atStart=>exact⟨(0),(nP),H',⟨Nat.le_refl _⟩,⟨nH ae.out⟩,⟨nG ab.out⟩,⟨nG ac.out⟩,⟨nC HB.out⟩⟩
             case round=>
              clear H';(try clear c2 df);obtain⟨aE,rfl,HA,bZ,ae,ab,ac,HB⟩:=hrel;cases gk with
              |zero=>exact absurd HA.out (by simp[nV.l1])
              |succ k6=>
               have H:=HA.out;clear HA;simp only [nV.l1]at H
               replace H:=p_ H;rcases H with⟨d5,H⟩|⟨d5,H⟩
               ·skip
                obtain⟨g9,H⟩:=oz H
                obtain⟨g_,H⟩:=oz H
                obtain⟨hD,H⟩:=oz H
                obtain⟨hJ,H⟩:=oz H;obtain⟨eB,cD⟩:∃b_:Bool,b_=(qz false aj (rd ak aE)):=⟨_,rfl⟩;replace H:(if eB=true then(some false) else(nV.l1 k6 l2 aj (nO l1 aa) l1 (l1.length:Int) aa ak (ak.length:Int) (wrap64 (aE+1)) ag ai af 0))=some r:=by rw[←cD]at H;exact H
                have d_:=dm cD;clear cD
                rcases p8 H with⟨h_,H_⟩|⟨h_,H_⟩<;> (subst h_;clear H;have H:=H_;clear H_)
                ·obtain rfl:=Option.some.inj H;have bx:0<=(aE:Int):=nA;have bz:aE<(ak.length:Int):=nA;obtain⟨fa,dy,bd⟩:=oL d4.out aE bx bz;cases dy;replace bd:=nE HB bd;replace bx:=eq_true bx;replace bz:=eq_true bz;obtain⟨iH,iI,fy⟩:=nX ae.out;subst fy;have bA:0<=((rd ak aE):Int):=nA;have bB:(rd ak aE)<(aj.length:Int):=nA;obtain⟨fb,dz,bV⟩:=vV (nK ae.out).2.2 (rd ak aE) bA bB;(try rw[←d_.out]at bV);cases dz;replace bA:=eq_true bA;replace bB:=eq_true bB
                 go_wp2
                 go_ret
                 exact⟨AJ,nC HB.out⟩
                have H':=dm H;clear H;have bx:0<=(aE:Int):=nA;have bz:aE<(ak.length:Int):=nA;obtain⟨fa,dy,bd⟩:=oL d4.out aE bx bz;cases dy;replace bd:=nE HB bd;replace bx:=eq_true bx;replace bz:=eq_true bz;obtain⟨iJ,iK,fz⟩:=nX ae.out;subst fz;have bA:0<=((rd ak aE):Int):=nA;have bB:(rd ak aE)<(aj.length:Int):=nA;obtain⟨fb,dz,bV⟩:=vV (nK ae.out).2.2 (rd ak aE) bA bB;(try rw[←d_.out]at bV);cases dz;replace bA:=eq_true bA;replace bB:=eq_true bB
                go_wp2
                go_roundg k6
                case measure=>have:=bj.out;have:=bk.out;have:=a_.out;have:=bf.out;have:=bq.out;have:=bZ.out;omega
                case rel=>exact⟨(wrap64 (aE+1)),(nP),H',⟨by have:=bj.out;have:=bk.out;have:=a_.out;have:=bf.out;have:=bq.out;have:=bZ.out;omega⟩,⟨nH ae.out⟩,⟨nG ab.out⟩,⟨nG ac.out⟩,⟨nC HB.out⟩⟩
               have H':=dm H;clear H
               go_wp2
               go_loopg [14] k6 (fun kq gG w'=>∃ (al:Int) (ao:List (S59)),gG=.int .i64 al/\lm (nV.l2 kq l2 aj (nO l1 aa) al l1 (l1.length:Int) aa ag ai ao 0=some r)/\lm (kq<=k6)/\lm (Kd.R Kd.bool 4 w' w.heap.size (fun _=>True) a6 aj)/\lm (w'.heap[az]? =some (.cells #[.int .i64 ag,(.slice aM ai.length aN)] 31 (0,0)))/\lm (w'.heap[ax]? =some (rX ao))/\lm (Below w.heap.size w w'))
               case atStart=>exact⟨(1),(af),(nP),H',⟨Nat.le_refl _⟩,⟨nH ae.out⟩,⟨nG ab.out⟩,⟨nG ac.out⟩,⟨nC HB.out⟩⟩
               case round=>
                clear H';(try clear d5);obtain⟨al,ao,rfl,HA,cM,ae,ab,ac,HB⟩:=hrel;cases gk with
                |zero=>exact absurd HA.out (by simp[nV.l2])
                |succ k7=>
                 have H:=HA.out;clear HA;simp only [nV.l2]at H
                 replace H:=p_ H;rcases H with⟨eb,H⟩|⟨eb,H⟩
                 ·obtain⟨aH,bH⟩:∃j_:Int,(wrap64 (al - 1))=j_:=⟨_,rfl⟩;replace H:(if 0<=(aH) then(if(aH)<((nO l1 aa).length:Int) then(if 0<=al then((vW.f (rd (nO l1 aa) (aH)) (rd (nO l1 aa) al)).bind fun a4=>(if uK ao a4.1 a4.2=true then(some false) else(nV.l2 k7 l2 aj (nO l1 aa) (wrap64 (al+1)) l1 (l1.length:Int) aa ag ai (ao++[⟨a4.1,a4.2⟩]) 0))) else(none)) else(none)) else(none))=some r:=by first|(rw[bH]at H;exact H)|(simp only [bH]at H⊢;exact H)
                  have gH:(IntKind.i64.wrap (al - 1))=aH:=(qw _).trans bH
                  obtain⟨hU,H⟩:=oz H
                  obtain⟨hV,H⟩:=oz H
                  obtain⟨hX,H⟩:=oz H;obtain⟨⟨aU,aV⟩,ef,H⟩:=oC H;(try dsimp only at H)
                  by_cases dg:uK ao aU aV=true
                  ·rw[if_pos dg]at H;obtain rfl:=Option.some.inj H;try go_wp2
                   replace ae:=dm (nN ae.out);replace ab:=dm (nZ ab.out);replace ac:=dm (nZ ac.out);replace HB:=dm (pz HB.out);have bC:0<=((aH):Int):=nA;have bD:(aH)<((nO l1 aa).length:Int):=nA;obtain⟨cE,dA,aR⟩:=oL aO.out (aH) bC bD;have av:=aR;obtain rfl:aJ=cE:=(by injection dA);replace aR:=nE HB aR;replace bC:=eq_true bC;replace bD:=eq_true bD;have bE:0<=(al:Int):=nA;have bF:al<((nO l1 aa).length:Int):=nA;obtain⟨cF,dB,aS⟩:=oL aO.out al bE bF;have aw:=aS;obtain rfl:aJ=cF:=(by injection dB);replace aS:=nE HB aS;replace bE:=eq_true bE;replace bF:=eq_true bF;refine zt (n:=12) (S:=fun w'=>w'.cell? (aJ.add ((aH)).toNat)=some (.int .i64 (rd (nO l1 aa) (aH)))/\w'.cell? (aJ.add (al).toNat)=some (.int .i64 (rd (nO l1 aa) al))) (ds:=[]) (pQ 12 0) (ou) rfl (ou) ⟨(nE HB av),(nE HB aw)⟩ (fun hHeld=>?_);refine Di nV.IW nV.FX (fun HT_ HW_=>?_);generalize wr.drew=iU at ae ab ac HB aR aS hHeld⊢;refine lq 0 113 1 ?_;refine lq 1 114 3 ?_;refine lq 2 115 7 ?_;refine lq 3 116 15 ?_;refine lq 5 118 47 ?_;refine lq 6 119 111 ?_;refine lq 7 120 239 ?_;refine nR 4 117 255 ?_;refine nR 8 121 511 ?_;refine yo (σ:=Nat) 1 (pQ 12 2047) (fun s_=>[(122,.agg #[.int .i64 aU,.int .i64 aV]),(15,.pointer (some ⟨s_,0,none⟩))]) (fun s_ w'=>(w'.cell? (aJ.add ((aH)).toNat)=some (.int .i64 (rd (nO l1 aa) (aH)))/\w'.cell? (aJ.add (al).toNat)=some (.int .i64 (rd (nO l1 aa) al)))/\(Kd.R Kd.bool 4 w' w.heap.size (fun _=>True) a6 aj)/\(w'.heap[az]? =some (.cells #[.int .i64 ag,.slice aM ai.length aN] 31 (0,0)))/\(w'.heap[ax]? =some (rX ao))/\(w'.heap[s_]? =some (.cells #[.int .i64 0,.int .i64 0] 59 (0,0)))/\(w.heap.size<=s_)/\(w.heap.size<=s_)/\(az≠s_)/\(s_≠az)/\(ax≠s_)/\(s_≠ax)/\(Below w.heap.size w w')) ?_ ?_;rotate_left
                   ·intro si;refine vC (i:=9) (j:=10) (Ni:=some 122) (Nj:=some 15) (pQ 12 1023) (pQ 12 1535) rfl rfl rfl rfl (vD HT_.out (ou)) (by decide) (by decide) (fun K hK=>?_) (fun K hK=>?_)
                    ·skip;refine uq Try.func53 (ou) rfl #[.int .i64 (rd (nO l1 aa) (aH)),.int .i64 (rd (nO l1 aa) al)] (by rfl) rfl rfl (Ct) ?_;refine(vW.calls ef.out).mono ?_;rintro e gI ⟨rfl,hb⟩;refine⟨_,rfl,?_⟩;replace ae:=oD ae hb;replace ab:=nD ab hb;replace ac:=nD ac hb;replace HB:=nJ HB hb;(try clear hb hk);refine hK.out _ _ ⟨(nE HB av),(nE HB aw)⟩ (fun hHeld=>?_);clear hK K;refine og 122 ?_;refine wD (i:=10) (N:=some 15) (pQ 12 2047) rfl rfl (xK HT_.out (ou)) (by decide) (fun K hK=>?_);refine tK ?hg (N:=15) ?hd (cs:= #[.int .i64 0,.int .i64 0]) (t:=59) ?hr ?_;(case hd=>rfl);(case hg=>rfl);(case hr=>first|(go_simp;done)|(go_simp;rfl));intro ah hg gJ nu hb;have n0:=oD ae hb;have n1:=nD ab hb;have n2:=nD ac hb;have n3:=nJ HB hb;have n4:=dm (nu);have n5:=dm (nQ:w.heap.size<=ah);have n6:=dm (nQ:w.heap.size<=ah);have n7:=dm (AL:az≠ah);have n8:=dm (AO:ah≠az);have n9:=dm (Cu:ax≠ah);have bm:=dm (Cv:ah≠ax);clear ae ab ac HB;revert n0 n1 n2 n3 n4 n5 n6 n7 n8 n9 bm;intro ae ab ac HB aI am a5 aB aF aq aG;clear hb nu hg;refine hK.out _ _ ⟨(nE HB av),(nE HB aw)⟩ (fun hHeld=>?_);clear hK K;refine og 15 ?_;exact rR (by simp only [rJ,Act.put,List.setIfInBounds_toArray,List.set_cons_zero,List.set_cons_succ]) (si (ah) _ ⟨hHeld,(nH ae.out),(nG ab.out),(nG ac.out),(nG aI.out),am.out,a5.out,aB.out,aF.out,aq.out,aG.out,(nC HB.out)⟩)
                    skip;refine tK ?hg (N:=15) ?hd (cs:= #[.int .i64 0,.int .i64 0]) (t:=59) ?hr ?_;(case hd=>rfl);(case hg=>rfl);(case hr=>first|(go_simp;done)|(go_simp;rfl));intro ah hg gI nu hb;have n0:=oD ae hb;have n1:=nD ab hb;have n2:=nD ac hb;have n3:=nJ HB hb;have n4:=dm (nu);have n5:=dm (nQ:w.heap.size<=ah);have n6:=dm (nQ:w.heap.size<=ah);have n7:=dm (AL:az≠ah);have n8:=dm (AO:ah≠az);have n9:=dm (Cu:ax≠ah);have bm:=dm (Cv:ah≠ax);clear ae ab ac HB;revert n0 n1 n2 n3 n4 n5 n6 n7 n8 n9 bm;intro ae ab ac HB aI am a5 aB aF aq aG;clear hb nu hg;refine hK.out _ _ ⟨(nE HB av),(nE HB aw)⟩ (fun hHeld=>?_);clear hK K;refine og 15 ?_;refine wD (i:=9) (N:=some 122) (pQ 12 2047) rfl rfl (xK HT_.out (ou)) (by decide) (fun K hK=>?_);refine uq Try.func53 (ou) rfl #[.int .i64 (rd (nO l1 aa) (aH)),.int .i64 (rd (nO l1 aa) al)] (by rfl) rfl rfl (Ct) ?_;refine(vW.calls ef.out).mono ?_;rintro e gJ ⟨rfl,hb⟩;refine⟨_,rfl,?_⟩;replace ae:=oD ae hb;replace ab:=nD ab hb;replace ac:=nD ac hb;replace aI:=nD aI hb;replace HB:=nJ HB hb;(try clear hb hk);refine hK.out _ _ ⟨(nE HB av),(nE HB aw)⟩ (fun hHeld=>?_);clear hK K;refine og 122 ?_;exact rR (by simp only [rJ,Act.put,List.setIfInBounds_toArray,List.set_cons_zero,List.set_cons_succ]) (si (ah) _ ⟨hHeld,(nH ae.out),(nG ab.out),(nG ac.out),(nG aI.out),am.out,a5.out,aB.out,aF.out,aq.out,aG.out,(nC HB.out)⟩)
                   rintro ah bo ⟨hS_,dh,di,dj,dk,dl,dn,dp,dq,dr,dt,cd⟩;have n0:lm (Kd.R Kd.bool 4 bo w.heap.size (fun _=>True) a6 aj):=⟨dh⟩;have n1:lm (bo.heap[az]? =some (.cells #[.int .i64 ag,.slice aM ai.length aN] 31 (0,0))):=⟨di⟩;have n2:lm (bo.heap[ax]? =some (rX ao)):=⟨dj⟩;have n3:lm (bo.heap[ah]? =some (.cells #[.int .i64 0,.int .i64 0] 59 (0,0))):=⟨dk⟩;have n4:lm (w.heap.size<=ah):=⟨dl⟩;have n5:lm (w.heap.size<=ah):=⟨dn⟩;have n6:lm (az≠ah):=⟨dp⟩;have n7:lm (ah≠az):=⟨dq⟩;have n8:lm (ax≠ah):=⟨dr⟩;have n9:lm (ah≠ax):=⟨dt⟩;have bm:lm (Below w.heap.size w bo):=⟨cd⟩;clear ae ab ac HB;clear dh di dj dk dl dn dp dq dr dt cd;revert n0 n1 n2 n3 n4 n5 n6 n7 n8 n9 bm;intro ae ab ac aI am a5 aB aF aq aG HB;have hHeld:bo.cell? (aJ.add ((aH)).toNat)=some (.int .i64 (rd (nO l1 aa) (aH)))/\bo.cell? (aJ.add (al).toNat)=some (.int .i64 (rd (nO l1 aa) al)):=hS_;refine rR (a':= ?_) ?_ ?_;rotate_left
                   ·simp only [rJ,Act.put,List.setIfInBounds_toArray,List.set_cons_zero,List.set_cons_succ];rfl
                   refine wD (i:=11) (N:=none) (pQ 12 4095) rfl rfl (xK HT_.out (ou)) (by decide) (fun K hK=>?_);have iL:bo.cell? ⟨ah,0,none⟩=some (.int .i64 0):=nz aI 0;have hY:=qy aI.out 0;have fT:=aB.out;have fU:=aq.out;have fV:=aF.out;have fW:=aG.out;have iM:bo.cell? ⟨ah,1,none⟩=some (.int .i64 0):=nz aI 1;have hZ:=qy aI.out 1;have fX:=aB.out;have fY:=aq.out;have fZ:=aF.out;have f0:=aG.out;refine sG (w1:= ?_) (by rfl) rfl ?_ ?_;rotate_left
                   ·go_simp
                    rfl
                   refine hK.out _ _ ⟨((cell_far (p:=⟨ah,_,none⟩) (tZ av am.out) _).trans (((cell_far (p:=⟨ah,_,none⟩) (tZ av am.out) _).trans (hHeld.1)))),((cell_far (p:=⟨ah,_,none⟩) (tZ aw am.out) _).trans (((cell_far (p:=⟨ah,_,none⟩) (tZ aw am.out) _).trans (hHeld.2))))⟩ (fun hHeld=>?_);clear hK K;refine qb (qf HT_.out (ou)) ?_;have h_:=aT.out;have ia:=aQ.out;have ib:=aq.out;have ic:=aG.out;have ie:=aF.out;have ig:=aB.out;have⟨f1,f2,f3,f4⟩:=nI (w:=bo) aI
                   go_wp2_with (first|(((with_reducible refine nT 125 rfl ?_);refine H8 125 (g:=ax) (l:=ao) (x0:=aU) (x1:=aV) (b:=true) (zY (zY ac.out aq.out _) aq.out _) dg ?_)))
                   go_ret
                   exact⟨by first|rfl|(simp[rE,rF]<;>rfl)|(simp only [←aY,←bH];first|rfl|(simp[rE,rF]<;>rfl))|(simp[*,rE,rF]<;>rfl),nC HB.out⟩
                  rw[if_neg dg]at H;have H':=dm H;clear H;try go_wp2
                  replace ae:=dm (nN ae.out);replace ab:=dm (nZ ab.out);replace ac:=dm (nZ ac.out);replace HB:=dm (pz HB.out);have bC:0<=((aH):Int):=nA;have bD:(aH)<((nO l1 aa).length:Int):=nA;obtain⟨cE,dA,aR⟩:=oL aO.out (aH) bC bD;have av:=aR;obtain rfl:aJ=cE:=(by injection dA);replace aR:=nE HB aR;replace bC:=eq_true bC;replace bD:=eq_true bD;have bE:0<=(al:Int):=nA;have bF:al<((nO l1 aa).length:Int):=nA;obtain⟨cF,dB,aS⟩:=oL aO.out al bE bF;have aw:=aS;obtain rfl:aJ=cF:=(by injection dB);replace aS:=nE HB aS;replace bE:=eq_true bE;replace bF:=eq_true bF;refine zt (n:=12) (S:=fun w'=>w'.cell? (aJ.add ((aH)).toNat)=some (.int .i64 (rd (nO l1 aa) (aH)))/\w'.cell? (aJ.add (al).toNat)=some (.int .i64 (rd (nO l1 aa) al))) (ds:=[]) (pQ 12 0) (ou) rfl (ou) ⟨(nE HB av),(nE HB aw)⟩ (fun hHeld=>?_);refine Di nV.IW nV.FX (fun HT_ HW_=>?_);generalize wr.drew=iV at ae ab ac HB aR aS hHeld⊢;refine lq 0 113 1 ?_;refine lq 1 114 3 ?_;refine lq 2 115 7 ?_;refine lq 3 116 15 ?_;refine lq 5 118 47 ?_;refine lq 6 119 111 ?_;refine lq 7 120 239 ?_;refine nR 4 117 255 ?_;refine nR 8 121 511 ?_;refine yo (σ:=Nat) 1 (pQ 12 2047) (fun s_=>[(122,.agg #[.int .i64 aU,.int .i64 aV]),(15,.pointer (some ⟨s_,0,none⟩))]) (fun s_ w'=>(w'.cell? (aJ.add ((aH)).toNat)=some (.int .i64 (rd (nO l1 aa) (aH)))/\w'.cell? (aJ.add (al).toNat)=some (.int .i64 (rd (nO l1 aa) al)))/\(Kd.R Kd.bool 4 w' w.heap.size (fun _=>True) a6 aj)/\(w'.heap[az]? =some (.cells #[.int .i64 ag,.slice aM ai.length aN] 31 (0,0)))/\(w'.heap[ax]? =some (rX ao))/\(w'.heap[s_]? =some (.cells #[.int .i64 0,.int .i64 0] 59 (0,0)))/\(w.heap.size<=s_)/\(w.heap.size<=s_)/\(az≠s_)/\(s_≠az)/\(ax≠s_)/\(s_≠ax)/\(Below w.heap.size w w')) ?_ ?_;rotate_left
                  ·intro si;refine vC (i:=9) (j:=10) (Ni:=some 122) (Nj:=some 15) (pQ 12 1023) (pQ 12 1535) rfl rfl rfl rfl (vD HT_.out (ou)) (by decide) (by decide) (fun K hK=>?_) (fun K hK=>?_)
                   ·skip;refine uq Try.func53 (ou) rfl #[.int .i64 (rd (nO l1 aa) (aH)),.int .i64 (rd (nO l1 aa) al)] (by rfl) rfl rfl (Ct) ?_;refine(vW.calls ef.out).mono ?_;rintro e gK ⟨rfl,hb⟩;refine⟨_,rfl,?_⟩;replace ae:=oD ae hb;replace ab:=nD ab hb;replace ac:=nD ac hb;replace HB:=nJ HB hb;(try clear hb hk);refine hK.out _ _ ⟨(nE HB av),(nE HB aw)⟩ (fun hHeld=>?_);clear hK K;refine og 122 ?_;refine wD (i:=10) (N:=some 15) (pQ 12 2047) rfl rfl (xK HT_.out (ou)) (by decide) (fun K hK=>?_);refine tK ?hg (N:=15) ?hd (cs:= #[.int .i64 0,.int .i64 0]) (t:=59) ?hr ?_;(case hd=>rfl);(case hg=>rfl);(case hr=>first|(go_simp;done)|(go_simp;rfl));intro ah hg gL nu hb;have n0:=oD ae hb;have n1:=nD ab hb;have n2:=nD ac hb;have n3:=nJ HB hb;have n4:=dm (nu);have n5:=dm (nQ:w.heap.size<=ah);have n6:=dm (nQ:w.heap.size<=ah);have n7:=dm (AL:az≠ah);have n8:=dm (AO:ah≠az);have n9:=dm (Cu:ax≠ah);have bm:=dm (Cv:ah≠ax);clear ae ab ac HB;revert n0 n1 n2 n3 n4 n5 n6 n7 n8 n9 bm;intro ae ab ac HB aI am a5 aB aF aq aG;clear hb nu hg;refine hK.out _ _ ⟨(nE HB av),(nE HB aw)⟩ (fun hHeld=>?_);clear hK K;refine og 15 ?_;exact rR (by simp only [rJ,Act.put,List.setIfInBounds_toArray,List.set_cons_zero,List.set_cons_succ]) (si (ah) _ ⟨hHeld,(nH ae.out),(nG ab.out),(nG ac.out),(nG aI.out),am.out,a5.out,aB.out,aF.out,aq.out,aG.out,(nC HB.out)⟩)
                   skip;refine tK ?hg (N:=15) ?hd (cs:= #[.int .i64 0,.int .i64 0]) (t:=59) ?hr ?_;(case hd=>rfl);(case hg=>rfl);(case hr=>first|(go_simp;done)|(go_simp;rfl));intro ah hg gK nu hb;have n0:=oD ae hb;have n1:=nD ab hb;have n2:=nD ac hb;have n3:=nJ HB hb;have n4:=dm (nu);have n5:=dm (nQ:w.heap.size<=ah);have n6:=dm (nQ:w.heap.size<=ah);have n7:=dm (AL:az≠ah);have n8:=dm (AO:ah≠az);have n9:=dm (Cu:ax≠ah);have bm:=dm (Cv:ah≠ax);clear ae ab ac HB;revert n0 n1 n2 n3 n4 n5 n6 n7 n8 n9 bm;intro ae ab ac HB aI am a5 aB aF aq aG;clear hb nu hg;refine hK.out _ _ ⟨(nE HB av),(nE HB aw)⟩ (fun hHeld=>?_);clear hK K;refine og 15 ?_;refine wD (i:=9) (N:=some 122) (pQ 12 2047) rfl rfl (xK HT_.out (ou)) (by decide) (fun K hK=>?_);refine uq Try.func53 (ou) rfl #[.int .i64 (rd (nO l1 aa) (aH)),.int .i64 (rd (nO l1 aa) al)] (by rfl) rfl rfl (Ct) ?_;refine(vW.calls ef.out).mono ?_;rintro e gL ⟨rfl,hb⟩;refine⟨_,rfl,?_⟩;replace ae:=oD ae hb;replace ab:=nD ab hb;replace ac:=nD ac hb;replace aI:=nD aI hb;replace HB:=nJ HB hb;(try clear hb hk);refine hK.out _ _ ⟨(nE HB av),(nE HB aw)⟩ (fun hHeld=>?_);clear hK K;refine og 122 ?_;exact rR (by simp only [rJ,Act.put,List.setIfInBounds_toArray,List.set_cons_zero,List.set_cons_succ]) (si (ah) _ ⟨hHeld,(nH ae.out),(nG ab.out),(nG ac.out),(nG aI.out),am.out,a5.out,aB.out,aF.out,aq.out,aG.out,(nC HB.out)⟩)
                  rintro ah bp ⟨hS_,dh,di,dj,dk,dl,dn,dp,dq,dr,dt,cd⟩;have n0:lm (Kd.R Kd.bool 4 bp w.heap.size (fun _=>True) a6 aj):=⟨dh⟩;have n1:lm (bp.heap[az]? =some (.cells #[.int .i64 ag,.slice aM ai.length aN] 31 (0,0))):=⟨di⟩;have n2:lm (bp.heap[ax]? =some (rX ao)):=⟨dj⟩;have n3:lm (bp.heap[ah]? =some (.cells #[.int .i64 0,.int .i64 0] 59 (0,0))):=⟨dk⟩;have n4:lm (w.heap.size<=ah):=⟨dl⟩;have n5:lm (w.heap.size<=ah):=⟨dn⟩;have n6:lm (az≠ah):=⟨dp⟩;have n7:lm (ah≠az):=⟨dq⟩;have n8:lm (ax≠ah):=⟨dr⟩;have n9:lm (ah≠ax):=⟨dt⟩;have bm:lm (Below w.heap.size w bp):=⟨cd⟩;clear ae ab ac HB;clear dh di dj dk dl dn dp dq dr dt cd;revert n0 n1 n2 n3 n4 n5 n6 n7 n8 n9 bm;intro ae ab ac aI am a5 aB aF aq aG HB;have hHeld:bp.cell? (aJ.add ((aH)).toNat)=some (.int .i64 (rd (nO l1 aa) (aH)))/\bp.cell? (aJ.add (al).toNat)=some (.int .i64 (rd (nO l1 aa) al)):=hS_;refine rR (a':= ?_) ?_ ?_;rotate_left
                  ·simp only [rJ,Act.put,List.setIfInBounds_toArray,List.set_cons_zero,List.set_cons_succ];rfl
                  refine wD (i:=11) (N:=none) (pQ 12 4095) rfl rfl (xK HT_.out (ou)) (by decide) (fun K hK=>?_);have iN:bp.cell? ⟨ah,0,none⟩=some (.int .i64 0):=nz aI 0;have ii:=qy aI.out 0;have f5:=aB.out;have f6:=aq.out;have f7:=aF.out;have f8:=aG.out;have iO:bp.cell? ⟨ah,1,none⟩=some (.int .i64 0):=nz aI 1;have ij:=qy aI.out 1;have f9:=aB.out;have f_:=aq.out;have ga:=aF.out;have gb:=aG.out;refine sG (w1:= ?_) (by rfl) rfl ?_ ?_;rotate_left
                  ·go_simp
                   rfl
                  refine hK.out _ _ ⟨((cell_far (p:=⟨ah,_,none⟩) (tZ av am.out) _).trans (((cell_far (p:=⟨ah,_,none⟩) (tZ av am.out) _).trans (hHeld.1)))),((cell_far (p:=⟨ah,_,none⟩) (tZ aw am.out) _).trans (((cell_far (p:=⟨ah,_,none⟩) (tZ aw am.out) _).trans (hHeld.2))))⟩ (fun hHeld=>?_);clear hK K;refine qb (qf HT_.out (ou)) ?_;have ik:=aT.out;have il:=aQ.out;have im:=aq.out;have io:=aG.out;have ip:=aF.out;have iq:=aB.out;have⟨gc,ge,gf,gg⟩:=nI (w:=bp) aI
                  go_wp2_with (first|(((with_reducible refine nT 125 rfl ?_);refine H8 125 (g:=ax) (l:=ao) (x0:=aU) (x1:=aV) (b:=false) (zY (zY ac.out aq.out _) aq.out _) (Bool.eq_false_iff.mpr dg) ?_))|((at_mapUpdate;refine Mm (g:=ax) (l:=ao) (x0:=aU) (x1:=aV) (zY (zY ac.out aq.out _) aq.out _) (Bool.eq_false_iff.mpr dg) ?_;intro w_m hm_ hgm_;replace ae:=dm (nL (JN (nU (p:=⟨ah,1,none⟩) (nU (p:=⟨ah,0,none⟩) (Mo (oV ae.out aI.out (by decide)) ac.out) (fun _ hk=>hk.1.2) (.int .i64 aU)) (fun _ hk=>hk.1.2) (.int .i64 aV)) hgm_ (fun k_ hk e_=>hk.2 (Option.some.inj e_))) (fun _ _=>trivial));replace ab:=dm (BP (u_ (u_ ab.out aB.out _) aB.out _) hgm_ (fun e_=>aQ.out (Option.some.inj e_)));replace ac:=dm hm_;replace HB:=dm (Mf (nC HB.out) hgm_ eI.out);clear hm_ hgm_)))
                  go_roundg k7
                  case measure=>have:=bj.out;have:=bk.out;have:=a_.out;have:=bf.out;have:=bq.out;have:=bZ.out;have:=cM.out;omega
                  case rel=>exact⟨(wrap64 (al+1)),(ao++[⟨aU,aV⟩]),(nP),H',⟨by have:=bj.out;have:=bk.out;have:=a_.out;have:=bf.out;have:=bq.out;have:=bZ.out;have:=cM.out;omega⟩,⟨nH ae.out⟩,⟨nG ab.out⟩,⟨nG ac.out⟩,⟨nC HB.out⟩⟩
                 have H':=dm H;clear H
                 go_wp2
                 go_loopg [130] k7 (fun kq fA w'=>∃ (bh:List Bool) (aD:Int),fA=.int .i64 aD/\lm (nV.l3 kq l2 bh l1 (l1.length:Int) aa (nO l1 aa) ((nO l1 aa).length:Int) aD ag ai ao 0=some r)/\lm (kq<=k7)/\lm (Kd.R Kd.bool 4 w' w.heap.size (fun _=>True) a6 bh)/\lm (w'.heap[az]? =some (.cells #[.int .i64 ag,(.slice aM ai.length aN)] 31 (0,0)))/\lm (w'.heap[ax]? =some (rX ao))/\lm (Below w.heap.size w w'))
                 case atStart=>exact⟨(aj),(0),(nP),H',⟨Nat.le_refl _⟩,⟨nH ae.out⟩,⟨nG ab.out⟩,⟨nG ac.out⟩,⟨nC HB.out⟩⟩
                 case round=>
                  clear H';(try clear eb);obtain⟨bh,aD,rfl,HA,eo,ae,ab,ac,HB⟩:=hrel;cases gk with
                  |zero=>exact absurd HA.out (by simp[nV.l3])
                  |succ k8=>
                   have H:=HA.out;clear HA;simp only [nV.l3]at H
                   replace H:=p_ H;rcases H with⟨fc,H⟩|⟨fc,H⟩
                   ·skip
                    obtain⟨gM,H⟩:=oz H
                    obtain⟨gN,H⟩:=oz H
                    obtain⟨gO,H⟩:=oz H
                    obtain⟨gP,H⟩:=oz H;obtain⟨dC,bQ⟩:∃y_:List Bool,y_=(bh.set ((rd (nO l1 aa) aD):Int).toNat true):=⟨_,rfl⟩;replace H:(nV.l3 k8 l2 dC l1 (l1.length:Int) aa (nO l1 aa) ((nO l1 aa).length:Int) (wrap64 (aD+1)) ag ai ao 0)=some r:=pg bQ H
                    have fd:=dm bQ;clear bQ;have H':=dm H;clear H;have dD:0<=(aD:Int):=nA;have dE:aD<((nO l1 aa).length:Int):=nA;obtain⟨fe,fB,cm⟩:=oL aO.out aD dD dE;obtain rfl:aJ=fe:=(by injection fB);replace cm:=nE HB cm;replace dD:=eq_true dD;replace dE:=eq_true dE;have dF:0<=((rd (nO l1 aa) aD):Int):=nA;have dG:((rd (nO l1 aa) aD):Int)<((bh.length:Int):Int):=nA;obtain⟨cK,ff,eg,eh,fg,ir,ei⟩:=xU ae.out (by omega);(first|cases eg|(injection eg with ea_ en_ ec_;(first|subst ea_|(injection ea_ with ea_;subst ea_));subst ec_;clear en_));have fh:=dm eh;have iu:=dm ei;clear eh fg ei;obtain⟨gh,gi⟩:=uT false ae.out ((rd (nO l1 aa) aD):Int) dF dG;replace dF:=eq_true dF;replace dG:=eq_true dG;have cL:=xV ae.out ((rd (nO l1 aa) aD):Int) true
                    go_wp2_with (first|((with_reducible refine wW (t:=4) (p:=136) rfl ?_);refine xe (t:=4) (p:=136) (v:= ?vo_w106) (w1:=(wr.setCell ⟨cK,((rd (nO l1 aa) aD):Int).toNat,none⟩ (.bool true))) ?hg ?ho ?hn ?hr ?_;(case ho=>rfl);(case hg=>rfl);(case hn=>rfl);(case hr=>first|(go_simp;done)|(go_simp;rfl));intro dH hw;have hg:wr.grownBy dH (some cK):=(by rw[hw];exact cL.2);have hp_:Kd.R Kd.bool 4 dH w.heap.size (fun _=>True) (.slice (some ⟨cK,0,none⟩) bh.length ff) dC:=(by rw[hw,fd.out];exact cL.1);clear cL;replace ab:=pq ab hg (pM ae.out ab.out (by decide));replace ac:=pq ac hg (mNe ae.out ac.out);replace ae:=dm (hp_);replace HB:=dm ((by rw[hw];exact qY (HB.out) fh.out:Below w.heap.size w dH));clear hg hw hp_))
                    go_roundg k8
                    case measure=>have:=bj.out;have:=bk.out;have:=a_.out;have:=bf.out;have:=bq.out;have:=bZ.out;have:=cM.out;have:=eo.out;omega
                    case rel=>exact⟨(dC),(wrap64 (aD+1)),(nP),H',⟨GQ⟩,⟨nH ae.out⟩,⟨nG ab.out⟩,⟨nG ac.out⟩,⟨nC HB.out⟩⟩
                   have H':=dm H;clear H
                   go_wp2
                   go_roundg k8
                   case measure=>have:=bj.out;have:=bk.out;have:=a_.out;have:=bf.out;have:=bq.out;have:=bZ.out;have:=cM.out;have:=eo.out;omega
                   case rel=>exact⟨(bh),(wrap64 (aa+1)),(ao),(nP),H',⟨GQ⟩,⟨nH ae.out⟩,⟨nG ab.out⟩,⟨nG ac.out⟩,⟨nC HB.out⟩⟩
            obtain rfl:=Option.some.inj H
            go_wp2_with (first|((with_reducible refine zS (f:=52) rfl ?_);refine yn (some 94) rfl rfl Try.func52 (ou) rfl #[.slice A2 ak.length c2] rfl (xm) ?_;refine(sj.calls (nS (oG d4.out HB.out)) fo.out fp.out).mono ?_;rintro e w' ⟨rfl,⟨nd,rfl⟩⟩;refine⟨_,rfl,?_⟩))
            go_ret
            exact⟨AJ,nC HB.out⟩
     skip
     by_cases bG:(af.length:Int)=(ai.length:Int)
     ·rw[if_pos bG]at H;have eC:=beq_iff_eq.mpr bG;have eD:=bne_eq_false_iff_eq.mpr bG;clear bG;obtain⟨cn,fC,H⟩:=oC H;(try dsimp only at H);obtain rfl:=Option.some.inj H;have gQ:=aT.out;have gR:=aQ.out;have⟨fD,fE,fF,fG⟩:=nI (w:=wr) ab;obtain⟨iv,iw,fi⟩:=nX ae.out;subst fi
      go_wp2_with (first|((with_reducible refine nT 140 rfl ?_);refine Ic 140 (g:=ax) (l:=af) ac.out ?_)|(go_at_call 54;refine(vY.calls (nS (nK ae.out).2.2) ((nK ae.out).2.1) fC.out).mono ?_;rintro e w' ⟨rfl,⟨nd,rfl⟩⟩))
      go_ret
      exact⟨qH,nC HB.out⟩
     rw[if_neg bG]at H;have eC:=beq_eq_false_iff_ne.mpr bG;have eD:=bne_iff_ne.mpr bG;obtain rfl:=Option.some.inj H;have gS:=aT.out;have gT:=aQ.out;have⟨fH,fI,fJ,fK⟩:=nI (w:=wr) ab
     go_wp2_with (first|((with_reducible refine nT 140 rfl ?_);refine Ic 140 (g:=ax) (l:=af) ac.out ?_))
     go_ret
     exact⟨qH,nC HB.out⟩
def zT.f (k:Nat) (ab:Int) (aa:List (S59)) (l1:List (List Int)):Option (Bool):=nV.f k ab aa l1 []
theorem zT.calls {k:Nat}{ab:Int}{ac:Option Addr}{ae:Nat}{aa:List (S59)}{A1:Option Addr}{c1:Nat}{l1:List (List Int)}{r:Bool}{w:World}(af:Kd.C k59 w ac aa.length aa)(ag:aa.length<=ae)(hr1:Kd.C (Kd.slice 3 (Kd.int .i64)) w A1 l1.length l1)(ah:l1.length<=c1)(h:zT.f k ab aa l1=some r):
 Calls Try.prog 19 #[.agg #[.int .i64 ab,.slice ac aa.length ae],.slice A1 l1.length c1] w fun e w'=>e=.returned (.bool r)/\Below w.heap.size w w':=nV.calls k ab ac ae aa A1 c1 l1 [] r w af ag hr1 ah h
end Go.Proofs.Ytgeonpciodepgaa.P
