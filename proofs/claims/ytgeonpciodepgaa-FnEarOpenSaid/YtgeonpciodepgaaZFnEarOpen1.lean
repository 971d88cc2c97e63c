/- The proof's parts ahead of the row: of no condition of their own. -/
import Derived.Test.YtgeonpciodepgaaZFnEarOpen0
import Derived.Maps.Own
set_option linter.unusedVariables false
set_option linter.unusedSimpArgs false
namespace Go.Proofs.Ytgeonpciodepgaa.P
set_option maxHeartbeats 8000000
set_option maxRecDepth 100000
open Go.RowKit Go.Proofs.YtgeonpciodepgaaW.PrintWords Go.Proofs.YtgeonpciodepgaaW.PrintLast Go.Proofs.YtgeonpciodepgaaW.PrintMore Go.Proofs.YtgeonpciodepgaaW.PrintWords.Kd Go.Proofs.YtgeonpciodepgaaW.PrintMore.Kd
attribute [local go_sem] wH wM wK wP wJ wO wI wN
variable {p:Prop}
theorem vX(h:p:=by exact pg af.out):p:=h
theorem sj(h:p:=by exact pg ac.out):p:=h
theorem G5(h:p:=by(try simp only [List.map_toArray,List.map_cons,List.map_nil]);first|done|(simp only [aK];rfl)|rfl|(simp only [List.length_drop,List.length_take];rfl)):p:=h
theorem AX(h:p:=by rw[hg];exact Nat.ne_of_lt (oU (g:=ah) (o:=.cells #[.int .i64 ag,.slice (some aj) aa.length az] 31 (0,0)) (nE ac.out))):p:=h
theorem AY(h:p:=by rw[hg];exact Nat.ne_of_gt (oU (g:=ah) (o:=.cells #[.int .i64 ag,.slice (some aj) aa.length az] 31 (0,0)) (nE ac.out))):p:=h
theorem EA(h:p:=by rw[hg];exact Nat.ne_of_lt (oU (g:=aq) (o:=.cells #[.int .i64 ag,.int .i64 aI] 59 (0,0)) (nE au.out))):p:=h
theorem EB(h:p:=by rw[hg];exact Nat.ne_of_gt (oU (g:=aq) (o:=.cells #[.int .i64 ag,.int .i64 aI] 59 (0,0)) (nE au.out))):p:=h
theorem qM(h:p:=by first|rfl|(simp[rz,rA]<;>rfl)|(simp[*,rz,rA]<;>rfl)):p:=h
theorem nQ(h:p:=by first|rfl|(simp;done)|(simp[*];done)):p:=h
theorem nO(h:p:=by rw[hg];exact(ou (ny HB.out))):p:=h
theorem oz(h:p:=by kernel_rfl):p:=h
def uK.f (a0:Int) (a1:Int) (a2:Int):Option (Bool):=if a0>=a1 then(some (decide (a0<=a2))) else(some false)
theorem uK.calls {a0:Int}{a1:Int}{a2:Int}{r:Bool}{w:World}(h:uK.f a0 a1 a2=some r):
  Calls Try.prog 75 #[.int .i64 a0,.int .i64 a1,.int .i64 a2] w fun e w'=>e=.returned (.bool r)/\oK w w':=by
 unfold uK.f at h;have H:=h;clear h
 replace H:=pU H;rcases H with⟨bJ,H⟩|⟨bJ,H⟩
 ·obtain rfl:=Option.some.inj H
  go_enter Try.func75,Try.ntmps75
  go_wp2
  go_ret
  exact⟨nQ,by repeat(first|exact oK.refl _|apply oK.step)⟩
 obtain rfl:=Option.some.inj H
 go_enter Try.func75,Try.ntmps75
 go_wp2
 go_ret
 exact⟨nQ,by repeat(first|exact oK.refl _|apply oK.step)⟩
def xu.f (ag:Int) (aI:Int) (ax:Int) (aN:Int):Option (Bool):=if ag<ax then(some true) else(if ag=ax then(some (decide (aI<aN))) else(some false))
theorem xu.calls {ag:Int}{aI:Int}{ax:Int}{aN:Int}{r:Bool}{w:World}(h:xu.f ag aI ax aN=some r):
  Calls Try.prog 76 #[.agg #[.int .i64 ag,.int .i64 aI],.agg #[.int .i64 ax,.int .i64 aN]] w fun e w'=>e=.returned (.bool r)/\Below w.heap.size w w':=by
 have bK:=Try.underlying59;have HB:=dm (Below.refl w.heap.size w);unfold xu.f at h;have H:=h;clear h
 replace H:=pU H;rcases H with⟨bL,H⟩|⟨bL,H⟩
 ·obtain rfl:=Option.some.inj H
  go_enter Try.func76,Try.ntmps76
  go_wp2_with (first|((with_reducible refine nU 2 rfl ?_);refine oI #[.int .i64 ag,.int .i64 aI] 59 ?_;intro aq hg w4 nu hb;have au:=dm (nu);have bh:=dm (nO:w.heap.size<=aq);have bj:=dm (nO:w.heap.size<=aq);replace HB:=nI HB hb;clear hb nu hg)|((with_reducible refine nU 3 rfl ?_);refine oI #[.int .i64 ax,.int .i64 aN] 59 ?_;intro ay hg w5 nu hb;have aR:=dm (nu);have bk:=dm (nO:w.heap.size<=ay);have bl:=dm (nO:w.heap.size<=ay);replace HB:=nI HB hb;have aF:=dm (EA:aq≠ay);have aG:=dm (EB:ay≠aq);replace au:=nA au hb;clear hb nu hg;have dJ:=aF.out;have dK:=aG.out;have⟨bz,bA,bB,bC⟩:=nJ (w:=w5) au;have⟨cU,cW,cX,cY⟩:=nJ (w:=w5) aR))
  go_ret
  exact⟨qM,ny HB.out⟩
 skip
 by_cases c9:ag=ax
 ·rw[if_pos c9]at H;have bd:=beq_iff_eq.mpr c9;have bM:=bne_eq_false_iff_eq.mpr c9;clear c9;obtain rfl:=Option.some.inj H
  go_enter Try.func76,Try.ntmps76
  go_wp2_with (first|((with_reducible refine nU 2 rfl ?_);refine oI #[.int .i64 ag,.int .i64 aI] 59 ?_;intro aq hg dM nu hb;have au:=dm (nu);have bh:=dm (nO:w.heap.size<=aq);have bj:=dm (nO:w.heap.size<=aq);replace HB:=nI HB hb;clear hb nu hg)|((with_reducible refine nU 3 rfl ?_);refine oI #[.int .i64 ax,.int .i64 aN] 59 ?_;intro ay hg bG nu hb;have aR:=dm (nu);have bk:=dm (nO:w.heap.size<=ay);have bl:=dm (nO:w.heap.size<=ay);replace HB:=nI HB hb;have aF:=dm (EA:aq≠ay);have aG:=dm (EB:ay≠aq);replace au:=nA au hb;clear hb nu hg;have dl:=aF.out;have dn:=aG.out;have⟨bN,bO,bP,bQ⟩:=nJ (w:=bG) au;have⟨bR,bS,bT,bU⟩:=nJ (w:=bG) aR))
  go_ret
  exact⟨qM,ny HB.out⟩
 rw[if_neg c9]at H;have bd:=beq_eq_false_iff_ne.mpr c9;have bM:=bne_iff_ne.mpr c9;obtain rfl:=Option.some.inj H
 go_enter Try.func76,Try.ntmps76
 go_wp2_with (first|((with_reducible refine nU 2 rfl ?_);refine oI #[.int .i64 ag,.int .i64 aI] 59 ?_;intro aq hg dN nu hb;have au:=dm (nu);have bh:=dm (nO:w.heap.size<=aq);have bj:=dm (nO:w.heap.size<=aq);replace HB:=nI HB hb;clear hb nu hg)|((with_reducible refine nU 3 rfl ?_);refine oI #[.int .i64 ax,.int .i64 aN] 59 ?_;intro ay hg bH nu hb;have aR:=dm (nu);have bk:=dm (nO:w.heap.size<=ay);have bl:=dm (nO:w.heap.size<=ay);replace HB:=nI HB hb;have aF:=dm (EA:aq≠ay);have aG:=dm (EB:ay≠aq);replace au:=nA au hb;clear hb nu hg;have dq:=aF.out;have dr:=aG.out;have⟨bV,bW,bX,bY⟩:=nJ (w:=bH) au;have⟨bZ,b3,b4,b5⟩:=nJ (w:=bH) aR))
 go_ret
 exact⟨qM,ny HB.out⟩
mutual
def qa.j0:Nat->Bool->Int->List (S59)->Option (Bool)
 |0,_,_,_=>none
 |k+1,cZ,aH,ao=>if cZ=true then(some false) else(qa.l0 k 0 aH ao)
def qa.l0:Nat->Int->Int->List (S59)->Option (Bool)
 |0,_,_,_=>none
 |k+1,x3,aH,ao=>if x3<(ao.length:Int) then(if 0<=x3 then((uK.f ((nk ao x3).f0) 0 (wrap64 (aH - 1))).bind fun aZ=>(if aZ=true then((uK.f ((nk ao x3).f1) (wrap64 (((nk ao x3).f0)+1)) (wrap64 (aH - 1))).bind fun aO=>(if aO=true then(if x3>0 then(if 0<=(wrap64 (x3 - 1)) then(if(wrap64 (x3 - 1))<(ao.length:Int) then((xu.f ((nk ao (wrap64 (x3 - 1))).f0) ((nk ao (wrap64 (x3 - 1))).f1) ((nk ao x3).f0) ((nk ao x3).f1)).bind fun aE=>(if aE=true then(qa.l0 k (wrap64 (x3+1)) aH ao) else(some false))) else(none)) else(none)) else(qa.l0 k (wrap64 (x3+1)) aH ao)) else(some false))) else(some false))) else(none)) else(some true)
end
def qa.f (k:Nat) (ag:Int) (aa:List (S59)):Option (Bool):=(uK.f ag 0 8).bind fun aS=>(if aS=true then(qa.j0 k (decide ((aa.length:Int)>64)) ag aa) else(qa.j0 k true ag aa))
def qa.T7:Bool×List (List Nat×List Nat):=(true,[([],[]),([0],[0]),([],[]),([2],[2]),([3],[3]),([1,4],[1,4]),([5],[5]),([6,5],[6]),([7],[7]),([8,7],[7,8]),([7],[7]),([10,7],[7,10]),([11,7],[7,11]),([7],[7]),([13,7],[7,13]),([14,7],[7,14]),([9,12,15,7,7],[7,9,12,15]),([16,7],[7,16]),([7,17],[7,17]),([18,16],[18]),([19],[19]),([20,19],[19,20]),([21,19,19],[19,21]),([22],[22]),([23,22],[22,23]),([22],[22]),([25,22],[22,25]),([24,26,22],[22,24,26]),([27,22],[22,27]),([22],[22]),([28,29,22,22],[22,28,29]),([30,22],[22,30]),([22,31,19],[19,22,31]),([19,32],[19,32])])
def qa.B7:List Nat:=[0,1,0,4,12,31,63,127,255,511,255,1279,3327,255,8447,24831,65535,131071,262143,524287,1048575,2097151,4194303,8388607,16777215,8388607,41943039,134217727,268435455,8388607,1073741823,2147483647,4294967295,8589934591]
theorem qa.uU:qj .any (opsOf Try.f32 7)=qa.T7:=by kernel_rfl
theorem qa.uP:qV qa.T7.2 qa.B7=true:=by kernel_rfl
theorem qa.calls {k:Nat}{ag:Int}{aW:Option Addr}{az:Nat}{aa:List (S59)}{r:Bool}{w:World}(bm:Kd.C k59 w aW aa.length aa)(bn:aa.length<=az)(h:qa.f k ag aa=some r):
  Calls Try.prog 32 #[.agg #[.int .i64 ag,.slice aW aa.length az]] w fun e w'=>e=.returned (.bool r)/\Below w.heap.size w w':=by
 have dL:=Try.underlying31;have bK:=Try.underlying59;have aL:=dm bm;have dt:=dm bn;clear bm bn;have HB:=dm (Below.refl w.heap.size w);unfold qa.f at h;have H:=h;clear h;have bD:=dm H;clear H
 go_enter Try.func32,Try.ntmps32
 go_upto_region 1 with(first|((with_reducible refine nU 1 rfl ?_);(try(refine rT (by rfl) ?_;dsimp only));refine vI 1 #[.int .i64 ag,.slice aW aa.length az] 31 ?_;intro ah hg w3 nu hb;have ac:=dm (nu);have du:=dm (nO:w.heap.size<=ah);have dv:=dm (nO:w.heap.size<=ah);replace HB:=nI HB hb;clear hb nu hg))
 (try simp only [Act.put,List.setIfInBounds_toArray,List.set_cons_zero,List.set_cons_succ])
 go_cut [14] (fun c_ wc=>∃ (kq:Nat) (aT:Bool),c_=.bool aT/\lm (qa.j0 kq aT ag aa=some r)/\lm (kq<=k)/\lm (wc.heap[ah]? =some (.cells #[.int .i64 ag,(.slice aW aa.length az)] 31 (0,0)))/\lm (Below w.heap.size w wc))
 case first=>
  have H:=bD.out;clear bD;obtain⟨aS,A4,H⟩:=ow H;(try dsimp only at H)
  rcases pW H with⟨h_,H_⟩|⟨h_,H_⟩<;> (subst h_;clear H;have H:=H_;clear H_)
  ·have H':=dm H;clear H;have⟨db,dc,dd,de⟩:=nJ (w:=w3) ac
   go_wp2_with (first|((with_reducible refine og 75 rfl ?_);refine oV 7 rfl Try.func75 (uK.calls A4.out) ?_;rintro e w' ⟨rfl,⟨nd,rfl⟩⟩;refine⟨_,rfl,?_⟩))
   go_meet
   case rel=>exact⟨_,(decide ((aa.length:Int)>64)),(nQ),H',⟨by first|omega|exact Nat.le_refl _⟩,⟨nE ac.out⟩,⟨ny HB.out⟩⟩
  have H':=dm H;clear H;have⟨bz,bA,bB,bC⟩:=nJ (w:=w3) ac
  go_wp2_with (first|((with_reducible refine og 75 rfl ?_);refine oV 7 rfl Try.func75 (uK.calls A4.out) ?_;rintro e w' ⟨rfl,⟨nd,rfl⟩⟩;refine⟨_,rfl,?_⟩))
  go_meet
  case rel=>exact⟨_,(true),(nQ),H',⟨by first|omega|exact Nat.le_refl _⟩,⟨nE ac.out⟩,⟨ny HB.out⟩⟩
 case rest=>
  clear bD;obtain⟨kq,aT,rfl,HA,bo,ac,HB⟩:=hcut;cases kq with
  |zero=>exact absurd HA.out (by simp[qa.j0])
  |succ bE=>
   have H:=HA.out;clear HA;simp only [qa.j0]at H
   rcases pW H with⟨h_,H_⟩|⟨h_,H_⟩<;> (subst h_;clear H;have H:=H_;clear H_)
   ·obtain rfl:=Option.some.inj H
    go_wp2
    go_ret
    exact⟨qM,ny HB.out⟩
   have H':=dm H;clear H
   go_wp2
   go_loopg [3] bE (fun kq v3 w'=>∃ (ab:Int),v3=.int .i64 ab/\lm (qa.l0 kq ab ag aa=some r)/\lm (kq<=bE)/\lm (w'.heap[ah]? =some (.cells #[.int .i64 ag,(.slice aW aa.length az)] 31 (0,0)))/\lm (Below w.heap.size w w'))
   case atStart=>exact⟨(0),(nQ),H',⟨Nat.le_refl _⟩,⟨nE ac.out⟩,⟨ny HB.out⟩⟩
   case round=>
    clear H';(try clear c8);obtain⟨ab,rfl,HA,bp,ac,HB⟩:=hrel;cases gk with
    |zero=>exact absurd HA.out (by simp[qa.l0])
    |succ k2=>
     have H:=HA.out;clear HA;simp only [qa.l0]at H
     replace H:=pU H;rcases H with⟨bd,H⟩|⟨bd,H⟩
     ·skip
      obtain⟨dw,H⟩:=oC H;obtain⟨aZ,aX,H⟩:=ow H;(try dsimp only at H)
      rcases pW H with⟨h_,H_⟩|⟨h_,H_⟩<;> (subst h_;clear H;have H:=H_;clear H_)
      ·obtain⟨aO,a6,H⟩:=ow H;(try dsimp only at H)
       rcases pW H with⟨h_,H_⟩|⟨h_,H_⟩<;> (subst h_;clear H;have H:=H_;clear H_)
       ·skip
        replace H:=pU H;rcases H with⟨bF,H⟩|⟨bF,H⟩
        ·obtain⟨ai,aK⟩:∃j_:Int,(wrap64 (ab - 1))=j_:=⟨_,rfl⟩;replace H:(if 0<=(ai) then(if(ai)<(aa.length:Int) then((xu.f ((nk aa (ai)).f0) ((nk aa (ai)).f1) ((nk aa ab).f0) ((nk aa ab).f1)).bind fun aE=>(if aE=true then(qa.l0 k2 (wrap64 (ab+1)) ag aa) else(some false))) else(none)) else(none))=some r:=by first|(rw[aK]at H;exact H)|(simp only [aK]at H⊢;exact H)
         (try rw[aK]at aX);(try rw[aK]at a6);have df:(IntKind.i64.wrap (ab - 1))=ai:=(qP _).trans aK
         obtain⟨dx,H⟩:=oC H
         obtain⟨dy,H⟩:=oC H;obtain⟨aE,bI,H⟩:=ow H;(try dsimp only at H)
         rcases pW H with⟨h_,H_⟩|⟨h_,H_⟩<;> (subst h_;clear H;have H:=H_;clear H_)
         ·have H':=dm H;clear H;have⟨b6,b7,b8,b9⟩:=nJ (w:=wr) ac;have av:0<=(ab:Int):=nC;have aw:ab<(aa.length:Int):=nC;obtain⟨aj,aM,al,am⟩:=qA aL.out ab av aw;cases aM;replace al:=nG HB al;replace am:=nG HB am;replace av:=eq_true av;replace aw:=eq_true aw;try go_wp2_with (first|((with_reducible refine nU 4 rfl ?_);(try(refine rT (by rfl) ?_;dsimp only));refine vI 4 #[.int .i64 0,.int .i64 0] 59 ?_;intro ae hg a7 nu hb;have af:=dm (nu);have aU:=dm (nO:w.heap.size<=ae);have aV:=dm (nO:w.heap.size<=ae);replace HB:=nI HB hb;have ak:=dm (AX:ah≠ae);have ap:=dm (AY:ae≠ah);replace ac:=nA ac hb;clear hb nu hg;have dz:=ap.out;have dA:=ak.out;have⟨b_,ca,cd,ce⟩:=nJ (w:=a7) af))
          have n0:lm (((a7.setCell ⟨ae,0,none⟩ (.int .i64 ((nk aa ab).f0))).setCell ⟨ae,1,none⟩ (.int .i64 ((nk aa ab).f1))).heap[ah]? =some (.cells #[.int .i64 ag,.slice (some aj) aa.length az] 31 (0,0))):=⟨sj⟩;have n1:lm (((a7.setCell ⟨ae,0,none⟩ (.int .i64 ((nk aa ab).f0))).setCell ⟨ae,1,none⟩ (.int .i64 ((nk aa ab).f1))).heap[ae]? =some (.cells #[.int .i64 ((nk aa ab).f0),.int .i64 ((nk aa ab).f1)] 59 (0,0))):=⟨vX⟩;have n2:lm (Below w.heap.size w ((a7.setCell ⟨ae,0,none⟩ (.int .i64 ((nk aa ab).f0))).setCell ⟨ae,1,none⟩ (.int .i64 ((nk aa ab).f1)))):=⟨ny HB.out⟩;(try clear ac af HB);generalize((a7.setCell ⟨ae,0,none⟩ (.int .i64 ((nk aa ab).f0))).setCell ⟨ae,1,none⟩ (.int .i64 ((nk aa ab).f1)))=dg at n0 n1 n2⊢;revert n0 n1 n2;intro ac af HB;replace ac:=dm (oq ac.out);replace af:=dm (oq af.out);replace HB:=dm (pI HB.out);have aP:0<=((ai):Int):=nC;have aQ:(ai)<(aa.length:Int):=nC;obtain⟨a3,bf,aA,aB⟩:=qA aL.out (ai) aP aQ;have aC:=aB;have aD:=aA;obtain rfl:aj=a3:=(by injection bf);replace aA:=nG HB aA;replace aB:=nG HB aB;replace aP:=eq_true aP;replace aQ:=eq_true aQ;refine qc 34 (S:=fun w'=>w'.cell? ⟨ae,0,none⟩=some (.int .i64 ((nk aa ab).f0))/\w'.cell? ⟨ae,1,none⟩=some (.int .i64 ((nk aa ab).f1))/\w'.cell? ⟨ah,0,none⟩=some (.int .i64 ag)/\w'.cell? ⟨ah,1,none⟩=some (.slice (some aj) aa.length az)/\w'.cell? (aj.add (((ai)).toNat*2))=some (.int .i64 ((nk aa (ai)).f0))/\w'.cell? ⟨(aj.add (((ai)).toNat*2)).block,(aj.add (((ai)).toNat*2)).off+1,none⟩=some (.int .i64 ((nk aa (ai)).f1))) [] ⟨nz af 0,nz af 1,nz ac 0,nz ac 1,(nG HB aD),(nG HB aC)⟩ qa.uU qa.uP (fun hHeld HT_ HW_=>?_);generalize dg.drew=dO at ac af HB aA aB hHeld⊢;refine lq 0 27 1 ?_;refine lq 2 29 5 ?_;refine nT 1 28 7 ?_;refine nT 3 30 15 ?_;refine lq 4 31 31 ?_;refine oN 5 32 63 (fun K hK=>?_);refine qd Try.func75 (uK.calls aX.out) ?_;rintro e w' ⟨rfl,⟨nd,rfl⟩⟩;refine⟨_,rfl,?_⟩;refine hK.out _ _ ⟨nz af 0,nz af 1,nz ac 0,nz ac 1,(nG HB aD),(nG HB aC)⟩ (fun hHeld=>?_);clear hK K;refine nX 32 ?_;refine lq 6 33 127 ?_;refine lq 7 34 255 ?_;refine lq 8 35 511 ?_;refine lq 10 37 1535 ?_;refine lq 13 40 9727 ?_;refine nT 9 36 10239 ?_;refine nT 11 38 12287 ?_;refine lq 12 39 16383 ?_;refine nT 14 41 32767 ?_;refine lq 15 42 65535 ?_;refine oN 16 43 131071 (fun K hK=>?_);refine qd Try.func75 (uK.calls a6.out) ?_;rintro e w' ⟨rfl,⟨nd,rfl⟩⟩;refine⟨_,rfl,?_⟩;refine hK.out _ _ ⟨nz af 0,nz af 1,nz ac 0,nz ac 1,(nG HB aD),(nG HB aC)⟩ (fun hHeld=>?_);clear hK K;refine nX 43 ?_;refine lq 17 44 262143 ?_;refine lq 18 45 524287 ?_;refine lq 19 46 1048575 ?_;refine lq 20 47 2097151 ?_;refine lq 21 48 4194303 ?_;refine lq 22 49 8388607 ?_;refine lq 23 50 16777215 ?_;refine lq 25 52 50331647 ?_;refine lq 26 53 117440511 ?_;refine nT 24 51 134217727 ?_;refine lq 27 54 268435455 ?_;refine nT 28 55 536870911 ?_;refine nT 29 56 1073741823 ?_;refine oN 30 57 2147483647 (fun K hK=>?_);refine uw Try.func76 (oz) rfl #[.agg #[.int .i64 ((nk aa (ai)).f0),.int .i64 ((nk aa (ai)).f1)],.agg #[.int .i64 ((nk aa ab).f0),.int .i64 ((nk aa ab).f1)]] (by rfl) rfl rfl (G5) ?_;refine(xu.calls bI.out).mono ?_;rintro e dP ⟨rfl,hb⟩;refine⟨_,rfl,?_⟩;replace ac:=nA ac hb;replace af:=nA af hb;replace HB:=nI HB hb;(try clear hb);refine hK.out _ _ ⟨nz af 0,nz af 1,nz ac 0,nz ac 1,(nG HB aD),(nG HB aC)⟩ (fun hHeld=>?_);clear hK K;refine nX 57 ?_;refine lq 31 58 4294967295 ?_;refine lq 32 59 8589934591 ?_;refine lq 33 60 17179869183 ?_;refine pY (p8 HT_.out (oz)) ?_;try go_wp2
          go_roundg k2
          case measure=>have:=bo.out;have:=bp.out;omega
          case rel=>exact⟨(wrap64 (ab+1)),(nQ),H',⟨by have:=bo.out;have:=bp.out;omega⟩,⟨nE ac.out⟩,⟨ny HB.out⟩⟩
         obtain rfl:=Option.some.inj H;have⟨cf,cg,ch,ci⟩:=nJ (w:=wr) ac;have av:0<=(ab:Int):=nC;have aw:ab<(aa.length:Int):=nC;obtain⟨aj,aM,al,am⟩:=qA aL.out ab av aw;cases aM;replace al:=nG HB al;replace am:=nG HB am;replace av:=eq_true av;replace aw:=eq_true aw;try go_wp2_with (first|((with_reducible refine nU 4 rfl ?_);(try(refine rT (by rfl) ?_;dsimp only));refine vI 4 #[.int .i64 0,.int .i64 0] 59 ?_;intro ae hg a8 nu hb;have af:=dm (nu);have aU:=dm (nO:w.heap.size<=ae);have aV:=dm (nO:w.heap.size<=ae);replace HB:=nI HB hb;have ak:=dm (AX:ah≠ae);have ap:=dm (AY:ae≠ah);replace ac:=nA ac hb;clear hb nu hg;have dB:=ap.out;have dC:=ak.out;have⟨cj,ck,cl,cm⟩:=nJ (w:=a8) af))
         have n0:lm (((a8.setCell ⟨ae,0,none⟩ (.int .i64 ((nk aa ab).f0))).setCell ⟨ae,1,none⟩ (.int .i64 ((nk aa ab).f1))).heap[ah]? =some (.cells #[.int .i64 ag,.slice (some aj) aa.length az] 31 (0,0))):=⟨sj⟩;have n1:lm (((a8.setCell ⟨ae,0,none⟩ (.int .i64 ((nk aa ab).f0))).setCell ⟨ae,1,none⟩ (.int .i64 ((nk aa ab).f1))).heap[ae]? =some (.cells #[.int .i64 ((nk aa ab).f0),.int .i64 ((nk aa ab).f1)] 59 (0,0))):=⟨vX⟩;have n2:lm (Below w.heap.size w ((a8.setCell ⟨ae,0,none⟩ (.int .i64 ((nk aa ab).f0))).setCell ⟨ae,1,none⟩ (.int .i64 ((nk aa ab).f1)))):=⟨ny HB.out⟩;(try clear ac af HB);generalize((a8.setCell ⟨ae,0,none⟩ (.int .i64 ((nk aa ab).f0))).setCell ⟨ae,1,none⟩ (.int .i64 ((nk aa ab).f1)))=dh at n0 n1 n2⊢;revert n0 n1 n2;intro ac af HB;replace ac:=dm (oq ac.out);replace af:=dm (oq af.out);replace HB:=dm (pI HB.out);have aP:0<=((ai):Int):=nC;have aQ:(ai)<(aa.length:Int):=nC;obtain⟨a3,bf,aA,aB⟩:=qA aL.out (ai) aP aQ;have aC:=aB;have aD:=aA;obtain rfl:aj=a3:=(by injection bf);replace aA:=nG HB aA;replace aB:=nG HB aB;replace aP:=eq_true aP;replace aQ:=eq_true aQ;refine qc 34 (S:=fun w'=>w'.cell? ⟨ae,0,none⟩=some (.int .i64 ((nk aa ab).f0))/\w'.cell? ⟨ae,1,none⟩=some (.int .i64 ((nk aa ab).f1))/\w'.cell? ⟨ah,0,none⟩=some (.int .i64 ag)/\w'.cell? ⟨ah,1,none⟩=some (.slice (some aj) aa.length az)/\w'.cell? (aj.add (((ai)).toNat*2))=some (.int .i64 ((nk aa (ai)).f0))/\w'.cell? ⟨(aj.add (((ai)).toNat*2)).block,(aj.add (((ai)).toNat*2)).off+1,none⟩=some (.int .i64 ((nk aa (ai)).f1))) [] ⟨nz af 0,nz af 1,nz ac 0,nz ac 1,(nG HB aD),(nG HB aC)⟩ qa.uU qa.uP (fun hHeld HT_ HW_=>?_);generalize dh.drew=dQ at ac af HB aA aB hHeld⊢;refine lq 0 27 1 ?_;refine lq 2 29 5 ?_;refine nT 1 28 7 ?_;refine nT 3 30 15 ?_;refine lq 4 31 31 ?_;refine oN 5 32 63 (fun K hK=>?_);refine qd Try.func75 (uK.calls aX.out) ?_;rintro e w' ⟨rfl,⟨nd,rfl⟩⟩;refine⟨_,rfl,?_⟩;refine hK.out _ _ ⟨nz af 0,nz af 1,nz ac 0,nz ac 1,(nG HB aD),(nG HB aC)⟩ (fun hHeld=>?_);clear hK K;refine nX 32 ?_;refine lq 6 33 127 ?_;refine lq 7 34 255 ?_;refine lq 8 35 511 ?_;refine lq 10 37 1535 ?_;refine lq 13 40 9727 ?_;refine nT 9 36 10239 ?_;refine nT 11 38 12287 ?_;refine lq 12 39 16383 ?_;refine nT 14 41 32767 ?_;refine lq 15 42 65535 ?_;refine oN 16 43 131071 (fun K hK=>?_);refine qd Try.func75 (uK.calls a6.out) ?_;rintro e w' ⟨rfl,⟨nd,rfl⟩⟩;refine⟨_,rfl,?_⟩;refine hK.out _ _ ⟨nz af 0,nz af 1,nz ac 0,nz ac 1,(nG HB aD),(nG HB aC)⟩ (fun hHeld=>?_);clear hK K;refine nX 43 ?_;refine lq 17 44 262143 ?_;refine lq 18 45 524287 ?_;refine lq 19 46 1048575 ?_;refine lq 20 47 2097151 ?_;refine lq 21 48 4194303 ?_;refine lq 22 49 8388607 ?_;refine lq 23 50 16777215 ?_;refine lq 25 52 50331647 ?_;refine lq 26 53 117440511 ?_;refine nT 24 51 134217727 ?_;refine lq 27 54 268435455 ?_;refine nT 28 55 536870911 ?_;refine nT 29 56 1073741823 ?_;refine oN 30 57 2147483647 (fun K hK=>?_);refine uw Try.func76 (oz) rfl #[.agg #[.int .i64 ((nk aa (ai)).f0),.int .i64 ((nk aa (ai)).f1)],.agg #[.int .i64 ((nk aa ab).f0),.int .i64 ((nk aa ab).f1)]] (by rfl) rfl rfl (G5) ?_;refine(xu.calls bI.out).mono ?_;rintro e dR ⟨rfl,hb⟩;refine⟨_,rfl,?_⟩;replace ac:=nA ac hb;replace af:=nA af hb;replace HB:=nI HB hb;(try clear hb);refine hK.out _ _ ⟨nz af 0,nz af 1,nz ac 0,nz ac 1,(nG HB aD),(nG HB aC)⟩ (fun hHeld=>?_);clear hK K;refine nX 57 ?_;refine lq 31 58 4294967295 ?_;refine lq 32 59 8589934591 ?_;refine lq 33 60 17179869183 ?_;refine pY (p8 HT_.out (oz)) ?_;try go_wp2
         go_ret
         exact⟨by first|rfl|(simp[rz,rA]<;>rfl)|(simp only [←aK];first|rfl|(simp[rz,rA]<;>rfl))|(simp[*,rz,rA]<;>rfl),ny HB.out⟩
        have H':=dm H;clear H;have⟨cn,co,cp,cq⟩:=nJ (w:=wr) ac;have av:0<=(ab:Int):=nC;have aw:ab<(aa.length:Int):=nC;obtain⟨aj,aM,al,am⟩:=qA aL.out ab av aw;cases aM;replace al:=nG HB al;replace am:=nG HB am;replace av:=eq_true av;replace aw:=eq_true aw;try go_wp2_with (first|((with_reducible refine nU 4 rfl ?_);(try(refine rT (by rfl) ?_;dsimp only));refine vI 4 #[.int .i64 0,.int .i64 0] 59 ?_;intro ae hg a9 nu hb;have af:=dm (nu);have aU:=dm (nO:w.heap.size<=ae);have aV:=dm (nO:w.heap.size<=ae);replace HB:=nI HB hb;have ak:=dm (AX:ah≠ae);have ap:=dm (AY:ae≠ah);replace ac:=nA ac hb;clear hb nu hg;have dD:=ap.out;have dE:=ak.out;have⟨cr,ct,cu,cv⟩:=nJ (w:=a9) af))
        have n0:lm (((a9.setCell ⟨ae,0,none⟩ (.int .i64 ((nk aa ab).f0))).setCell ⟨ae,1,none⟩ (.int .i64 ((nk aa ab).f1))).heap[ah]? =some (.cells #[.int .i64 ag,.slice (some aj) aa.length az] 31 (0,0))):=⟨sj⟩;have n1:lm (((a9.setCell ⟨ae,0,none⟩ (.int .i64 ((nk aa ab).f0))).setCell ⟨ae,1,none⟩ (.int .i64 ((nk aa ab).f1))).heap[ae]? =some (.cells #[.int .i64 ((nk aa ab).f0),.int .i64 ((nk aa ab).f1)] 59 (0,0))):=⟨vX⟩;have n2:lm (Below w.heap.size w ((a9.setCell ⟨ae,0,none⟩ (.int .i64 ((nk aa ab).f0))).setCell ⟨ae,1,none⟩ (.int .i64 ((nk aa ab).f1)))):=⟨ny HB.out⟩;(try clear ac af HB);generalize((a9.setCell ⟨ae,0,none⟩ (.int .i64 ((nk aa ab).f0))).setCell ⟨ae,1,none⟩ (.int .i64 ((nk aa ab).f1)))=di at n0 n1 n2⊢;revert n0 n1 n2;intro ac af HB;replace ac:=dm (oq ac.out);replace af:=dm (oq af.out);replace HB:=dm (pI HB.out);refine qc 34 (S:=fun w'=>w'.cell? ⟨ae,0,none⟩=some (.int .i64 ((nk aa ab).f0))/\w'.cell? ⟨ae,1,none⟩=some (.int .i64 ((nk aa ab).f1))/\w'.cell? ⟨ah,0,none⟩=some (.int .i64 ag)/\w'.cell? ⟨ah,1,none⟩=some (.slice (some aj) aa.length az)) [] ⟨nz af 0,nz af 1,nz ac 0,nz ac 1⟩ qa.uU qa.uP (fun hHeld HT_ HW_=>?_);generalize di.drew=dS at ac af HB hHeld⊢;refine lq 0 27 1 ?_;refine lq 2 29 5 ?_;refine nT 1 28 7 ?_;refine nT 3 30 15 ?_;refine lq 4 31 31 ?_;refine oN 5 32 63 (fun K hK=>?_);refine qd Try.func75 (uK.calls aX.out) ?_;rintro e w' ⟨rfl,⟨nd,rfl⟩⟩;refine⟨_,rfl,?_⟩;refine hK.out _ _ ⟨nz af 0,nz af 1,nz ac 0,nz ac 1⟩ (fun hHeld=>?_);clear hK K;refine nX 32 ?_;refine lq 6 33 127 ?_;refine lq 7 34 255 ?_;refine lq 8 35 511 ?_;refine lq 10 37 1535 ?_;refine lq 13 40 9727 ?_;refine nT 9 36 10239 ?_;refine nT 11 38 12287 ?_;refine lq 12 39 16383 ?_;refine nT 14 41 32767 ?_;refine lq 15 42 65535 ?_;refine oN 16 43 131071 (fun K hK=>?_);refine qd Try.func75 (uK.calls a6.out) ?_;rintro e w' ⟨rfl,⟨nd,rfl⟩⟩;refine⟨_,rfl,?_⟩;refine hK.out _ _ ⟨nz af 0,nz af 1,nz ac 0,nz ac 1⟩ (fun hHeld=>?_);clear hK K;refine nX 43 ?_;refine lq 17 44 262143 ?_;refine lq 18 45 524287 ?_;refine lq 19 46 1048575 ?_;refine lq 20 47 2097151 ?_;refine lq 21 48 4194303 ?_;refine lq 22 49 8388607 ?_;refine oM 23 50 16777215 ?_;refine oM 24 51 33554431 ?_;refine oM 25 52 67108863 ?_;refine oM 26 53 134217727 ?_;refine oM 27 54 268435455 ?_;refine oM 28 55 536870911 ?_;refine oM 29 56 1073741823 ?_;refine oM 30 57 2147483647 ?_;refine oM 31 58 4294967295 ?_;refine lq 32 59 8589934591 ?_;refine lq 33 60 17179869183 ?_;refine pY (p8 HT_.out (oz)) ?_;try go_wp2
        go_roundg k2
        case measure=>have:=bo.out;have:=bp.out;omega
        case rel=>exact⟨(wrap64 (ab+1)),(nQ),H',⟨by have:=bo.out;have:=bp.out;omega⟩,⟨nE ac.out⟩,⟨ny HB.out⟩⟩
       obtain rfl:=Option.some.inj H;have⟨cw,cx,cy,cz⟩:=nJ (w:=wr) ac;have av:0<=(ab:Int):=nC;have aw:ab<(aa.length:Int):=nC;obtain⟨aj,aM,al,am⟩:=qA aL.out ab av aw;cases aM;replace al:=nG HB al;replace am:=nG HB am;replace av:=eq_true av;replace aw:=eq_true aw;try go_wp2_with (first|((with_reducible refine nU 4 rfl ?_);(try(refine rT (by rfl) ?_;dsimp only));refine vI 4 #[.int .i64 0,.int .i64 0] 59 ?_;intro ae hg a_ nu hb;have af:=dm (nu);have aU:=dm (nO:w.heap.size<=ae);have aV:=dm (nO:w.heap.size<=ae);replace HB:=nI HB hb;have ak:=dm (AX:ah≠ae);have ap:=dm (AY:ae≠ah);replace ac:=nA ac hb;clear hb nu hg;have dF:=ap.out;have dG:=ak.out;have⟨cA,cD,cE,cF⟩:=nJ (w:=a_) af))
       have n0:lm (((a_.setCell ⟨ae,0,none⟩ (.int .i64 ((nk aa ab).f0))).setCell ⟨ae,1,none⟩ (.int .i64 ((nk aa ab).f1))).heap[ah]? =some (.cells #[.int .i64 ag,.slice (some aj) aa.length az] 31 (0,0))):=⟨sj⟩;have n1:lm (((a_.setCell ⟨ae,0,none⟩ (.int .i64 ((nk aa ab).f0))).setCell ⟨ae,1,none⟩ (.int .i64 ((nk aa ab).f1))).heap[ae]? =some (.cells #[.int .i64 ((nk aa ab).f0),.int .i64 ((nk aa ab).f1)] 59 (0,0))):=⟨vX⟩;have n2:lm (Below w.heap.size w ((a_.setCell ⟨ae,0,none⟩ (.int .i64 ((nk aa ab).f0))).setCell ⟨ae,1,none⟩ (.int .i64 ((nk aa ab).f1)))):=⟨ny HB.out⟩;(try clear ac af HB);generalize((a_.setCell ⟨ae,0,none⟩ (.int .i64 ((nk aa ab).f0))).setCell ⟨ae,1,none⟩ (.int .i64 ((nk aa ab).f1)))=dj at n0 n1 n2⊢;revert n0 n1 n2;intro ac af HB;replace ac:=dm (oq ac.out);replace af:=dm (oq af.out);replace HB:=dm (pI HB.out);refine qc 34 (S:=fun w'=>w'.cell? ⟨ae,0,none⟩=some (.int .i64 ((nk aa ab).f0))/\w'.cell? ⟨ae,1,none⟩=some (.int .i64 ((nk aa ab).f1))/\w'.cell? ⟨ah,0,none⟩=some (.int .i64 ag)/\w'.cell? ⟨ah,1,none⟩=some (.slice (some aj) aa.length az)) [] ⟨nz af 0,nz af 1,nz ac 0,nz ac 1⟩ qa.uU qa.uP (fun hHeld HT_ HW_=>?_);generalize dj.drew=dT at ac af HB hHeld⊢;refine lq 0 27 1 ?_;refine lq 2 29 5 ?_;refine nT 1 28 7 ?_;refine nT 3 30 15 ?_;refine lq 4 31 31 ?_;refine oN 5 32 63 (fun K hK=>?_);refine qd Try.func75 (uK.calls aX.out) ?_;rintro e w' ⟨rfl,⟨nd,rfl⟩⟩;refine⟨_,rfl,?_⟩;refine hK.out _ _ ⟨nz af 0,nz af 1,nz ac 0,nz ac 1⟩ (fun hHeld=>?_);clear hK K;refine nX 32 ?_;refine lq 6 33 127 ?_;refine lq 7 34 255 ?_;refine lq 8 35 511 ?_;refine lq 10 37 1535 ?_;refine lq 13 40 9727 ?_;refine nT 9 36 10239 ?_;refine nT 11 38 12287 ?_;refine lq 12 39 16383 ?_;refine nT 14 41 32767 ?_;refine lq 15 42 65535 ?_;refine oN 16 43 131071 (fun K hK=>?_);refine qd Try.func75 (uK.calls a6.out) ?_;rintro e w' ⟨rfl,⟨nd,rfl⟩⟩;refine⟨_,rfl,?_⟩;refine hK.out _ _ ⟨nz af 0,nz af 1,nz ac 0,nz ac 1⟩ (fun hHeld=>?_);clear hK K;refine nX 43 ?_;refine lq 17 44 262143 ?_;refine lq 18 45 524287 ?_;refine lq 19 46 1048575 ?_;refine oM 20 47 2097151 ?_;refine oM 21 48 4194303 ?_;refine oM 22 49 8388607 ?_;refine oM 23 50 16777215 ?_;refine oM 24 51 33554431 ?_;refine oM 25 52 67108863 ?_;refine oM 26 53 134217727 ?_;refine oM 27 54 268435455 ?_;refine oM 28 55 536870911 ?_;refine oM 29 56 1073741823 ?_;refine oM 30 57 2147483647 ?_;refine oM 31 58 4294967295 ?_;refine oM 32 59 8589934591 ?_;refine lq 33 60 17179869183 ?_;refine pY (p8 HT_.out (oz)) ?_;try go_wp2
       go_ret
       exact⟨qM,ny HB.out⟩
      obtain rfl:=Option.some.inj H;have⟨cG,cH,cI,cJ⟩:=nJ (w:=wr) ac;have av:0<=(ab:Int):=nC;have aw:ab<(aa.length:Int):=nC;obtain⟨aj,aM,al,am⟩:=qA aL.out ab av aw;cases aM;replace al:=nG HB al;replace am:=nG HB am;replace av:=eq_true av;replace aw:=eq_true aw;try go_wp2_with (first|((with_reducible refine nU 4 rfl ?_);(try(refine rT (by rfl) ?_;dsimp only));refine vI 4 #[.int .i64 0,.int .i64 0] 59 ?_;intro ae hg ba nu hb;have af:=dm (nu);have aU:=dm (nO:w.heap.size<=ae);have aV:=dm (nO:w.heap.size<=ae);replace HB:=nI HB hb;have ak:=dm (AX:ah≠ae);have ap:=dm (AY:ae≠ah);replace ac:=nA ac hb;clear hb nu hg;have dH:=ap.out;have dI:=ak.out;have⟨cL,cM,cN,cO⟩:=nJ (w:=ba) af))
      have n0:lm (((ba.setCell ⟨ae,0,none⟩ (.int .i64 ((nk aa ab).f0))).setCell ⟨ae,1,none⟩ (.int .i64 ((nk aa ab).f1))).heap[ah]? =some (.cells #[.int .i64 ag,.slice (some aj) aa.length az] 31 (0,0))):=⟨sj⟩;have n1:lm (((ba.setCell ⟨ae,0,none⟩ (.int .i64 ((nk aa ab).f0))).setCell ⟨ae,1,none⟩ (.int .i64 ((nk aa ab).f1))).heap[ae]? =some (.cells #[.int .i64 ((nk aa ab).f0),.int .i64 ((nk aa ab).f1)] 59 (0,0))):=⟨vX⟩;have n2:lm (Below w.heap.size w ((ba.setCell ⟨ae,0,none⟩ (.int .i64 ((nk aa ab).f0))).setCell ⟨ae,1,none⟩ (.int .i64 ((nk aa ab).f1)))):=⟨ny HB.out⟩;(try clear ac af HB);generalize((ba.setCell ⟨ae,0,none⟩ (.int .i64 ((nk aa ab).f0))).setCell ⟨ae,1,none⟩ (.int .i64 ((nk aa ab).f1)))=dk at n0 n1 n2⊢;revert n0 n1 n2;intro ac af HB;replace ac:=dm (oq ac.out);replace af:=dm (oq af.out);replace HB:=dm (pI HB.out);refine qc 34 (S:=fun w'=>w'.cell? ⟨ae,0,none⟩=some (.int .i64 ((nk aa ab).f0))/\w'.cell? ⟨ae,1,none⟩=some (.int .i64 ((nk aa ab).f1))/\w'.cell? ⟨ah,0,none⟩=some (.int .i64 ag)/\w'.cell? ⟨ah,1,none⟩=some (.slice (some aj) aa.length az)) [] ⟨nz af 0,nz af 1,nz ac 0,nz ac 1⟩ qa.uU qa.uP (fun hHeld HT_ HW_=>?_);generalize dk.drew=dU at ac af HB hHeld⊢;refine lq 0 27 1 ?_;refine lq 2 29 5 ?_;refine nT 1 28 7 ?_;refine nT 3 30 15 ?_;refine lq 4 31 31 ?_;refine oN 5 32 63 (fun K hK=>?_);refine qd Try.func75 (uK.calls aX.out) ?_;rintro e w' ⟨rfl,⟨nd,rfl⟩⟩;refine⟨_,rfl,?_⟩;refine hK.out _ _ ⟨nz af 0,nz af 1,nz ac 0,nz ac 1⟩ (fun hHeld=>?_);clear hK K;refine nX 32 ?_;refine lq 6 33 127 ?_;refine lq 7 34 255 ?_;refine oM 8 35 511 ?_;refine oM 9 36 1023 ?_;refine oM 10 37 2047 ?_;refine oM 11 38 4095 ?_;refine oM 12 39 8191 ?_;refine oM 13 40 16383 ?_;refine oM 14 41 32767 ?_;refine oM 15 42 65535 ?_;refine oM 16 43 131071 ?_;refine oM 17 44 262143 ?_;refine lq 18 45 524287 ?_;refine lq 19 46 1048575 ?_;refine oM 20 47 2097151 ?_;refine oM 21 48 4194303 ?_;refine oM 22 49 8388607 ?_;refine oM 23 50 16777215 ?_;refine oM 24 51 33554431 ?_;refine oM 25 52 67108863 ?_;refine oM 26 53 134217727 ?_;refine oM 27 54 268435455 ?_;refine oM 28 55 536870911 ?_;refine oM 29 56 1073741823 ?_;refine oM 30 57 2147483647 ?_;refine oM 31 58 4294967295 ?_;refine oM 32 59 8589934591 ?_;refine lq 33 60 17179869183 ?_;refine pY (p8 HT_.out (oz)) ?_;try go_wp2
      go_ret
      exact⟨qM,ny HB.out⟩
     obtain rfl:=Option.some.inj H;have⟨cP,cQ,cS,cT⟩:=nJ (w:=wr) ac
     go_wp2
     go_ret
     exact⟨qM,ny HB.out⟩
theorem CX (d:Nat) (w:World) (x0 y0:Int) (x1 y1:Int):
  (Op.equalIn (d+2) 59 (.agg #[.int .i64 x0,.int .i64 x1]) (.agg #[.int .i64 y0,.int .i64 y1])).run Try.prog w=.ok (x0==y0&&(x1==y1)) w:=by
 refine IP Try.underlying59 (by kernel_rfl) ?_;refine IQ (by rfl) (by go_simp;rfl) (by go_simp;rfl) (by go_simp) ?_;exact IR (by rfl) (by go_simp;rfl) (by go_simp;rfl) (by go_simp)
attribute [local go_sem high] CX
def tX.f (a0:Int) (a1:Int):Option (Int×Int):=if a0<a1 then(some (a0,a1)) else(some (a1,a0))
theorem tX.calls {a0:Int}{a1:Int}{r1:Int}{r2:Int}{w:World}(h:tX.f a0 a1=some (r1,r2)):
  Calls Try.prog 46 #[.int .i64 a0,.int .i64 a1] w fun e w'=>e=.returned (.agg #[.int .i64 r1,.int .i64 r2])/\Below w.heap.size w w':=by
 have bD:=Try.underlying59;have HB:=dm (Below.refl w.heap.size w);unfold tX.f at h;have H:=h;clear h
 replace H:=pU H;rcases H with⟨aR,H⟩|⟨aR,H⟩
 ·simp only [Option.some.injEq,Prod.mk.injEq]at H;obtain⟨rfl,rfl⟩:=H
  go_enter Try.func46,Try.ntmps46
  go_wp2_with (first|((with_reducible refine nU 4 rfl ?_);refine oI #[.int .i64 0,.int .i64 0] 59 ?_;intro aA hg w4 nu hb;have aL:=dm (nu);have bo:=dm (nO:w.heap.size<=aA);have bp:=dm (nO:w.heap.size<=aA);replace HB:=nI HB hb;clear hb nu hg;have⟨ca,cd,ce,cf⟩:=nJ (w:=w4) aL))
  refine bodyPost_ret (results_cell_row rfl _ _ aA 59 #[.int .i64 a0,.int .i64 a1] (0,0) _ rfl (pg aL.out) Try.underlying59 rfl (by kernel_rfl)) rfl ?_;exact⟨qM,ny HB.out⟩
 simp only [Option.some.injEq,Prod.mk.injEq]at H;obtain⟨rfl,rfl⟩:=H
 go_enter Try.func46,Try.ntmps46
 go_wp2_with (first|((with_reducible refine nU 4 rfl ?_);refine oI #[.int .i64 0,.int .i64 0] 59 ?_;intro aA hg w6 nu hb;have aL:=dm (nu);have bo:=dm (nO:w.heap.size<=aA);have bp:=dm (nO:w.heap.size<=aA);replace HB:=nI HB hb;clear hb nu hg;have⟨ba,bd,bf,bh⟩:=nJ (w:=w6) aL))
 refine bodyPost_ret (results_cell_row rfl _ _ aA 59 #[.int .i64 a1,.int .i64 a0] (0,0) _ rfl (pg aL.out) Try.underlying59 rfl (by kernel_rfl)) rfl ?_;exact⟨qM,ny HB.out⟩
def qE.l0:Nat->List Int->Int->Int->Option (Bool)
 |0,_,_,_=>none
 |k+1,x0,x1,x5=>if x5<(x0.length:Int) then(if 0<=x5 then(if(rd x0 x5)=x1 then(some true) else(qE.l0 k x0 x1 (wrap64 (x5+1)))) else(none)) else(some false)
def qE.f (k:Nat) (l0:List Int) (a1:Int):Option (Bool):=qE.l0 k l0 a1 0
theorem qE.calls {k:Nat}{A0:Option Addr}{c0:Nat}{l0:List Int}{a1:Int}{r:Bool}{w:World}(aU:Kd.C (Kd.int .i64) w A0 l0.length l0)(aV:l0.length<=c0)(h:qE.f k l0 a1=some r):
  Calls Try.prog 47 #[.slice A0 l0.length c0,.int .i64 a1] w fun e w'=>e=.returned (.bool r)/\oK w w':=by
 have aW:=dm aU;have cg:=dm aV;clear aU aV;unfold qE.f at h;have H:=h;clear h;have H':=dm H;clear H
 go_enter Try.func47,Try.ntmps47
 go_wp2
 go_loopg [5] k (fun kq v5 w'=>∃ (af:Int),v5=.int .i64 af/\lm (qE.l0 kq l0 a1 af=some r)/\lm (kq<=k)/\oK w w')
 case atStart=>exact⟨(0),(nQ),H',⟨Nat.le_refl _⟩,by repeat(first|exact oK.refl _|apply oK.step)⟩
 case round=>
  clear H';try clear p2
  obtain⟨af,rfl,HA,aX,⟨m1,rfl⟩⟩:=hrel;cases gk with
  |zero=>exact absurd HA.out (by simp[qE.l0])
  |succ k1=>
   have H:=HA.out;clear HA;simp only [qE.l0]at H
   replace H:=pU H;rcases H with⟨aR,H⟩|⟨aR,H⟩
   ·skip
    obtain⟨cr,H⟩:=oC H
    by_cases c5:(rd l0 af)=a1
    ·rw[if_pos c5]at H;have aS:=beq_iff_eq.mpr c5;have bE:=bne_eq_false_iff_eq.mpr c5;clear c5;obtain rfl:=Option.some.inj H;have aG:0<=(af:Int):=nC;have aH:af<(l0.length:Int):=nC;obtain⟨bq,aY,a9⟩:=oL aW.out af aG aH;cases aY;replace aG:=eq_true aG;replace aH:=eq_true aH
     go_wp2
     go_ret
     exact⟨nQ,by repeat(first|exact oK.refl _|apply oK.step)⟩
    rw[if_neg c5]at H;have aS:=beq_eq_false_iff_ne.mpr c5;have bE:=bne_iff_ne.mpr c5;have H':=dm H;clear H;have aG:0<=(af:Int):=nC;have aH:af<(l0.length:Int):=nC;obtain⟨bq,aY,a9⟩:=oL aW.out af aG aH;cases aY;replace aG:=eq_true aG;replace aH:=eq_true aH
    go_wp2
    go_roundg k1
    case measure=>have:=aX.out;omega
    case rel=>exact⟨(wrap64 (af+1)),(nQ),H',⟨by have:=aX.out;omega⟩,by repeat(first|exact oK.refl _|apply oK.step)⟩
   obtain rfl:=Option.some.inj H
   go_wp2
   go_ret
   exact⟨nQ,by repeat(first|exact oK.refl _|apply oK.step)⟩
def uJ.f (l0:List Int):Option (Bool):=if(l0.length:Int)>0 then(if 0<(l0.length:Int) then(if 0<=(wrap64 ((l0.length:Int) - 1)) then(if(wrap64 ((l0.length:Int) - 1))<(l0.length:Int) then(some ((rd l0 0) !=(rd l0 (wrap64 ((l0.length:Int) - 1))))) else(none)) else(none)) else(none)) else(some false)
theorem uJ.calls {A0:Option Addr}{c0:Nat}{l0:List Int}{r:Bool}{w:World}(aU:Kd.C (Kd.int .i64) w A0 l0.length l0)(aV:l0.length<=c0)(h:uJ.f l0=some r):
  Calls Try.prog 83 #[.slice A0 l0.length c0] w fun e w'=>e=.returned (.bool r)/\oK w w':=by
 have aW:=dm aU;have cg:=dm aV;clear aU aV;unfold uJ.f at h;have H:=h;clear h
 by_cases c2:(l0.length:Int)>0
 ·rw[if_pos c2]at H;have bF:=decide_eq_true c2;have bG:decide (0<l0.length)=true:=decide_eq_true (by omega);clear c2
  obtain⟨c3,H⟩:=qh H;have aR:=decide_eq_true c3;have ct:decide (0<l0.length)=true:=decide_eq_true (by omega);clear c3;obtain⟨aE,aT⟩:∃j_:Int,(wrap64 ((l0.length:Int) - 1))=j_:=⟨_,rfl⟩;replace H:(if 0<=(aE) then(if(aE)<(l0.length:Int) then(some ((rd l0 0) !=(rd l0 (aE)))) else(none)) else(none))=some r:=by first|(rw[aT]at H;exact H)|(simp only [aT]at H⊢;exact H)
  have cn:(IntKind.i64.wrap ((l0.length:Int) - 1))=aE:=(qP _).trans aT
  obtain⟨aS,H⟩:=oC H
  obtain⟨bH,H⟩:=oC H;obtain rfl:=Option.some.inj H;have aZ:0<=(0:Int):=(by omega);have a4:0<(l0.length:Int):=nC;obtain⟨br,bI,aQ⟩:=oL aW.out 0 aZ a4;cases bI;have co:(0<l0.length)=True:=eq_true (by omega);(try rw[show((0:Int)).toNat=0 from rfl]at aQ);(try rw[Addr.add_zero']at aQ);replace aZ:=eq_true aZ;replace a4:=eq_true a4;have a5:0<=((aE):Int):=nC;have a6:(aE)<(l0.length:Int):=nC;obtain⟨bu,bJ,bN⟩:=oL aW.out (aE) a5 a6;obtain rfl:br=bu:=(by injection bJ);replace a5:=eq_true a5;replace a6:=eq_true a6
  go_enter Try.func83,Try.ntmps83
  go_wp2
  repeat(go_quiet (fail);try go_wp2)
  go_ret
  exact⟨by first|rfl|(simp;done)|(simp only [←aT]<;> (first|rfl|simp))|(simp[*];done),by repeat(first|exact oK.refl _|apply oK.step)⟩
 rw[if_neg c2]at H;have bF:=decide_eq_false c2;have bG:decide (0<l0.length)=false:=decide_eq_false (by omega);clear c2;obtain rfl:=Option.some.inj H
 go_enter Try.func83,Try.ntmps83
 go_wp2
 repeat(go_quiet (fail);try go_wp2)
 go_ret
 exact⟨nQ,by repeat(first|exact oK.refl _|apply oK.step)⟩
def rD.f (k:Nat) (ab:Int) (aa:List (S59)) (a1:Int):Option (Bool):=(qa.f k ab aa).bind fun aO=>(if aO=true then((uK.f a1 0 (wrap64 (ab - 1))).bind fun aw=>(some aw)) else(some false))
theorem rD.calls {k:Nat}{ab:Int}{ah:Option Addr}{ag:Nat}{aa:List (S59)}{a1:Int}{r:Bool}{w:World}(au:Kd.C k59 w ah aa.length aa)(av:aa.length<=ag)(h:rD.f k ab aa a1=some r):
  Calls Try.prog 85 #[.agg #[.int .i64 ab,.slice ah aa.length ag],.int .i64 a1] w fun e w'=>e=.returned (.bool r)/\Below w.heap.size w w':=by
 have bj:=Try.underlying31;have am:=dm au;have aB:=dm av;clear au av;have HB:=dm (Below.refl w.heap.size w);unfold rD.f at h;have H:=h;clear h;obtain⟨aO,A3,H⟩:=ow H;(try dsimp only at H)
 rcases pW H with⟨h_,H_⟩|⟨h_,H_⟩<;> (subst h_;clear H;have H:=H_;clear H_)
 ·obtain⟨aw,A5,H⟩:=ow H;(try dsimp only at H);obtain rfl:=Option.some.inj H
  go_enter Try.func85,Try.ntmps85
  go_wp2_with (first|((with_reducible refine nU 2 rfl ?_);refine oI #[.int .i64 ab,.slice ah aa.length ag] 31 ?_;intro aM hg w6 nu hb;have al:=dm (nu);have bv:=dm (nO:w.heap.size<=aM);have bx:=dm (nO:w.heap.size<=aM);replace HB:=nI HB hb;clear hb nu hg;have⟨ba,bd,bf,bh⟩:=nJ (w:=w6) al)|((with_reducible refine og 32 rfl ?_);refine rH 6 rfl Try.func32 (qa.calls (nS (oG am.out HB.out)) aB.out A3.out) ?_;intro w8 hb;replace al:=nA al hb;replace HB:=nI HB hb;(try clear hb);have⟨bk,bl,bm,bn⟩:=nJ (w:=w8) al)|(go_at_call 75;refine(uK.calls A5.out).mono ?_;rintro e w' ⟨rfl,⟨nd,rfl⟩⟩))
  go_ret
  exact⟨qM,ny HB.out⟩
 obtain rfl:=Option.some.inj H
 go_enter Try.func85,Try.ntmps85
 go_wp2_with (first|((with_reducible refine nU 2 rfl ?_);refine oI #[.int .i64 ab,.slice ah aa.length ag] 31 ?_;intro aM hg bB nu hb;have al:=dm (nu);have bv:=dm (nO:w.heap.size<=aM);have bx:=dm (nO:w.heap.size<=aM);replace HB:=nI HB hb;clear hb nu hg;have⟨bO,bP,bQ,bR⟩:=nJ (w:=bB) al)|((with_reducible refine og 32 rfl ?_);refine rH 6 rfl Try.func32 (qa.calls (nS (oG am.out HB.out)) aB.out A3.out) ?_;intro bC hb;replace al:=nA al hb;replace HB:=nI HB hb;(try clear hb)))
 go_ret
 exact⟨qM,ny HB.out⟩
def sS.l0:Nat->Int->Int->Int->Int->List (S59)->Option (Bool)
 |0,_,_,_,_,_=>none
 |k+1,x1,x2,x7,a_,aF=>if x7<(aF.length:Int) then(if 0<=x7 then((tX.f x1 x2).bind fun a8=>(if(((nk aF x7).f0)==a8.1&&(((nk aF x7).f1)==a8.2))=true then(some true) else(sS.l0 k x1 x2 (wrap64 (x7+1)) a_ aF))) else(none)) else(some false)
def sS.f (k:Nat) (ab:Int) (aa:List (S59)) (a1:Int) (a2:Int):Option (Bool):=sS.l0 k a1 a2 0 ab aa
def sS.T4:Bool×List (List Nat×List Nat):=(true,[([],[]),([0],[0]),([],[]),([1,2],[1,2]),([3],[3]),([],[]),([],[]),([5,6],[5,6]),([4,7],[4,7])])
def sS.B4:List Nat:=[0,1,0,7,15,0,0,96,255]
theorem sS.xV:qj .any (opsOf Try.f113 4)=sS.T4:=by kernel_rfl
theorem sS.xO:qV sS.T4.2 sS.B4=true:=by kernel_rfl
theorem sS.calls {k:Nat}{ab:Int}{ah:Option Addr}{ag:Nat}{aa:List (S59)}{a1:Int}{a2:Int}{r:Bool}{w:World}(au:Kd.C k59 w ah aa.length aa)(av:aa.length<=ag)(h:sS.f k ab aa a1 a2=some r):
  Calls Try.prog 113 #[.agg #[.int .i64 ab,.slice ah aa.length ag],.int .i64 a1,.int .i64 a2] w fun e w'=>e=.returned (.bool r)/\Below w.heap.size w w':=by
 have bj:=Try.underlying31;have bD:=Try.underlying59;have am:=dm au;have aB:=dm av;clear au av;have HB:=dm (Below.refl w.heap.size w);unfold sS.f at h;have H:=h;clear h;have H':=dm H;clear H
 go_enter Try.func113,Try.ntmps113
 go_wp2_with (first|((with_reducible refine nU 3 rfl ?_);refine oI #[.int .i64 ab,.slice ah aa.length ag] 31 ?_;intro aC hg w4 nu hb;have ae:=dm (nu);have cp:=dm (nO:w.heap.size<=aC);have cq:=dm (nO:w.heap.size<=aC);replace HB:=nI HB hb;clear hb nu hg))
 go_loopg [7] k (fun kq v7 w'=>∃ (ac:Int),v7=.int .i64 ac/\lm (sS.l0 kq a1 a2 ac ab aa=some r)/\lm (kq<=k)/\lm (w'.heap[aC]? =some (.cells #[.int .i64 ab,(.slice ah aa.length ag)] 31 (0,0)))/\lm (Below w.heap.size w w'))
 case atStart=>exact⟨(0),(nQ),H',⟨Nat.le_refl _⟩,⟨nE ae.out⟩,⟨ny HB.out⟩⟩
 case round=>
  clear H';obtain⟨ac,rfl,HA,aX,ae,HB⟩:=hrel;cases gk with
  |zero=>exact absurd HA.out (by simp[sS.l0])
  |succ k1=>
   have H:=HA.out;clear HA;simp only [sS.l0]at H
   replace H:=pU H;rcases H with⟨aS,H⟩|⟨aS,H⟩
   ·skip
    obtain⟨bH,H⟩:=oC H;obtain⟨⟨ap,aq⟩,A7,H⟩:=ow H;(try dsimp only at H)
    by_cases c8:(((nk aa ac).f0)==ap&&(((nk aa ac).f1)==aq))=true
    ·rw[if_pos c8]at H;have bK:(((nk aa ac).f0)==ap&&(((nk aa ac).f1)==aq))=true:=c8;(try(have bL:decide (((nk aa ac).f0)=ap&&(((nk aa ac).f1)==aq))=true:=by simpa using c8));(try(have bM:(((nk aa ac).f0)==ap&&(((nk aa ac).f1)==aq))=true:=by simpa using c8));clear c8;obtain rfl:=Option.some.inj H;have⟨bk,bl,bm,bn⟩:=nJ (w:=wr) ae;try go_wp2
     replace ae:=dm (oq ae.out);replace HB:=dm (pI HB.out);have aI:0<=(ac:Int):=nC;have aK:ac<(aa.length:Int):=nC;obtain⟨ao,a7,ai,aj⟩:=qA am.out ac aI aK;have ay:=aj;have az:=ai;cases a7;replace ai:=nG HB ai;replace aj:=nG HB aj;replace aI:=eq_true aI;replace aK:=eq_true aK;refine qc 9 (S:=fun w'=>w'.cell? ⟨aC,0,none⟩=some (.int .i64 ab)/\w'.cell? ⟨aC,1,none⟩=some (.slice (some ao) aa.length ag)/\w'.cell? (ao.add ((ac).toNat*2))=some (.int .i64 ((nk aa ac).f0))/\w'.cell? ⟨(ao.add ((ac).toNat*2)).block,(ao.add ((ac).toNat*2)).off+1,none⟩=some (.int .i64 ((nk aa ac).f1))) [] ⟨nz ae 0,nz ae 1,(nG HB az),(nG HB ay)⟩ sS.xV sS.xO (fun hHeld HT_ HW_=>?_);generalize wr.drew=bB at ae HB ai aj hHeld⊢;refine lq 0 15 1 ?_;refine lq 2 17 5 ?_;refine lq 5 20 37 ?_;refine lq 6 21 101 ?_;refine nT 1 16 103 ?_;refine lq 3 18 111 ?_;refine nT 4 19 127 ?_;refine oN 7 22 255 (fun K hK=>?_);refine tT Try.func46 (tX.calls A7.out) ?_;intro ch hb;replace ae:=nA ae hb;replace HB:=nI HB hb;(try clear hb);refine hK.out _ _ ⟨nz ae 0,nz ae 1,(nG HB az),(nG HB ay)⟩ (fun hHeld=>?_);clear hK K;refine nX 22 ?_;refine lq 8 23 511 ?_;refine pY (p8 HT_.out (by kernel_rfl)) ?_;try go_wp2
     go_ret
     exact⟨qM,ny HB.out⟩
    rw[if_neg c8]at H;have bK:(((nk aa ac).f0)==ap&&(((nk aa ac).f1)==aq))=false:=by simpa using c8
    (try(have bL:decide (((nk aa ac).f0)=ap&&(((nk aa ac).f1)==aq))=false:=by simpa using c8));(try(have bM:(((nk aa ac).f0)==ap&&(((nk aa ac).f1)==aq))=false:=by simpa using c8));(try(have cu:¬ (((nk aa ac).f0)=ap&&(((nk aa ac).f1)==aq)):=by simpa using c8));clear c8;have H':=dm H;clear H;have⟨bS,bT,bU,bV⟩:=nJ (w:=wr) ae;try go_wp2
    replace ae:=dm (oq ae.out);replace HB:=dm (pI HB.out);have aI:0<=(ac:Int):=nC;have aK:ac<(aa.length:Int):=nC;obtain⟨ao,a7,ai,aj⟩:=qA am.out ac aI aK;have ay:=aj;have az:=ai;cases a7;replace ai:=nG HB ai;replace aj:=nG HB aj;replace aI:=eq_true aI;replace aK:=eq_true aK;refine qc 9 (S:=fun w'=>w'.cell? ⟨aC,0,none⟩=some (.int .i64 ab)/\w'.cell? ⟨aC,1,none⟩=some (.slice (some ao) aa.length ag)/\w'.cell? (ao.add ((ac).toNat*2))=some (.int .i64 ((nk aa ac).f0))/\w'.cell? ⟨(ao.add ((ac).toNat*2)).block,(ao.add ((ac).toNat*2)).off+1,none⟩=some (.int .i64 ((nk aa ac).f1))) [] ⟨nz ae 0,nz ae 1,(nG HB az),(nG HB ay)⟩ sS.xV sS.xO (fun hHeld HT_ HW_=>?_);generalize wr.drew=cv at ae HB ai aj hHeld⊢;refine lq 0 15 1 ?_;refine lq 2 17 5 ?_;refine lq 5 20 37 ?_;refine lq 6 21 101 ?_;refine nT 1 16 103 ?_;refine lq 3 18 111 ?_;refine nT 4 19 127 ?_;refine oN 7 22 255 (fun K hK=>?_);refine tT Try.func46 (tX.calls A7.out) ?_;intro ci hb;replace ae:=nA ae hb;replace HB:=nI HB hb;(try clear hb);refine hK.out _ _ ⟨nz ae 0,nz ae 1,(nG HB az),(nG HB ay)⟩ (fun hHeld=>?_);clear hK K;refine nX 22 ?_;refine lq 8 23 511 ?_;refine pY (p8 HT_.out (by kernel_rfl)) ?_;try go_wp2
    go_roundg k1
    case measure=>have:=aX.out;omega
    case rel=>exact⟨(wrap64 (ac+1)),(nQ),H',⟨by have:=aX.out;omega⟩,⟨nE ae.out⟩,⟨ny HB.out⟩⟩
   obtain rfl:=Option.some.inj H;have⟨bW,bX,bY,bZ⟩:=nJ (w:=wr) ae
   go_wp2
   go_ret
   exact⟨qM,ny HB.out⟩
def wh.f (k:Nat) (ab:Int) (aa:List (S59)) (a1:Int) (a2:Int):Option (Bool):=(qa.f k ab aa).bind fun aP=>(if aP=true then((sS.f k ab aa a1 a2).bind fun ax=>(some ax)) else(some false))
theorem wh.calls {k:Nat}{ab:Int}{ah:Option Addr}{ag:Nat}{aa:List (S59)}{a1:Int}{a2:Int}{r:Bool}{w:World}(au:Kd.C k59 w ah aa.length aa)(av:aa.length<=ag)(h:wh.f k ab aa a1 a2=some r):
  Calls Try.prog 86 #[.agg #[.int .i64 ab,.slice ah aa.length ag],.int .i64 a1,.int .i64 a2] w fun e w'=>e=.returned (.bool r)/\Below w.heap.size w w':=by
 have bj:=Try.underlying31;have am:=dm au;have aB:=dm av;clear au av;have HB:=dm (Below.refl w.heap.size w);unfold wh.f at h;have H:=h;clear h;obtain⟨aP,A4,H⟩:=ow H;(try dsimp only at H)
 rcases pW H with⟨h_,H_⟩|⟨h_,H_⟩<;> (subst h_;clear H;have H:=H_;clear H_)
 ·obtain⟨ax,A6,H⟩:=ow H;(try dsimp only at H);obtain rfl:=Option.some.inj H
  go_enter Try.func86,Try.ntmps86
  go_wp2_with (first|((with_reducible refine nU 3 rfl ?_);refine oI #[.int .i64 ab,.slice ah aa.length ag] 31 ?_;intro aN hg w7 nu hb;have ak:=dm (nu);have bz:=dm (nO:w.heap.size<=aN);have bA:=dm (nO:w.heap.size<=aN);replace HB:=nI HB hb;clear hb nu hg;have⟨cj,ck,cl,cm⟩:=nJ (w:=w7) ak)|((with_reducible refine og 32 rfl ?_);refine rH 8 rfl Try.func32 (qa.calls (nS (oG am.out HB.out)) aB.out A4.out) ?_;intro w9 hb;replace ak:=nA ak hb;replace HB:=nI HB hb;(try clear hb);have⟨b3,b4,b5,b6⟩:=nJ (w:=w9) ak)|(go_at_call 113;refine(sS.calls (nS (oG am.out HB.out)) aB.out A6.out).mono ?_;rintro e ch ⟨rfl,hb⟩;replace ak:=nA ak hb;replace HB:=nI HB hb;(try clear hb)))
  go_ret
  exact⟨qM,ny HB.out⟩
 obtain rfl:=Option.some.inj H
 go_enter Try.func86,Try.ntmps86
 go_wp2_with (first|((with_reducible refine nU 3 rfl ?_);refine oI #[.int .i64 ab,.slice ah aa.length ag] 31 ?_;intro aN hg bC nu hb;have ak:=dm (nu);have bz:=dm (nO:w.heap.size<=aN);have bA:=dm (nO:w.heap.size<=aN);replace HB:=nI HB hb;clear hb nu hg;have⟨b7,b8,b9,b_⟩:=nJ (w:=bC) ak)|((with_reducible refine og 32 rfl ?_);refine rH 8 rfl Try.func32 (qa.calls (nS (oG am.out HB.out)) aB.out A4.out) ?_;intro ci hb;replace ak:=nA ak hb;replace HB:=nI HB hb;(try clear hb)))
 go_ret
 exact⟨qM,ny HB.out⟩
theorem G6(h:p:=by(try simp only [List.map_toArray,List.map_cons,List.map_nil]);first|done|(simp only [ba];rfl)|rfl|(simp only [List.length_drop,List.length_take];rfl)):p:=h
theorem G7(h:p:=by(try simp only [List.map_toArray,List.map_cons,List.map_nil]);first|done|(simp only [bK];rfl)|rfl|(simp only [List.length_drop,List.length_take];rfl)):p:=h
theorem Ck(h:p:=by have:=bL.out;have:=bM.out;have:=bz.out;first|omega|exact Nat.le_refl _):p:=h
theorem x_(h:p:=by first|omega|exact Nat.le_refl _):p:=h
attribute [local go_sem high] CX
mutual
def oP.j0:Nat->List (S59)->List Int->List Int->Bool->Int->List (S59)->Option (Bool)
 |0,_,_,_,_,_,_=>none
 |k+1,x1,x2,x3,dW,aj,ak=>if dW=true then(some false) else(oP.l0 k x1 x2 x3 0 aj ak)
def oP.l0:Nat->List (S59)->List Int->List Int->Int->Int->List (S59)->Option (Bool)
 |0,_,_,_,_,_,_=>none
 |k+1,x1,x2,x3,al,aj,ak=>if al<(x3.length:Int) then(if al>0 then(oP.j2 k x1 x2 x3 al (decide ((wrap64 (al+1))<(x3.length:Int))) aj ak) else(oP.j2 k x1 x2 x3 al false aj ak)) else(some true)
def oP.j2:Nat->List (S59)->List Int->List Int->Int->Bool->Int->List (S59)->Option (Bool)
 |0,_,_,_,_,_,_,_=>none
 |k+1,x1,x2,x3,al,dX,aj,ak=>if 0<=al then(if al<(x3.length:Int) then((rD.f k aj ak (rd x3 al)).bind fun b6=>(if b6=true then(if dX=true then((qE.f k x2 (rd x3 al)).bind fun aX=>(if aX=true then(oP.j3 k x1 x2 x3 al true aj ak) else(if al<=(x3.length:Int) then((qE.f k (x3.take (al:Int).toNat) (rd x3 al)).bind fun aI=>(oP.j3 k x1 x2 x3 al aI aj ak)) else(none)))) else(oP.j3 k x1 x2 x3 al false aj ak)) else(oP.j3 k x1 x2 x3 al true aj ak))) else(none)) else(none)
def oP.j3:Nat->List (S59)->List Int->List Int->Int->Bool->Int->List (S59)->Option (Bool)
 |0,_,_,_,_,_,_,_=>none
 |k+1,x1,x2,x3,al,dS,aj,ak=>if dS=true then(some false) else(if al=0 then(oP.l0 k x1 x2 x3 (wrap64 (al+1)) aj ak) else(if 0<=(wrap64 (al - 1)) then(if(wrap64 (al - 1))<(x3.length:Int) then(if 0<=al then(if al<(x3.length:Int) then((wh.f k aj ak (rd x3 (wrap64 (al - 1))) (rd x3 al)).bind fun bf=>(if bf=true then(oP.l1 k x1 x2 x3 al 0 aj ak) else(some false))) else(none)) else(none)) else(none)) else(none)))
def oP.l1:Nat->List (S59)->List Int->List Int->Int->Int->Int->List (S59)->Option (Bool)
 |0,_,_,_,_,_,_,_=>none
 |k+1,x1,x2,x3,al,cd,aj,ak=>if cd<(x1.length:Int) then(if 0<=cd then(if 0<=(wrap64 (al - 1)) then(if(wrap64 (al - 1))<(x3.length:Int) then(if 0<=al then(if al<(x3.length:Int) then((tX.f (rd x3 (wrap64 (al - 1))) (rd x3 al)).bind fun bN=>(if(((nk x1 cd).f0)==bN.1&&(((nk x1 cd).f1)==bN.2))=true then(some false) else(oP.l1 k x1 x2 x3 al (wrap64 (cd+1)) aj ak))) else(none)) else(none)) else(none)) else(none)) else(none)) else(oP.l0 k x1 x2 x3 (wrap64 (al+1)) aj ak)
end
def oP.f (k:Nat) (ae:Int) (ac:List (S59)) (l1:List (S59)) (l2:List Int) (l3:List Int) (a4:Bool):Option (Bool):=if(l3.length:Int)<2 then(oP.j0 k l1 l2 l3 true ae ac) else(if a4=true then((uJ.f l3).bind fun bh=>(if bh=true then(oP.j0 k l1 l2 l3 true ae ac) else(if(l3.length:Int)<4 then(oP.j0 k l1 l2 l3 true ae ac) else((uJ.f l3).bind fun aR=>(if aR=true then(oP.j0 k l1 l2 l3 false ae ac) else(oP.j0 k l1 l2 l3 (decide ((l3.length:Int)<4)) ae ac)))))) else(if 0<(l3.length:Int) then((qE.f k l2 (rd l3 0)).bind fun bj=>(if bj=true then(if 0<=(wrap64 ((l3.length:Int) - 1)) then(if(wrap64 ((l3.length:Int) - 1))<(l3.length:Int) then((qE.f k l2 (rd l3 (wrap64 ((l3.length:Int) - 1)))).bind fun aQ=>(if aQ=true then((uJ.f l3).bind fun aC=>(if aC=true then(oP.j0 k l1 l2 l3 false ae ac) else(oP.j0 k l1 l2 l3 (decide ((l3.length:Int)<4)) ae ac))) else(oP.j0 k l1 l2 l3 true ae ac))) else(none)) else(none)) else(oP.j0 k l1 l2 l3 true ae ac))) else(none)))
def oP.T7:Bool×List (List Nat×List Nat):=(true,[([],[]),([],[]),([],[]),([1,2],[1,2]),([3],[3]),([0,4],[0,4]),([5],[5]),([6,5],[6]),([7],[7]),([8,7,7],[7,8]),([9],[9]),([9],[9]),([9],[9]),([11,12,9],[9,11,12]),([13,9],[9,13]),([10,14,9,9],[9,10,14]),([15,15,9],[9,15]),([16],[16]),([16],[16]),([17,18,16],[16,17,18]),([16],[16]),([16],[16]),([20,21,16],[16,20,21]),([22,16],[16,22]),([19,23,16,16],[16,19,23]),([16,24,9],[9,16,24]),([9,25,7],[7,9,25]),([7,26],[7,26])])
def oP.B7:List Nat:=[0,0,0,6,14,31,63,127,255,511,1023,1023,1023,7167,15359,32767,65535,131071,131071,524287,131071,131071,3276799,7471103,16777215,33554431,67108863,134217727]
theorem oP.uU:qj .any (opsOf Try.f45 7)=oP.T7:=by kernel_rfl
theorem oP.uP:qV oP.T7.2 oP.B7=true:=by kernel_rfl
def oP.T10:Bool×List (List Nat×List Nat):=(true,[([],[]),([],[]),([],[]),([2],[2]),([1,3],[1,3]),([4],[4]),([],[]),([],[]),([6,7],[6,7]),([8],[8]),([0,5,9],[0,5,9]),([10],[10])])
def oP.B10:List Nat:=[0,0,0,4,14,30,0,0,192,448,1023,2047]
theorem oP.DC:qj .any (opsOf Try.f45 10)=oP.T10:=by kernel_rfl
theorem oP.Cc:qV oP.T10.2 oP.B10=true:=by kernel_rfl
def oP.T15:Bool×List (List Nat×List Nat):=(true,[([],[]),([],[]),([0,1],[0,1]),([2],[2]),([],[]),([],[]),([5],[5]),([4,6],[4,6]),([7],[7]),([],[]),([],[]),([9,10],[9,10]),([11],[11]),([8,12],[8,12]),([3,13],[3,13])])
def oP.B15:List Nat:=[0,0,3,7,0,0,32,112,240,0,0,1536,3584,8176,16383]
theorem oP.DF:qj .any (opsOf Try.f45 15)=oP.T15:=by kernel_rfl
theorem oP.Cf:qV oP.T15.2 oP.B15=true:=by kernel_rfl
theorem oP.calls {k:Nat}{ae:Int}{av:Option Addr}{aw:Nat}{ac:List (S59)}{A1:Option Addr}{c1:Nat}{l1:List (S59)}{A2:Option Addr}{c2:Nat}{l2:List Int}{A3:Option Addr}{c3:Nat}{l3:List Int}{a4:Bool}{r:Bool}{w:World}(cz:Kd.C k59 w av ac.length ac)(cA:ac.length<=aw)(hr1:Kd.C k59 w A1 l1.length l1)(dI:l1.length<=c1)(hr2:Kd.C (Kd.int .i64) w A2 l2.length l2)(dJ:l2.length<=c2)(dK:Kd.C (Kd.int .i64) w A3 l3.length l3)(dL:l3.length<=c3)(h:oP.f k ae ac l1 l2 l3 a4=some r):
  Calls Try.prog 45 #[.agg #[.int .i64 ae,.slice av ac.length aw],.slice A1 l1.length c1,.slice A2 l2.length c2,.slice A3 l3.length c3,.bool a4] w fun e w'=>e=.returned (.bool r)/\Below w.heap.size w w':=by
 have et:=Try.underlying31;have eu:=Try.underlying59;have bp:=dm cz;have bq:=dm cA;clear cz cA;have dM:=dm hr1;have ew:=dm dI;clear hr1 dI;have bO:=dm hr2;have bP:=dm dJ;clear hr2 dJ;have ap:=dm dK;have bQ:=dm dL;clear dK dL;have HB:=dm (Below.refl w.heap.size w);unfold oP.f at h;have H:=h;clear h;have dl:=dm H;clear H
 go_enter Try.func45,Try.ntmps45
 go_upto_region 1 with(first|((with_reducible refine nU 5 rfl ?_);(try(refine rT (by rfl) ?_;dsimp only));refine vI 5 #[.int .i64 ae,.slice av ac.length aw] 31 ?_;intro ao hg w7 nu hb;have ab:=dm (nu);have ec:=dm ((by rw[hg];exact(ou (ny HB.out)):w.heap.size<=ao));have ed:=dm ((by rw[hg];exact(ou (ny HB.out)):w.heap.size<=ao));replace HB:=nI HB hb;clear hb nu hg))
 (try simp only [Act.put,List.setIfInBounds_toArray,List.set_cons_zero,List.set_cons_succ])
 go_cut [61] (fun dY wc=>∃ (kq:Nat) (bV:Bool),dY=.bool bV/\lm (oP.j0 kq l1 l2 l3 bV ae ac=some r)/\lm (kq<=k)/\lm (wc.heap[ao]? =some (.cells #[.int .i64 ae,(.slice av ac.length aw)] 31 (0,0)))/\lm (Below w.heap.size w wc))
 case first=>
  have H:=dl.out;clear dl
  by_cases c8:(l3.length:Int)<2
  ·rw[if_pos c8]at H;have bX:=decide_eq_true c8;have dT:decide (l3.length<2)=true:=decide_eq_true (by omega);clear c8;(first|rw[bX]|(simp only [qP,si];rw[bX])|skip);have H':=dm H;clear H
   go_wp2
   go_meet
   case rel=>exact⟨_,(true),(nQ),H',⟨x_⟩,⟨nE ab.out⟩,⟨ny HB.out⟩⟩
  rw[if_neg c8]at H;have bX:=decide_eq_false c8;have dT:decide (l3.length<2)=false:=decide_eq_false (by omega);clear c8;(first|rw[bX]|(simp only [qP,si];rw[bX])|skip)
  rcases pW H with⟨h_,H_⟩|⟨h_,H_⟩<;> (subst h_;clear H;have H:=H_;clear H_)
  ·obtain⟨bh,cD,H⟩:=ow H;(try dsimp only at H)
   rcases pW H with⟨h_,H_⟩|⟨h_,H_⟩<;> (subst h_;clear H;have H:=H_;clear H_)
   ·have H':=dm H;clear H
    go_wp2_with (first|(go_at_call 83;refine(uJ.calls (nS (oG ap.out HB.out)) bQ.out cD.out).mono ?_;rintro e w' ⟨rfl,⟨nd,rfl⟩⟩))
    go_meet
    case rel=>exact⟨_,(true),(nQ),H',⟨x_⟩,⟨nE ab.out⟩,⟨ny HB.out⟩⟩
   skip
   by_cases bZ:(l3.length:Int)<4
   ·rw[if_pos bZ]at H;have dv:=decide_eq_true bZ;have dw:decide (l3.length<4)=true:=decide_eq_true (by omega);clear bZ;have H':=dm H;clear H
    go_wp2_with (first|(go_at_call 83;refine(uJ.calls (nS (oG ap.out HB.out)) bQ.out cD.out).mono ?_;rintro e w' ⟨rfl,⟨nd,rfl⟩⟩))
    go_meet
    case rel=>exact⟨_,(true),(nQ),H',⟨x_⟩,⟨nE ab.out⟩,⟨ny HB.out⟩⟩
   rw[if_neg bZ]at H;have dv:=decide_eq_false bZ;have dw:decide (l3.length<4)=false:=decide_eq_false (by omega);clear bZ;obtain⟨aR,dN,H⟩:=ow H;(try dsimp only at H)
   rcases pW H with⟨h_,H_⟩|⟨h_,H_⟩<;> (subst h_;clear H;have H:=H_;clear H_)
   ·have H':=dm H;clear H
    go_wp2_with (first|(go_at_call 83;(with_reducible refine(uJ.calls ?o7 ?o8 cD.out).mono ?_);(case o7=>exact nS (oG ap.out HB.out));(case o8=>exact bQ.out);rintro e w' ⟨rfl,⟨nd,rfl⟩⟩)|(go_at_call 83;(with_reducible refine(uJ.calls ?o7 ?o8 dN.out).mono ?_);(case o7=>repeat(first|exact(oG ap.out (ny HB.out))|(with_reducible refine uh ?_ _)|(with_reducible refine uj ?_ _)|(with_reducible refine ui ?_)));(case o8=>exact bQ.out);rintro e w' ⟨rfl,⟨nd,rfl⟩⟩))
    go_meet
    case rel=>exact⟨_,(false),(nQ),H',⟨x_⟩,⟨nE ab.out⟩,⟨ny HB.out⟩⟩
   have H':=dm H;clear H
   go_wp2_with (first|(go_at_call 83;(with_reducible refine(uJ.calls ?o7 ?o8 cD.out).mono ?_);(case o7=>exact nS (oG ap.out HB.out));(case o8=>exact bQ.out);rintro e w' ⟨rfl,⟨nd,rfl⟩⟩)|(go_at_call 83;(with_reducible refine(uJ.calls ?o7 ?o8 dN.out).mono ?_);(case o7=>repeat(first|exact(oG ap.out (ny HB.out))|(with_reducible refine uh ?_ _)|(with_reducible refine uj ?_ _)|(with_reducible refine ui ?_)));(case o8=>exact bQ.out);rintro e w' ⟨rfl,⟨nd,rfl⟩⟩))
   go_meet
   case rel=>exact⟨_,(decide ((l3.length:Int)<4)),(nQ),H',⟨x_⟩,⟨nE ab.out⟩,⟨ny HB.out⟩⟩
  skip
  obtain⟨cG,H⟩:=qh H;have ee:=decide_eq_true cG;have ef:decide (0<l3.length)=true:=decide_eq_true (by omega);clear cG;obtain⟨bj,cj,H⟩:=ow H;(try dsimp only at H)
  rcases pW H with⟨h_,H_⟩|⟨h_,H_⟩<;> (subst h_;clear H;have H:=H_;clear H_)
  ·obtain⟨ax,bW⟩:∃j_:Int,(wrap64 ((l3.length:Int) - 1))=j_:=⟨_,rfl⟩;replace H:(if 0<=(ax) then(if(ax)<(l3.length:Int) then((qE.f k l2 (rd l3 (ax))).bind fun aQ=>(if aQ=true then((uJ.f l3).bind fun aC=>(if aC=true then(oP.j0 k l1 l2 l3 false ae ac) else(oP.j0 k l1 l2 l3 (decide ((l3.length:Int)<4)) ae ac))) else(oP.j0 k l1 l2 l3 true ae ac))) else(none)) else(none))=some r:=by first|(rw[bW]at H;exact H)|(simp only [bW]at H⊢;exact H)
   (try rw[bW]at cj);have dZ:(IntKind.i64.wrap ((l3.length:Int) - 1))=ax:=(qP _).trans bW
   obtain⟨eg,H⟩:=oC H
   obtain⟨eh,H⟩:=oC H;obtain⟨aQ,dn,H⟩:=ow H;(try dsimp only at H)
   rcases pW H with⟨h_,H_⟩|⟨h_,H_⟩<;> (subst h_;clear H;have H:=H_;clear H_)
   ·obtain⟨aC,dO,H⟩:=ow H;(try dsimp only at H)
    rcases pW H with⟨h_,H_⟩|⟨h_,H_⟩<;> (subst h_;clear H;have H:=H_;clear H_)
    ·have H':=dm H;clear H;have aK:0<=(0:Int):=(by omega);have aL:0<(l3.length:Int):=nC;obtain⟨br,bA,ag⟩:=oL ap.out 0 aK aL;cases bA;have b7:(0<l3.length)=True:=eq_true (by omega);(try rw[show((0:Int)).toNat=0 from rfl]at ag);(try rw[Addr.add_zero']at ag);replace ag:=nG HB ag;replace aK:=eq_true aK;replace aL:=eq_true aL
     go_wp2_with (first|(go_at_call 47;(with_reducible refine(qE.calls ?o7 ?o8 cj.out).mono ?_);(case o7=>exact nS (oG bO.out HB.out));(case o8=>exact bP.out);rintro e w' ⟨rfl,⟨nd,rfl⟩⟩;have aT:0<=((ax):Int):=nC;have aU:(ax)<(l3.length:Int):=nC;obtain⟨bR,bY,aO⟩:=oL ap.out (ax) aT aU;obtain rfl:br=bR:=(by injection bY);replace aO:=nG HB aO;replace aT:=eq_true aT;replace aU:=eq_true aU)|(go_at_call 47;(with_reducible refine(qE.calls ?o7 ?o8 dn.out).mono ?_);(case o7=>repeat(first|exact(oG bO.out (ny HB.out))|(with_reducible refine uh ?_ _)|(with_reducible refine uj ?_ _)|(with_reducible refine ui ?_)));(case o8=>exact bP.out);rintro e w' ⟨rfl,⟨nd,rfl⟩⟩)|(go_at_call 83;(with_reducible refine(uJ.calls ?o7 ?o8 dO.out).mono ?_);(case o7=>repeat(first|exact(oG ap.out (ny HB.out))|(with_reducible refine uh ?_ _)|(with_reducible refine uj ?_ _)|(with_reducible refine ui ?_)));(case o8=>exact bQ.out);rintro e w' ⟨rfl,⟨nd,rfl⟩⟩))
     go_meet
     case rel=>exact⟨_,(false),(nQ),H',⟨x_⟩,⟨nE ab.out⟩,⟨ny HB.out⟩⟩
    have H':=dm H;clear H;have aK:0<=(0:Int):=(by omega);have aL:0<(l3.length:Int):=nC;obtain⟨br,bA,ag⟩:=oL ap.out 0 aK aL;cases bA;have b7:(0<l3.length)=True:=eq_true (by omega);(try rw[show((0:Int)).toNat=0 from rfl]at ag);(try rw[Addr.add_zero']at ag);replace ag:=nG HB ag;replace aK:=eq_true aK;replace aL:=eq_true aL
    go_wp2_with (first|(go_at_call 47;(with_reducible refine(qE.calls ?o7 ?o8 cj.out).mono ?_);(case o7=>exact nS (oG bO.out HB.out));(case o8=>exact bP.out);rintro e w' ⟨rfl,⟨nd,rfl⟩⟩;have aT:0<=((ax):Int):=nC;have aU:(ax)<(l3.length:Int):=nC;obtain⟨bR,bY,aO⟩:=oL ap.out (ax) aT aU;obtain rfl:br=bR:=(by injection bY);replace aO:=nG HB aO;replace aT:=eq_true aT;replace aU:=eq_true aU)|(go_at_call 47;(with_reducible refine(qE.calls ?o7 ?o8 dn.out).mono ?_);(case o7=>repeat(first|exact(oG bO.out (ny HB.out))|(with_reducible refine uh ?_ _)|(with_reducible refine uj ?_ _)|(with_reducible refine ui ?_)));(case o8=>exact bP.out);rintro e w' ⟨rfl,⟨nd,rfl⟩⟩)|(go_at_call 83;(with_reducible refine(uJ.calls ?o7 ?o8 dO.out).mono ?_);(case o7=>repeat(first|exact(oG ap.out (ny HB.out))|(with_reducible refine uh ?_ _)|(with_reducible refine uj ?_ _)|(with_reducible refine ui ?_)));(case o8=>exact bQ.out);rintro e w' ⟨rfl,⟨nd,rfl⟩⟩))
    go_meet
    case rel=>exact⟨_,(decide ((l3.length:Int)<4)),(nQ),H',⟨x_⟩,⟨nE ab.out⟩,⟨ny HB.out⟩⟩
   have H':=dm H;clear H;have aK:0<=(0:Int):=(by omega);have aL:0<(l3.length:Int):=nC;obtain⟨br,bA,ag⟩:=oL ap.out 0 aK aL;cases bA;have b7:(0<l3.length)=True:=eq_true (by omega);(try rw[show((0:Int)).toNat=0 from rfl]at ag);(try rw[Addr.add_zero']at ag);replace ag:=nG HB ag;replace aK:=eq_true aK;replace aL:=eq_true aL
   go_wp2_with (first|(go_at_call 47;(with_reducible refine(qE.calls ?o7 ?o8 cj.out).mono ?_);(case o7=>exact nS (oG bO.out HB.out));(case o8=>exact bP.out);rintro e w' ⟨rfl,⟨nd,rfl⟩⟩;have aT:0<=((ax):Int):=nC;have aU:(ax)<(l3.length:Int):=nC;obtain⟨bR,bY,aO⟩:=oL ap.out (ax) aT aU;obtain rfl:br=bR:=(by injection bY);replace aO:=nG HB aO;replace aT:=eq_true aT;replace aU:=eq_true aU)|(go_at_call 47;(with_reducible refine(qE.calls ?o7 ?o8 dn.out).mono ?_);(case o7=>repeat(first|exact(oG bO.out (ny HB.out))|(with_reducible refine uh ?_ _)|(with_reducible refine uj ?_ _)|(with_reducible refine ui ?_)));(case o8=>exact bP.out);rintro e w' ⟨rfl,⟨nd,rfl⟩⟩))
   go_meet
   case rel=>exact⟨_,(true),(nQ),H',⟨x_⟩,⟨nE ab.out⟩,⟨ny HB.out⟩⟩
  have H':=dm H;clear H;have aK:0<=(0:Int):=(by omega);have aL:0<(l3.length:Int):=nC;obtain⟨br,bA,ag⟩:=oL ap.out 0 aK aL;cases bA;have b7:(0<l3.length)=True:=eq_true (by omega);(try rw[show((0:Int)).toNat=0 from rfl]at ag);(try rw[Addr.add_zero']at ag);replace ag:=nG HB ag;replace aK:=eq_true aK;replace aL:=eq_true aL
  go_wp2_with (first|(go_at_call 47;refine(qE.calls (nS (oG bO.out HB.out)) bP.out cj.out).mono ?_;rintro e w' ⟨rfl,⟨nd,rfl⟩⟩))
  go_meet
  case rel=>exact⟨_,(true),(nQ),H',⟨x_⟩,⟨nE ab.out⟩,⟨ny HB.out⟩⟩
 case rest=>
  clear dl;obtain⟨kq,bV,rfl,HA,bL,ab,HB⟩:=hcut;cases kq with
  |zero=>exact absurd HA.out (by simp[oP.j0])
  |succ dq=>
   have H:=HA.out;clear HA;simp only [oP.j0]at H
   rcases pW H with⟨h_,H_⟩|⟨h_,H_⟩<;> (subst h_;clear H;have H:=H_;clear H_)
   ·obtain rfl:=Option.some.inj H
    go_wp2
    go_ret
    exact⟨qM,ny HB.out⟩
   have H':=dm H;clear H
   go_wp2
   go_loopg [11] dq (fun kq d7 w'=>∃ (aa:Int),d7=.int .i64 aa/\lm (oP.l0 kq l1 l2 l3 aa ae ac=some r)/\lm (kq<=dq)/\lm (w'.heap[ao]? =some (.cells #[.int .i64 ae,(.slice av ac.length aw)] 31 (0,0)))/\lm (Below w.heap.size w w'))
   case atStart=>exact⟨(0),(nQ),H',⟨Nat.le_refl _⟩,⟨nE ab.out⟩,⟨ny HB.out⟩⟩
   case round=>
    clear H';(try clear ck);obtain⟨aa,rfl,HA,bM,ab,HB⟩:=hrel;cases gk with
    |zero=>exact absurd HA.out (by simp[oP.l0])
    |succ k2=>
     have H:=HA.out;clear HA;simp only [oP.l0]at H
     replace H:=pU H;rcases H with⟨cN,H⟩|⟨cN,H⟩
     ·have co:=dm H;clear H
      go_upto_region 6 with(fail)
      go_cut [12] (fun d8 wc=>∃ (kq:Nat) (aY:Bool),d8=.bool aY/\lm (oP.j2 kq l1 l2 l3 aa aY ae ac=some r)/\lm (kq<=k2)/\lm (wc.heap[ao]? =some (.cells #[.int .i64 ae,(.slice av ac.length aw)] 31 (0,0)))/\lm (Below w.heap.size w wc))
      case first=>
       have H:=co.out;clear co
       replace H:=pU H;rcases H with⟨bS,H⟩|⟨bS,H⟩
       ·(first|rw[bS]|(simp only [qP,si];rw[bS])|skip);have H':=dm H;clear H
        go_wp2
        go_meet
        case rel=>exact⟨_,(decide ((wrap64 (aa+1))<(l3.length:Int))),(nQ),H',⟨by have:=bL.out;have:=bM.out;first|omega|exact Nat.le_refl _⟩,⟨nE ab.out⟩,⟨ny HB.out⟩⟩
       (first|rw[bS]|(simp only [qP,si];rw[bS])|skip);have H':=dm H;clear H
       go_wp2
       go_meet
       case rel=>exact⟨_,(false),(nQ),H',⟨by have:=bL.out;have:=bM.out;first|omega|exact Nat.le_refl _⟩,⟨nE ab.out⟩,⟨ny HB.out⟩⟩
      case rest=>
       clear co;(try clear cN);obtain⟨kq,aY,rfl,HA,bz,ab,HB⟩:=hcut;cases kq with
       |zero=>exact absurd HA.out (by simp[oP.j2])
       |succ ai=>
        have H:=HA.out;clear HA;simp only [oP.j2]at H;have cp:=dm H;clear H
        go_upto_region 7 with(fail)
        go_cut [104] (fun dU wc=>∃ (kq:Nat) (bu:Bool),dU=.bool bu/\lm (oP.j3 kq l1 l2 l3 aa bu ae ac=some r)/\lm (kq<=ai)/\lm (wc.heap[ao]? =some (.cells #[.int .i64 ae,(.slice av ac.length aw)] 31 (0,0)))/\lm (Below w.heap.size w wc))
        case first=>
         have H:=cp.out;clear cp
         obtain⟨cP,H⟩:=oC H;(first|rw[cP]|(simp only [qP,si];rw[cP])|skip)
         obtain⟨ei,H⟩:=oC H;obtain⟨b6,cS,H⟩:=ow H;(try dsimp only at H)
         rcases pW H with⟨h_,H_⟩|⟨h_,H_⟩<;> (subst h_;clear H;have H:=H_;clear H_)
         ·skip
          rcases pW H with⟨h_,H_⟩|⟨h_,H_⟩<;> (subst h_;clear H;have H:=H_;clear H_)
          ·obtain⟨aX,dP,H⟩:=ow H;(try dsimp only at H)
           rcases pW H with⟨h_,H_⟩|⟨h_,H_⟩<;> (subst h_;clear H;have H:=H_;clear H_)
           ·have H':=dm H;clear H;try go_wp2
            replace ab:=dm (oq ab.out);replace HB:=dm (pI HB.out);have aM:0<=(aa:Int):=nC;have aN:aa<(l3.length:Int):=nC;obtain⟨ay,bB,ah⟩:=oL ap.out aa aM aN;have am:=ah;cases bB;replace ah:=nG HB ah;replace aM:=eq_true aM;replace aN:=eq_true aN;have bC:0<=(aa:Int):=nC;have bD:aa<(l3.length:Int):=nC;obtain⟨b8,cq,aD⟩:=oL ap.out aa bC bD;have aP:=aD;obtain rfl:ay=b8:=(by injection cq);replace aD:=nG HB aD;replace bC:=eq_true bC;replace bD:=eq_true bD;refine qc 28 (S:=fun w'=>w'.cell? ⟨ao,0,none⟩=some (.int .i64 ae)/\w'.cell? ⟨ao,1,none⟩=some (.slice av ac.length aw)/\w'.cell? (ay.add (aa).toNat)=some (.int .i64 (rd l3 aa))/\w'.cell? (ay.add (aa).toNat)=some (.int .i64 (rd l3 aa))) [] ⟨nz ab 0,nz ab 1,(nG HB am),(nG HB aP)⟩ oP.uU oP.uP (fun hHeld HT_ HW_=>?_);generalize wc.drew=ex at ab HB ah aD hHeld⊢;refine lq 1 78 2 ?_;refine lq 2 79 6 ?_;refine lq 3 80 14 ?_;refine nT 0 77 15 ?_;refine nT 4 81 31 ?_;refine oN 5 82 63 (fun K hK=>?_);refine tT Try.func85 (rD.calls (nS (oG bp.out HB.out)) bq.out cS.out) ?_;intro ey hb;replace ab:=nA ab hb;replace HB:=nI HB hb;(try clear hb);refine hK.out _ _ ⟨nz ab 0,nz ab 1,(nG HB am),(nG HB aP)⟩ (fun hHeld=>?_);clear hK K;refine nX 82 ?_;refine lq 6 83 127 ?_;refine lq 7 84 255 ?_;refine lq 8 85 511 ?_;refine lq 9 86 1023 ?_;refine lq 10 87 2047 ?_;refine lq 11 88 4095 ?_;refine lq 12 89 8191 ?_;refine lq 13 90 16383 ?_;refine nT 14 91 32767 ?_;refine oN 15 92 65535 (fun K hK=>?_);refine qd Try.func47 (qE.calls (nS (oG bO.out HB.out)) bP.out dP.out) ?_;rintro e w' ⟨rfl,⟨nd,rfl⟩⟩;refine⟨_,rfl,?_⟩;refine hK.out _ _ ⟨nz ab 0,nz ab 1,(nG HB am),(nG HB aP)⟩ (fun hHeld=>?_);clear hK K;refine nX 92 ?_;refine lq 16 93 131071 ?_;refine oM 17 94 262143 ?_;refine oM 18 95 524287 ?_;refine oM 19 96 1048575 ?_;refine oM 20 97 2097151 ?_;refine oM 21 98 4194303 ?_;refine oM 22 99 8388607 ?_;refine oM 23 100 16777215 ?_;refine oM 24 101 33554431 ?_;refine lq 25 102 67108863 ?_;refine lq 26 103 134217727 ?_;refine lq 27 104 268435455 ?_;refine pY (p8 HT_.out (oz)) ?_;try go_wp2
            go_meet
            case rel=>exact⟨_,(true),(nQ),H',⟨Ck⟩,⟨nE ab.out⟩,⟨ny HB.out⟩⟩
           have ej:=eq_true (of_decide_eq_true (wz):0<=aa)
           obtain⟨cl,H⟩:=qh H;have ek:=eq_true cl;have el:=decide_eq_true cl;clear cl;obtain⟨aI,d9,H⟩:=ow H;(try dsimp only at H);have H':=dm H;clear H;try go_wp2
           replace ab:=dm (oq ab.out);replace HB:=dm (pI HB.out);have aM:0<=(aa:Int):=nC;have aN:aa<(l3.length:Int):=nC;obtain⟨ay,bB,ah⟩:=oL ap.out aa aM aN;have am:=ah;cases bB;replace ah:=nG HB ah;replace aM:=eq_true aM;replace aN:=eq_true aN;have bC:0<=(aa:Int):=nC;have bD:aa<(l3.length:Int):=nC;obtain⟨b8,cq,aD⟩:=oL ap.out aa bC bD;have aP:=aD;obtain rfl:ay=b8:=(by injection cq);replace aD:=nG HB aD;replace bC:=eq_true bC;replace bD:=eq_true bD;have cr:0<=(aa:Int):=nC;have ct:aa<(l3.length:Int):=nC;obtain⟨dx,dV,bv⟩:=oL ap.out aa cr ct;have bx:=bv;obtain rfl:ay=dx:=(by injection dV);replace bv:=nG HB bv;replace cr:=eq_true cr;replace ct:=eq_true ct;refine qc 28 (S:=fun w'=>w'.cell? ⟨ao,0,none⟩=some (.int .i64 ae)/\w'.cell? ⟨ao,1,none⟩=some (.slice av ac.length aw)/\w'.cell? (ay.add (aa).toNat)=some (.int .i64 (rd l3 aa))/\w'.cell? (ay.add (aa).toNat)=some (.int .i64 (rd l3 aa))/\w'.cell? (ay.add (aa).toNat)=some (.int .i64 (rd l3 aa))) [] ⟨nz ab 0,nz ab 1,(nG HB am),(nG HB aP),(nG HB bx)⟩ oP.uU oP.uP (fun hHeld HT_ HW_=>?_);generalize wc.drew=ez at ab HB ah aD bv hHeld⊢;refine lq 1 78 2 ?_;refine lq 2 79 6 ?_;refine lq 3 80 14 ?_;refine nT 0 77 15 ?_;refine nT 4 81 31 ?_;refine oN 5 82 63 (fun K hK=>?_);refine tT Try.func85 (rD.calls (nS (oG bp.out HB.out)) bq.out cS.out) ?_;intro eA hb;replace ab:=nA ab hb;replace HB:=nI HB hb;(try clear hb);refine hK.out _ _ ⟨nz ab 0,nz ab 1,(nG HB am),(nG HB aP),(nG HB bx)⟩ (fun hHeld=>?_);clear hK K;refine nX 82 ?_;refine lq 6 83 127 ?_;refine lq 7 84 255 ?_;refine lq 8 85 511 ?_;refine lq 9 86 1023 ?_;refine lq 10 87 2047 ?_;refine lq 11 88 4095 ?_;refine lq 12 89 8191 ?_;refine lq 13 90 16383 ?_;refine nT 14 91 32767 ?_;refine oN 15 92 65535 (fun K hK=>?_);refine qd Try.func47 (qE.calls (nS (oG bO.out HB.out)) bP.out dP.out) ?_;rintro e w' ⟨rfl,⟨nd,rfl⟩⟩;refine⟨_,rfl,?_⟩;obtain⟨ev,cX,_,cY,_⟩:=info_parts info3;obtain⟨d_,dr,dt⟩:=Du (P:=Try.prog) (Value.int .i64) 0 45 3 .i64 Try.underlying45 cX cY (some ay) c3 l3 aa nC nC bQ.out;have dy:=dm (yV (h1:=fun _=>rfl) (dr _ (yQ ap.out)));have dz:=dm dt;clear dr dt cX cY;refine hK.out _ _ ⟨nz ab 0,nz ab 1,(nG HB am),(nG HB aP),(nG HB bx)⟩ (fun hHeld=>?_);clear hK K;refine nX 92 ?_;refine lq 16 93 131071 ?_;refine lq 17 94 262143 ?_;refine lq 18 95 524287 ?_;refine lq 19 96 1048575 ?_;refine lq 20 97 2097151 ?_;refine lq 21 98 4194303 ?_;refine lq 22 99 8388607 ?_;refine nT 23 100 16777215 ?_;refine oN 24 101 33554431 (fun K hK=>?_);refine uw Try.func47 (oz) rfl #[.slice (some ay) (l3.take (aa:Int).toNat).length c3,.int .i64 (rd l3 aa)] (by rfl) rfl rfl (by(try simp only [List.map_toArray,List.map_cons,List.map_nil]);first|done|(rw[show(l3.take (aa:Int).toNat).length=aa.toNat from(by rw[List.length_take];have h_:(aa:Int)<=(l3.length:Int):=nC;omega)]<;>rfl)|rfl|(simp only [List.length_drop,List.length_take];rfl)) ?_;with_reducible refine(qE.calls ?o7 ?o8 d9.out).mono ?_
           (case o7=>repeat(first|exact(oG dy.out (ny HB.out))|(with_reducible refine uh ?_ _)|(with_reducible refine uj ?_ _)|(with_reducible refine ui ?_)));(case o8=>exact dz.out);rintro e w' ⟨rfl,⟨nd,rfl⟩⟩;refine⟨_,rfl,?_⟩;refine hK.out _ _ ⟨nz ab 0,nz ab 1,(nG HB am),(nG HB aP),(nG HB bx)⟩ (fun hHeld=>?_);clear hK K;refine nX 101 ?_;refine lq 25 102 67108863 ?_;refine lq 26 103 134217727 ?_;refine lq 27 104 268435455 ?_;refine pY (p8 HT_.out (oz)) ?_;try go_wp2
           go_meet
           case rel=>exact⟨_,(aI),(nQ),H',⟨Ck⟩,⟨nE ab.out⟩,⟨ny HB.out⟩⟩
          have H':=dm H;clear H;try go_wp2
          replace ab:=dm (oq ab.out);replace HB:=dm (pI HB.out);have aM:0<=(aa:Int):=nC;have aN:aa<(l3.length:Int):=nC;obtain⟨ay,bB,ah⟩:=oL ap.out aa aM aN;have am:=ah;cases bB;replace ah:=nG HB ah;replace aM:=eq_true aM;replace aN:=eq_true aN;refine qc 28 (S:=fun w'=>w'.cell? ⟨ao,0,none⟩=some (.int .i64 ae)/\w'.cell? ⟨ao,1,none⟩=some (.slice av ac.length aw)/\w'.cell? (ay.add (aa).toNat)=some (.int .i64 (rd l3 aa))) [] ⟨nz ab 0,nz ab 1,(nG HB am)⟩ oP.uU oP.uP (fun hHeld HT_ HW_=>?_);generalize wc.drew=eB at ab HB ah hHeld⊢;refine lq 1 78 2 ?_;refine lq 2 79 6 ?_;refine lq 3 80 14 ?_;refine nT 0 77 15 ?_;refine nT 4 81 31 ?_;refine oN 5 82 63 (fun K hK=>?_);refine tT Try.func85 (rD.calls (nS (oG bp.out HB.out)) bq.out cS.out) ?_;intro eC hb;replace ab:=nA ab hb;replace HB:=nI HB hb;(try clear hb);refine hK.out _ _ ⟨nz ab 0,nz ab 1,(nG HB am)⟩ (fun hHeld=>?_);clear hK K;refine nX 82 ?_;refine lq 6 83 127 ?_;refine lq 7 84 255 ?_;refine lq 8 85 511 ?_;refine lq 9 86 1023 ?_;refine oM 10 87 2047 ?_;refine oM 11 88 4095 ?_;refine oM 12 89 8191 ?_;refine oM 13 90 16383 ?_;refine oM 14 91 32767 ?_;refine oM 15 92 65535 ?_;refine oM 16 93 131071 ?_;refine oM 17 94 262143 ?_;refine oM 18 95 524287 ?_;refine oM 19 96 1048575 ?_;refine oM 20 97 2097151 ?_;refine oM 21 98 4194303 ?_;refine oM 22 99 8388607 ?_;refine oM 23 100 16777215 ?_;refine oM 24 101 33554431 ?_;refine oM 25 102 67108863 ?_;refine lq 26 103 134217727 ?_;refine lq 27 104 268435455 ?_;refine pY (p8 HT_.out (oz)) ?_;try go_wp2
          go_meet
          case rel=>exact⟨_,(false),(nQ),H',⟨Ck⟩,⟨nE ab.out⟩,⟨ny HB.out⟩⟩
         have H':=dm H;clear H;try go_wp2
         replace ab:=dm (oq ab.out);replace HB:=dm (pI HB.out);have aM:0<=(aa:Int):=nC;have aN:aa<(l3.length:Int):=nC;obtain⟨ay,bB,ah⟩:=oL ap.out aa aM aN;have am:=ah;cases bB;replace ah:=nG HB ah;replace aM:=eq_true aM;replace aN:=eq_true aN;refine qc 28 (S:=fun w'=>w'.cell? ⟨ao,0,none⟩=some (.int .i64 ae)/\w'.cell? ⟨ao,1,none⟩=some (.slice av ac.length aw)/\w'.cell? (ay.add (aa).toNat)=some (.int .i64 (rd l3 aa))) [] ⟨nz ab 0,nz ab 1,(nG HB am)⟩ oP.uU oP.uP (fun hHeld HT_ HW_=>?_);generalize wc.drew=eD at ab HB ah hHeld⊢;refine lq 1 78 2 ?_;refine lq 2 79 6 ?_;refine lq 3 80 14 ?_;refine nT 0 77 15 ?_;refine nT 4 81 31 ?_;refine oN 5 82 63 (fun K hK=>?_);refine tT Try.func85 (rD.calls (nS (oG bp.out HB.out)) bq.out cS.out) ?_;intro eE hb;replace ab:=nA ab hb;replace HB:=nI HB hb;(try clear hb);refine hK.out _ _ ⟨nz ab 0,nz ab 1,(nG HB am)⟩ (fun hHeld=>?_);clear hK K;refine nX 82 ?_;refine lq 6 83 127 ?_;refine lq 7 84 255 ?_;refine oM 8 85 511 ?_;refine oM 9 86 1023 ?_;refine oM 10 87 2047 ?_;refine oM 11 88 4095 ?_;refine oM 12 89 8191 ?_;refine oM 13 90 16383 ?_;refine oM 14 91 32767 ?_;refine oM 15 92 65535 ?_;refine oM 16 93 131071 ?_;refine oM 17 94 262143 ?_;refine oM 18 95 524287 ?_;refine oM 19 96 1048575 ?_;refine oM 20 97 2097151 ?_;refine oM 21 98 4194303 ?_;refine oM 22 99 8388607 ?_;refine oM 23 100 16777215 ?_;refine oM 24 101 33554431 ?_;refine oM 25 102 67108863 ?_;refine oM 26 103 134217727 ?_;refine lq 27 104 268435455 ?_;refine pY (p8 HT_.out (oz)) ?_;try go_wp2
         go_meet
         case rel=>exact⟨_,(true),(nQ),H',⟨Ck⟩,⟨nE ab.out⟩,⟨ny HB.out⟩⟩
        case rest=>
         clear cp;obtain⟨kq,bu,rfl,HA,bT,ab,HB⟩:=hcut;cases kq with
         |zero=>exact absurd HA.out (by simp[oP.j3])
         |succ aS=>
          have H:=HA.out;clear HA;simp only [oP.j3]at H
          rcases pW H with⟨h_,H_⟩|⟨h_,H_⟩<;> (subst h_;clear H;have H:=H_;clear H_)
          ·obtain rfl:=Option.some.inj H
           go_wp2
           go_ret
           exact⟨qM,ny HB.out⟩
          skip
          by_cases bU:aa=0
          ·rw[if_pos bU]at H;have cZ:=beq_iff_eq.mpr bU;have c_:=bne_eq_false_iff_eq.mpr bU;clear bU;have H':=dm H;clear H
           go_wp2
           go_roundg aS
           case measure=>have:=bL.out;have:=bM.out;have:=bz.out;have:=bT.out;omega
           case rel=>exact⟨(wrap64 (aa+1)),(nQ),H',⟨by have:=bL.out;have:=bM.out;have:=bz.out;have:=bT.out;omega⟩,⟨nE ab.out⟩,⟨ny HB.out⟩⟩
          rw[if_neg bU]at H;have cZ:=beq_eq_false_iff_ne.mpr bU;have c_:=bne_iff_ne.mpr bU;obtain⟨aq,ba⟩:∃j_:Int,(wrap64 (aa - 1))=j_:=⟨_,rfl⟩;replace H:(if 0<=(aq) then(if(aq)<(l3.length:Int) then(if 0<=aa then(if aa<(l3.length:Int) then((wh.f aS ae ac (rd l3 (aq)) (rd l3 aa)).bind fun bf=>(if bf=true then(oP.l1 aS l1 l2 l3 aa 0 ae ac) else(some false))) else(none)) else(none)) else(none)) else(none))=some r:=by first|(rw[ba]at H;exact H)|(simp only [ba]at H⊢;exact H)
          have du:(IntKind.i64.wrap (aa - 1))=aq:=(qP _).trans ba
          obtain⟨dA,H⟩:=oC H
          obtain⟨dB,H⟩:=oC H
          obtain⟨dC,H⟩:=oC H
          obtain⟨dD,H⟩:=oC H;obtain⟨bf,dQ,H⟩:=ow H;(try dsimp only at H)
          rcases pW H with⟨h_,H_⟩|⟨h_,H_⟩<;> (subst h_;clear H;have H:=H_;clear H_)
          ·have H':=dm H;clear H;try go_wp2
           replace ab:=dm (oq ab.out);replace HB:=dm (pI HB.out);have bk:0<=((aq):Int):=nC;have bl:(aq)<(l3.length:Int):=nC;obtain⟨az,cu,aA⟩:=oL ap.out (aq) bk bl;have aZ:=aA;cases cu;replace aA:=nG HB aA;replace bk:=eq_true bk;replace bl:=eq_true bl;have bm:0<=(aa:Int):=nC;have bn:aa<(l3.length:Int):=nC;obtain⟨b9,cv,aB⟩:=oL ap.out aa bm bn;have a6:=aB;obtain rfl:az=b9:=(by injection cv);replace aB:=nG HB aB;replace bm:=eq_true bm;replace bn:=eq_true bn;refine qc 12 (S:=fun w'=>w'.cell? ⟨ao,0,none⟩=some (.int .i64 ae)/\w'.cell? ⟨ao,1,none⟩=some (.slice av ac.length aw)/\w'.cell? (az.add ((aq)).toNat)=some (.int .i64 (rd l3 (aq)))/\w'.cell? (az.add (aa).toNat)=some (.int .i64 (rd l3 aa))) [] ⟨nz ab 0,nz ab 1,(nG HB aZ),(nG HB a6)⟩ oP.DC oP.Cc (fun hHeld HT_ HW_=>?_);generalize wc.drew=eF at ab HB aA aB hHeld⊢;refine lq 1 108 2 ?_;refine lq 2 109 6 ?_;refine lq 3 110 14 ?_;refine lq 4 111 30 ?_;refine lq 6 113 94 ?_;refine lq 7 114 222 ?_;refine lq 8 115 478 ?_;refine nT 0 107 479 ?_;refine nT 5 112 511 ?_;refine nT 9 116 1023 ?_;refine oN 10 117 2047 (fun K hK=>?_);refine uw Try.func86 (oz) rfl #[.agg #[.int .i64 ae,.slice av ac.length aw],.int .i64 (rd l3 (aq)),.int .i64 (rd l3 aa)] (by rfl) rfl rfl (G6) ?_;refine(wh.calls (nS (oG bp.out HB.out)) bq.out dQ.out).mono ?_;rintro e eG ⟨rfl,hb⟩;refine⟨_,rfl,?_⟩;replace ab:=nA ab hb;replace HB:=nI HB hb;(try clear hb);refine hK.out _ _ ⟨nz ab 0,nz ab 1,(nG HB aZ),(nG HB a6)⟩ (fun hHeld=>?_);clear hK K;refine nX 117 ?_;refine lq 11 118 4095 ?_;refine pY (p8 HT_.out (oz)) ?_;try go_wp2
           go_loopg [13] aS (fun kq ea w'=>∃ (af:Int),ea=.int .i64 af/\lm (oP.l1 kq l1 l2 l3 aa af ae ac=some r)/\lm (kq<=aS)/\lm (w'.heap[ao]? =some (.cells #[.int .i64 ae,(.slice av ac.length aw)] 31 (0,0)))/\lm (Below w.heap.size w w'))
           case atStart=>exact⟨(0),(nQ),H',⟨Nat.le_refl _⟩,⟨nE ab.out⟩,⟨ny HB.out⟩⟩
           case round=>
            clear H';(try clear cm bU cZ c_ dA dB dC dD cn aA aB bk bm bl bn);obtain⟨af,rfl,HA,df,ab,HB⟩:=hrel;cases gk with
            |zero=>exact absurd HA.out (by simp[oP.l1])
            |succ k5=>
             have H:=HA.out;clear HA;simp only [oP.l1]at H
             replace H:=pU H;rcases H with⟨dE,H⟩|⟨dE,H⟩
             ·skip
              obtain⟨em,H⟩:=oC H;obtain⟨au,bK⟩:∃j_:Int,(wrap64 (aa - 1))=j_:=⟨_,rfl⟩;replace H:(if 0<=(au) then(if(au)<(l3.length:Int) then(if 0<=aa then(if aa<(l3.length:Int) then((tX.f (rd l3 (au)) (rd l3 aa)).bind fun bN=>(if(((nk l1 af).f0)==bN.1&&(((nk l1 af).f1)==bN.2))=true then(some false) else(oP.l1 k5 l1 l2 l3 aa (wrap64 (af+1)) ae ac))) else(none)) else(none)) else(none)) else(none))=some r:=by first|(rw[bK]at H;exact H)|(simp only [bK]at H⊢;exact H)
              have eb:(IntKind.i64.wrap (aa - 1))=au:=(qP _).trans bK;clear ba du
              obtain⟨en,H⟩:=oC H
              obtain⟨eo,H⟩:=oC H
              obtain⟨ep,H⟩:=oC H
              obtain⟨eq,H⟩:=oC H;obtain⟨⟨aV,aW⟩,dR,H⟩:=ow H;(try dsimp only at H)
              by_cases bo:(((nk l1 af).f0)==aV&&(((nk l1 af).f1)==aW))=true
              ·rw[if_pos bo]at H;have dF:(((nk l1 af).f0)==aV&&(((nk l1 af).f1)==aW))=true:=bo;(try(have dG:decide (((nk l1 af).f0)=aV&&(((nk l1 af).f1)==aW))=true:=by simpa using bo));(try(have dH:(((nk l1 af).f0)==aV&&(((nk l1 af).f1)==aW))=true:=by simpa using bo));clear bo;obtain rfl:=Option.some.inj H;try go_wp2
               replace ab:=dm (oq ab.out);replace HB:=dm (pI HB.out);have bE:0<=(af:Int):=nC;have bF:af<(l1.length:Int):=nC;obtain⟨bd,cw,aE,aF⟩:=qA dM.out af bE bF;have a7:=aF;have a8:=aE;cases cw;replace aE:=nG HB aE;replace aF:=nG HB aF;replace bE:=eq_true bE;replace bF:=eq_true bF;have bG:0<=((au):Int):=nC;have bH:(au)<(l3.length:Int):=nC;obtain⟨b_,cx,aG⟩:=oL ap.out (au) bG bH;have a9:=aG;obtain rfl:az=b_:=(by injection cx);replace aG:=nG HB aG;replace bG:=eq_true bG;replace bH:=eq_true bH;have bI:0<=(aa:Int):=nC;have bJ:aa<(l3.length:Int):=nC;obtain⟨ca,cy,aH⟩:=oL ap.out aa bI bJ;have a_:=aH;obtain rfl:az=ca:=(by injection cy);replace aH:=nG HB aH;replace bI:=eq_true bI;replace bJ:=eq_true bJ;refine qc 15 (S:=fun w'=>w'.cell? (bd.add ((af).toNat*2))=some (.int .i64 ((nk l1 af).f0))/\w'.cell? ⟨(bd.add ((af).toNat*2)).block,(bd.add ((af).toNat*2)).off+1,none⟩=some (.int .i64 ((nk l1 af).f1))/\w'.cell? (az.add ((au)).toNat)=some (.int .i64 (rd l3 (au)))/\w'.cell? (az.add (aa).toNat)=some (.int .i64 (rd l3 aa))) [] ⟨(nG HB a8),(nG HB a7),(nG HB a9),(nG HB a_)⟩ oP.DF oP.Cf (fun hHeld HT_ HW_=>?_);generalize wr.drew=eH at ab HB aE aF aG aH hHeld⊢;refine lq 0 125 1 ?_;refine lq 1 126 3 ?_;refine lq 2 127 7 ?_;refine lq 4 129 23 ?_;refine lq 5 130 55 ?_;refine lq 6 131 119 ?_;refine lq 7 132 247 ?_;refine lq 9 134 759 ?_;refine lq 10 135 1783 ?_;refine lq 11 136 3831 ?_;refine nT 3 128 3839 ?_;refine nT 8 133 4095 ?_;refine nT 12 137 8191 ?_;refine oN 13 138 16383 (fun K hK=>?_);refine uw Try.func46 (oz) rfl #[.int .i64 (rd l3 (au)),.int .i64 (rd l3 aa)] (by rfl) rfl rfl (G7) ?_;refine(tX.calls dR.out).mono ?_;rintro e eI ⟨rfl,hb⟩;refine⟨_,rfl,?_⟩;replace ab:=nA ab hb;replace HB:=nI HB hb;(try clear hb);refine hK.out _ _ ⟨(nG HB a8),(nG HB a7),(nG HB a9),(nG HB a_)⟩ (fun hHeld=>?_);clear hK K;refine nX 138 ?_;refine lq 14 139 32767 ?_;refine pY (p8 HT_.out (oz)) ?_;try go_wp2
               go_ret
               exact⟨by first|rfl|(simp[rz,rA]<;>rfl)|(simp only [←ba,←bK];first|rfl|(simp[rz,rA]<;>rfl))|(simp[*,rz,rA]<;>rfl),ny HB.out⟩
              rw[if_neg bo]at H;have dF:(((nk l1 af).f0)==aV&&(((nk l1 af).f1)==aW))=false:=by simpa using bo
              (try(have dG:decide (((nk l1 af).f0)=aV&&(((nk l1 af).f1)==aW))=false:=by simpa using bo));(try(have dH:(((nk l1 af).f0)==aV&&(((nk l1 af).f1)==aW))=false:=by simpa using bo));(try(have es:¬ (((nk l1 af).f0)=aV&&(((nk l1 af).f1)==aW)):=by simpa using bo));clear bo;have H':=dm H;clear H;try go_wp2
              replace ab:=dm (oq ab.out);replace HB:=dm (pI HB.out);have bE:0<=(af:Int):=nC;have bF:af<(l1.length:Int):=nC;obtain⟨bd,cw,aE,aF⟩:=qA dM.out af bE bF;have a7:=aF;have a8:=aE;cases cw;replace aE:=nG HB aE;replace aF:=nG HB aF;replace bE:=eq_true bE;replace bF:=eq_true bF;have bG:0<=((au):Int):=nC;have bH:(au)<(l3.length:Int):=nC;obtain⟨b_,cx,aG⟩:=oL ap.out (au) bG bH;have a9:=aG;obtain rfl:az=b_:=(by injection cx);replace aG:=nG HB aG;replace bG:=eq_true bG;replace bH:=eq_true bH;have bI:0<=(aa:Int):=nC;have bJ:aa<(l3.length:Int):=nC;obtain⟨ca,cy,aH⟩:=oL ap.out aa bI bJ;have a_:=aH;obtain rfl:az=ca:=(by injection cy);replace aH:=nG HB aH;replace bI:=eq_true bI;replace bJ:=eq_true bJ;refine qc 15 (S:=fun w'=>w'.cell? (bd.add ((af).toNat*2))=some (.int .i64 ((nk l1 af).f0))/\w'.cell? ⟨(bd.add ((af).toNat*2)).block,(bd.add ((af).toNat*2)).off+1,none⟩=some (.int .i64 ((nk l1 af).f1))/\w'.cell? (az.add ((au)).toNat)=some (.int .i64 (rd l3 (au)))/\w'.cell? (az.add (aa).toNat)=some (.int .i64 (rd l3 aa))) [] ⟨(nG HB a8),(nG HB a7),(nG HB a9),(nG HB a_)⟩ oP.DF oP.Cf (fun hHeld HT_ HW_=>?_);generalize wr.drew=eJ at ab HB aE aF aG aH hHeld⊢;refine lq 0 125 1 ?_;refine lq 1 126 3 ?_;refine lq 2 127 7 ?_;refine lq 4 129 23 ?_;refine lq 5 130 55 ?_;refine lq 6 131 119 ?_;refine lq 7 132 247 ?_;refine lq 9 134 759 ?_;refine lq 10 135 1783 ?_;refine lq 11 136 3831 ?_;refine nT 3 128 3839 ?_;refine nT 8 133 4095 ?_;refine nT 12 137 8191 ?_;refine oN 13 138 16383 (fun K hK=>?_);refine uw Try.func46 (oz) rfl #[.int .i64 (rd l3 (au)),.int .i64 (rd l3 aa)] (by rfl) rfl rfl (G7) ?_;refine(tX.calls dR.out).mono ?_;rintro e eK ⟨rfl,hb⟩;refine⟨_,rfl,?_⟩;replace ab:=nA ab hb;replace HB:=nI HB hb;(try clear hb);refine hK.out _ _ ⟨(nG HB a8),(nG HB a7),(nG HB a9),(nG HB a_)⟩ (fun hHeld=>?_);clear hK K;refine nX 138 ?_;refine lq 14 139 32767 ?_;refine pY (p8 HT_.out (oz)) ?_;try go_wp2
              go_roundg k5
              case measure=>have:=bL.out;have:=bM.out;have:=bz.out;have:=bT.out;have:=df.out;omega
              case rel=>exact⟨(wrap64 (af+1)),(nQ),H',⟨by have:=bL.out;have:=bM.out;have:=bz.out;have:=bT.out;have:=df.out;omega⟩,⟨nE ab.out⟩,⟨ny HB.out⟩⟩
             have H':=dm H;clear H
             go_wp2
             go_roundg k5
             case measure=>have:=bL.out;have:=bM.out;have:=bz.out;have:=bT.out;have:=df.out;omega
             case rel=>exact⟨(wrap64 (aa+1)),(nQ),H',⟨by have:=bL.out;have:=bM.out;have:=bz.out;have:=bT.out;have:=df.out;omega⟩,⟨nE ab.out⟩,⟨ny HB.out⟩⟩
          obtain rfl:=Option.some.inj H;try go_wp2
          replace ab:=dm (oq ab.out);replace HB:=dm (pI HB.out);have bk:0<=((aq):Int):=nC;have bl:(aq)<(l3.length:Int):=nC;obtain⟨az,cu,aA⟩:=oL ap.out (aq) bk bl;have aZ:=aA;cases cu;replace aA:=nG HB aA;replace bk:=eq_true bk;replace bl:=eq_true bl;have bm:0<=(aa:Int):=nC;have bn:aa<(l3.length:Int):=nC;obtain⟨b9,cv,aB⟩:=oL ap.out aa bm bn;have a6:=aB;obtain rfl:az=b9:=(by injection cv);replace aB:=nG HB aB;replace bm:=eq_true bm;replace bn:=eq_true bn;refine qc 12 (S:=fun w'=>w'.cell? ⟨ao,0,none⟩=some (.int .i64 ae)/\w'.cell? ⟨ao,1,none⟩=some (.slice av ac.length aw)/\w'.cell? (az.add ((aq)).toNat)=some (.int .i64 (rd l3 (aq)))/\w'.cell? (az.add (aa).toNat)=some (.int .i64 (rd l3 aa))) [] ⟨nz ab 0,nz ab 1,(nG HB aZ),(nG HB a6)⟩ oP.DC oP.Cc (fun hHeld HT_ HW_=>?_);generalize wc.drew=eL at ab HB aA aB hHeld⊢;refine lq 1 108 2 ?_;refine lq 2 109 6 ?_;refine lq 3 110 14 ?_;refine lq 4 111 30 ?_;refine lq 6 113 94 ?_;refine lq 7 114 222 ?_;refine lq 8 115 478 ?_;refine nT 0 107 479 ?_;refine nT 5 112 511 ?_;refine nT 9 116 1023 ?_;refine oN 10 117 2047 (fun K hK=>?_);refine uw Try.func86 (oz) rfl #[.agg #[.int .i64 ae,.slice av ac.length aw],.int .i64 (rd l3 (aq)),.int .i64 (rd l3 aa)] (by rfl) rfl rfl (G6) ?_;refine(wh.calls (nS (oG bp.out HB.out)) bq.out dQ.out).mono ?_;rintro e eM ⟨rfl,hb⟩;refine⟨_,rfl,?_⟩;replace ab:=nA ab hb;replace HB:=nI HB hb;(try clear hb);refine hK.out _ _ ⟨nz ab 0,nz ab 1,(nG HB aZ),(nG HB a6)⟩ (fun hHeld=>?_);clear hK K;refine nX 117 ?_;refine lq 11 118 4095 ?_;refine pY (p8 HT_.out (oz)) ?_;try go_wp2
          go_ret
          exact⟨by first|rfl|(simp[rz,rA]<;>rfl)|(simp only [←ba];first|rfl|(simp[rz,rA]<;>rfl))|(simp[*,rz,rA]<;>rfl),ny HB.out⟩
     obtain rfl:=Option.some.inj H
     go_wp2
     go_ret
     exact⟨qM,ny HB.out⟩
theorem G8(h:p:=by(try simp only [List.map_toArray,List.map_cons,List.map_nil]);first|done|(simp only [cf];rfl)|rfl|(simp only [List.length_drop,List.length_take];rfl)):p:=h
theorem AZ(h:p:=by have:=co.out;have:=cp.out;have:=cq.out;omega):p:=h
mutual
def pV.j0:Nat->List (List Int)->Bool->Int->List (S59)->Option (Bool)
 |0,_,_,_,_=>none
 |k+1,x1,fp,ap,aq=>if fp=true then(some false) else(pV.l0 k x1 (([]:List (S59))) (([]:List Int)) 0 ap aq)
def pV.l0:Nat->List (List Int)->List (S59)->List Int->Int->Int->List (S59)->Option (Bool)
 |0,_,_,_,_,_,_=>none
 |k+1,x1,x5,x6,x7,ap,aq=>if x7<(x1.length:Int) then(if 0<=x7 then((oP.f k ap aq x5 x6 (nL x1 x7) (x7==0)).bind fun cD=>(if cD=true then(pV.l1 k x1 x5 x6 x7 0 ap aq) else(some false))) else(none)) else(if(x5.length:Int)=(aq.length:Int) then(some ((x6.length:Int)==ap)) else(some false))
def pV.l1:Nat->List (List Int)->List (S59)->List Int->Int->Int->Int->List (S59)->Option (Bool)
 |0,_,_,_,_,_,_,_=>none
 |k+1,x1,x5,x6,x7,x8,ap,aq=>if 0<=x7 then(if x7<(x1.length:Int) then(if x8<((nL x1 x7).length:Int) then(if x8>0 then(if 0<=(wrap64 (x8 - 1)) then(if(wrap64 (x8 - 1))<((nL x1 x7).length:Int) then(if 0<=x8 then((tX.f (rd (nL x1 x7) (wrap64 (x8 - 1))) (rd (nL x1 x7) x8)).bind fun bV=>(if x5.length<8796093022208 then((some (x5++[(⟨bV.1,bV.2⟩:S59)]:List (S59))).bind fun aG=>((qE.f k x6 (rd (nL x1 x7) x8)).bind fun aY=>(if aY=true then(pV.l1 k x1 aG x6 x7 (wrap64 (x8+1)) ap aq) else(if x6.length<17592186044416 then(pV.l1 k x1 aG (x6++[rd (nL x1 x7) x8]) x7 (wrap64 (x8+1)) ap aq) else(none))))) else(none))) else(none)) else(none)) else(none)) else(if 0<=x8 then((qE.f k x6 (rd (nL x1 x7) x8)).bind fun cE=>(if cE=true then(pV.l1 k x1 x5 x6 x7 (wrap64 (x8+1)) ap aq) else(if x6.length<17592186044416 then(pV.l1 k x1 x5 (x6++[rd (nL x1 x7) x8]) x7 (wrap64 (x8+1)) ap aq) else(none)))) else(none))) else(pV.l0 k x1 x5 x6 (wrap64 (x7+1)) ap aq)) else(none)) else(none)
end
def pV.f (k:Nat) (ag:Int) (ae:List (S59)) (l1:List (List Int)):Option (Bool):=(qa.f k ag ae).bind fun b8=>(if b8=true then(if(l1.length:Int)<1 then(pV.j0 k l1 true ag ae) else(pV.j0 k l1 (decide ((l1.length:Int)> (ae.length:Int))) ag ae)) else(pV.j0 k l1 true ag ae))
def pV.T8:Bool×List (List Nat×List Nat):=(true,[([],[]),([],[]),([],[]),([],[]),([],[]),([3,4],[3,4]),([5],[5]),([],[]),([7],[7]),([0,1,2,6,8],[0,1,2,6,8]),([9],[9])])
def pV.B8:List Nat:=[0,0,0,0,0,24,56,0,128,511,1023]
theorem pV.vV:qj .any (opsOf Try.f16 8)=pV.T8:=by kernel_rfl
theorem pV.vP:qV pV.T8.2 pV.B8=true:=by kernel_rfl
def pV.T14:Bool×List (List Nat×List Nat):=(true,[([],[]),([],[]),([],[]),([1,2],[1,2]),([3],[3]),([],[]),([5],[5]),([4,6],[4,6]),([7],[7]),([],[]),([],[]),([9,10],[9,10]),([11],[11]),([],[]),([12,13],[12,13]),([14],[14]),([8,15],[8,15]),([16],[16]),([0,17,16],[0,17]),([18,18,0,1,2,3,4,5,6,7,8,9,10,11,12,13,14,15,16,17,18],[0,18])])
def pV.B14:List Nat:=[0,0,0,6,14,0,32,126,254,0,0,1536,3584,0,15872,32256,65534,131070,262143,524287]
theorem pV.zO:qj .any (opsOf Try.f16 14)=pV.T14:=by kernel_rfl
theorem pV.zk:qV pV.T14.2 pV.B14=true:=by kernel_rfl
theorem pV.calls {k:Nat}{ag:Int}{aN:Option Addr}{aQ:Nat}{ae:List (S59)}{A1:Option Addr}{c1:Nat}{l1:List (List Int)}{r:Bool}{w:World}(dk:Kd.C k59 w aN ae.length ae)(dl:ae.length<=aQ)(hr1:Kd.C (Kd.slice 3 (Kd.int .i64)) w A1 l1.length l1)(ev:l1.length<=c1)(h:pV.f k ag ae l1=some r):
  Calls Try.prog 16 #[.agg #[.int .i64 ag,.slice aN ae.length aQ],.slice A1 l1.length c1] w fun e w'=>e=.returned (.bool r)/\Below w.heap.size w w':=by
 have fN:=Try.underlying31;have bW:=dm dk;have bX:=dm dl;clear dk dl;have aT:=dm hr1;have fY:=dm ev;clear hr1 ev;have HB:=dm (Below.refl w.heap.size w);unfold pV.f at h;have H:=h;clear h;have dN:=dm H;clear H
 go_enter Try.func16,Try.ntmps16
 go_upto_region 1 with(first|((with_reducible refine nU 2 rfl ?_);(try(refine rT (by rfl) ?_;dsimp only));refine vI 2 #[.int .i64 ag,.slice aN ae.length aQ] 31 ?_;intro aU hg w4 nu hb;have ab:=dm (nu);have fD:=dm ((by rw[hg];exact(ou (ny HB.out)):w.heap.size<=aU));have fE:=dm ((by rw[hg];exact(ou (ny HB.out)):w.heap.size<=aU));replace HB:=nI HB hb;clear hb nu hg))
 (try simp only [Act.put,List.setIfInBounds_toArray,List.set_cons_zero,List.set_cons_succ])
 go_cut [24] (fun fq wc=>∃ (kq:Nat) (cg:Bool),fq=.bool cg/\lm (pV.j0 kq l1 cg ag ae=some r)/\lm (kq<=k)/\lm (wc.heap[aU]? =some (.cells #[.int .i64 ag,(.slice aN ae.length aQ)] 31 (0,0)))/\lm (Below w.heap.size w wc))
 case first=>
  have H:=dN.out;clear dN;obtain⟨b8,A5,H⟩:=ow H;(try dsimp only at H)
  rcases pW H with⟨h_,H_⟩|⟨h_,H_⟩<;> (subst h_;clear H;have H:=H_;clear H_)
  ·skip
   by_cases c7:(l1.length:Int)<1
   ·rw[if_pos c7]at H;have ci:=decide_eq_true c7;have eA:decide (l1.length<1)=true:=decide_eq_true (by omega);clear c7;(first|rw[ci]|(simp only [qP,si];rw[ci])|skip);have H':=dm H;clear H;have⟨ft,fu,fv,fw⟩:=nJ (w:=w4) ab
    go_wp2_with (first|((with_reducible refine og 32 rfl ?_);refine rH 10 rfl Try.func32 (qa.calls (nS (oG bW.out HB.out)) bX.out A5.out) ?_;intro w9 hb;replace ab:=nA ab hb;replace HB:=nI HB hb;(try clear hb)))
    go_meet
    case rel=>exact⟨_,(true),(nQ),H',⟨by first|omega|exact Nat.le_refl _⟩,⟨nE ab.out⟩,⟨ny HB.out⟩⟩
   rw[if_neg c7]at H;have ci:=decide_eq_false c7;have eA:decide (l1.length<1)=false:=decide_eq_false (by omega);clear c7;(first|rw[ci]|(simp only [qP,si];rw[ci])|skip);have H':=dm H;clear H;have⟨eZ,e2,e3,e4⟩:=nJ (w:=w4) ab
   go_wp2_with (first|((with_reducible refine og 32 rfl ?_);refine rH 10 rfl Try.func32 (qa.calls (nS (oG bW.out HB.out)) bX.out A5.out) ?_;intro fx hb;replace ab:=nA ab hb;replace HB:=nI HB hb;(try clear hb);have⟨e5,e6,e7,e8⟩:=nJ (w:=fx) ab))
   go_meet
   case rel=>exact⟨_,(decide ((l1.length:Int)> (ae.length:Int))),(nQ),H',⟨by first|omega|exact Nat.le_refl _⟩,⟨nE ab.out⟩,⟨ny HB.out⟩⟩
  have H':=dm H;clear H;have⟨e9,fa,fb,fc⟩:=nJ (w:=w4) ab
  go_wp2_with (first|((with_reducible refine og 32 rfl ?_);refine rH 10 rfl Try.func32 (qa.calls (nS (oG bW.out HB.out)) bX.out A5.out) ?_;intro fZ hb;replace ab:=nA ab hb;replace HB:=nI HB hb;(try clear hb)))
  go_meet
  case rel=>exact⟨_,(true),(nQ),H',⟨by first|omega|exact Nat.le_refl _⟩,⟨nE ab.out⟩,⟨ny HB.out⟩⟩
 case rest=>
  clear dN;obtain⟨kq,cg,rfl,HA,co,ab,HB⟩:=hcut;cases kq with
  |zero=>exact absurd HA.out (by simp[pV.j0])
  |succ cN=>
   have H:=HA.out;clear HA;simp only [pV.j0]at H
   rcases pW H with⟨h_,H_⟩|⟨h_,H_⟩<;> (subst h_;clear H;have H:=H_;clear H_)
   ·obtain rfl:=Option.some.inj H
    go_wp2
    go_ret
    exact⟨qM,ny HB.out⟩
   obtain⟨cQ,bY⟩:∃y_:List (S59),y_=(([]:List (S59))):=⟨_,rfl⟩;replace H:(pV.l0 cN l1 cQ (([]:List Int)) 0 ag ae)=some r:=pG bY H
   have dn:=dm bY;clear bY;obtain⟨dO,bZ⟩:∃y_:List Int,y_=(([]:List Int)):=⟨_,rfl⟩;replace H:(pV.l0 cN l1 cQ dO 0 ag ae)=some r:=pG bZ H
   have dq:=dm bZ;clear bZ;have H':=dm H;clear H
   go_wp2_with (first|((with_reducible refine nU 25 rfl ?_);(try(refine rT (by rfl) ?_;dsimp only));refine rZ k59 rfl 59 ([]:List (S59)) [] (oF.none _ _) ?_;intro fO f2 cj hb hg_ pE;clear hg_ pE;(first|rw[←dn.out]at cj|(simp only [Int.reduceToNat]at cj;rw[←dn.out]at cj));have ch:=dm (oJ cj (ou (ny HB.out)));replace ab:=nA ab hb;replace HB:=nI HB hb;clear hb cj)|((with_reducible refine nU 26 rfl ?_);(try(refine rT (by rfl) ?_;dsimp only));refine rZ (Kd.int .i64) rfl 3 ([]:List Int) [] (oF.none _ _) ?_;intro fP f3 ck hb hg_ pE;clear hg_ pE;(first|rw[←dq.out]at ck|(simp only [Int.reduceToNat]at ck;rw[←dq.out]at ck));replace ch:=oh ch hb;have ec:=dm (oJ ck (ou (ny HB.out)));replace ab:=nA ab hb;replace HB:=nI HB hb;clear hb ck))
   go_loopg [5,6,7] cN (fun kq v5 v6 v7 w'=>∃ (aH:List (S59)) (aZ:List Int) (aa:Int),v7=.int .i64 aa/\lm (pV.l0 kq l1 aH aZ aa ag ae=some r)/\lm (kq<=cN)/\lm (Kd.R k59 59 w' w.heap.size (fun _=>True) v5 aH)/\lm (Kd.R (Kd.int .i64) 3 w' w.heap.size (fun _=>True) v6 aZ)/\lm (w'.heap[aU]? =some (.cells #[.int .i64 ag,(.slice aN ae.length aQ)] 31 (0,0)))/\lm (Below w.heap.size w w'))
   case atStart=>exact⟨(cQ),(dO),(0),(nQ),H',⟨Nat.le_refl _⟩,⟨nH ch.out⟩,⟨nH ec.out⟩,⟨nE ab.out⟩,⟨ny HB.out⟩⟩
   case round=>
    clear H';(try clear cO);obtain⟨aH,aZ,aa,rfl,HA,cp,ah,af,ab,HB⟩:=hrel;cases gk with
    |zero=>exact absurd HA.out (by simp[pV.l0])
    |succ k2=>
     have H:=HA.out;clear HA;simp only [pV.l0]at H
     replace H:=pU H;rcases H with⟨dr,H⟩|⟨dr,H⟩
     ·skip
      obtain⟨ed,H⟩:=oC H;obtain⟨cD,ew,H⟩:=ow H;(try dsimp only at H)
      rcases pW H with⟨h_,H_⟩|⟨h_,H_⟩<;> (subst h_;clear H;have H:=H_;clear H_)
      ·have H':=dm H;clear H;try go_wp2
       replace ah:=dm (nP ah.out);replace af:=dm (nP af.out);replace ab:=dm (oq ab.out);replace HB:=dm (pI HB.out);have bq:0<=(aa:Int):=nC;have br:aa<(l1.length:Int):=nC;obtain⟨ak,bu,bv,cS,aE,a5,a6⟩:=sK aT.out aa bq br;have a7:=aE;cases cS;replace aE:=nG HB aE;have a8:=dm a6;have b9:=dm a5;clear a6 a5;replace bq:=eq_true bq;replace br:=eq_true br;obtain⟨eB,eC,dP⟩:=nY ah.out;(first|subst dP|(injection dP with bx cl bz;have cm:=bx.symm;have cn:=bz.symm;clear bx cl bz;subst cm;subst cn));obtain⟨eD,eE,dQ⟩:=nY af.out;(first|subst dQ|(injection dQ with bx cl bz;have cm:=bx.symm;have cn:=bz.symm;clear bx cl bz;subst cm;subst cn));refine qc 11 (S:=fun w'=>w'.cell? ⟨aU,0,none⟩=some (.int .i64 ag)/\w'.cell? ⟨aU,1,none⟩=some (.slice aN ae.length aQ)/\w'.cell? (ak.add (aa).toNat)=some (.slice bu (nL l1 aa).length bv)) [] ⟨nz ab 0,nz ab 1,(nG HB a7)⟩ pV.vV pV.vP (fun hHeld HT_ HW_=>?_);generalize wr.drew=f4 at ah af ab HB a8 aE hHeld⊢;refine lq 1 34 2 ?_;refine lq 2 35 6 ?_;refine lq 3 36 14 ?_;refine lq 4 37 30 ?_;refine lq 5 38 62 ?_;refine lq 7 40 190 ?_;refine lq 8 41 446 ?_;refine nT 0 33 447 ?_;refine nT 6 39 511 ?_;refine oN 9 42 1023 (fun K hK=>?_);refine tT Try.func45 (oP.calls (nS (oG bW.out HB.out)) bX.out (nS (nM ah.out).2.2) ((nM ah.out).2.1) (nS (nM af.out).2.2) ((nM af.out).2.1) (nS (oG a8.out HB.out)) b9.out ew.out) ?_;intro f5 hb;replace ah:=oh ah hb;replace af:=oh af hb;replace ab:=nA ab hb;replace HB:=nI HB hb;(try clear hb hk);refine hK.out _ _ ⟨nz ab 0,nz ab 1,(nG HB a7)⟩ (fun hHeld=>?_);clear hK K;refine nX 42 ?_;refine lq 10 43 2047 ?_;refine pY (p8 HT_.out (oz)) ?_;try go_wp2
       go_loopg [5,6,8] k2 (fun kq v5 v6 v8 w'=>∃ (aA:List (S59)) (ai:List Int) (ac:Int),v8=.int .i64 ac/\lm (pV.l1 kq l1 aA ai aa ac ag ae=some r)/\lm (kq<=k2)/\lm (Kd.R k59 59 w' w.heap.size (fun _=>True) v5 aA)/\lm (Kd.R (Kd.int .i64) 3 w' w.heap.size (fun _=>True) v6 ai)/\lm (w'.heap[aU]? =some (.cells #[.int .i64 ag,(.slice aN ae.length aQ)] 31 (0,0)))/\lm (Below w.heap.size w w'))
       case atStart=>exact⟨(aH),(aZ),(0),(nQ),H',⟨Nat.le_refl _⟩,⟨nH ah.out⟩,⟨nH af.out⟩,⟨nE ab.out⟩,⟨ny HB.out⟩⟩
       case round=>
        clear H';(try clear dr ed cP aE bq br);obtain⟨aA,ai,ac,rfl,HA,cq,ah,af,ab,HB⟩:=hrel;cases gk with
        |zero=>exact absurd HA.out (by simp[pV.l1])
        |succ k3=>
         have H:=HA.out;clear HA;simp only [pV.l1]at H
         obtain⟨fF,H⟩:=oC H
         obtain⟨fG,H⟩:=oC H
         replace H:=pU H;rcases H with⟨ee,H⟩|⟨ee,H⟩
         ·skip
          replace H:=pU H;rcases H with⟨ef,H⟩|⟨ef,H⟩
          ·obtain⟨ao,cf⟩:∃j_:Int,(wrap64 (ac - 1))=j_:=⟨_,rfl⟩;replace H:(if 0<=(ao) then(if(ao)<((nL l1 aa).length:Int) then(if 0<=ac then((tX.f (rd (nL l1 aa) (ao)) (rd (nL l1 aa) ac)).bind fun bV=>(if aA.length<8796093022208 then((some (aA++[(⟨bV.1,bV.2⟩:S59)]:List (S59))).bind fun aG=>((qE.f k3 ai (rd (nL l1 aa) ac)).bind fun aY=>(if aY=true then(pV.l1 k3 l1 aG ai aa (wrap64 (ac+1)) ag ae) else(if ai.length<17592186044416 then(pV.l1 k3 l1 aG (ai++[rd (nL l1 aa) ac]) aa (wrap64 (ac+1)) ag ae) else(none))))) else(none))) else(none)) else(none)) else(none))=some r:=by first|(rw[cf]at H;exact H)|(simp only [cf]at H⊢;exact H)
           have fy:(IntKind.i64.wrap (ac - 1))=ao:=(qP _).trans cf
           obtain⟨fH,H⟩:=oC H
           obtain⟨fI,H⟩:=oC H
           obtain⟨fJ,H⟩:=oC H;obtain⟨⟨a3,a4⟩,ex,H⟩:=ow H;(try dsimp only at H)
           obtain⟨dz,H⟩:=qh H;have dA:=dm dz;clear dz;obtain⟨aG,b3⟩:∃y_:List (S59),y_=(aA++[(⟨a3,a4⟩:S59)]):=⟨_,rfl⟩;replace H:((qE.f k3 ai (rd (nL l1 aa) ac)).bind fun aY=>(if aY=true then(pV.l1 k3 l1 aG ai aa (wrap64 (ac+1)) ag ae) else(if ai.length<17592186044416 then(pV.l1 k3 l1 aG (ai++[rd (nL l1 aa) ac]) aa (wrap64 (ac+1)) ag ae) else(none))))=some r:=pG b3 H
           have dB:=dm b3;clear b3;obtain⟨aY,ey,H⟩:=ow H;(try dsimp only at H)
           rcases pW H with⟨h_,H_⟩|⟨h_,H_⟩<;> (subst h_;clear H;have H:=H_;clear H_)
           ·have H':=dm H;clear H;have aC:0<=(aa:Int):=nC;have aD:aa<(l1.length:Int):=nC;obtain⟨aV,b4,b5,bp,aj,al,am⟩:=sK aT.out aa aC aD;obtain rfl:ak=aV:=(by injection bp);replace aj:=nG HB aj;have bC:=dm am;have bD:=dm al;clear am al;replace aC:=eq_true aC;replace aD:=eq_true aD;try go_wp2
            replace ah:=dm (nP ah.out);replace af:=dm (nP af.out);replace ab:=dm (oq ab.out);replace HB:=dm (pI HB.out);have bF:0<=(aa:Int):=nC;have bG:aa<(l1.length:Int):=nC;obtain⟨cF,dR,bA,cT,au,a9,a_⟩:=sK aT.out aa bF bG;have av:=au;obtain rfl:ak=cF:=(by injection cT);replace au:=nG HB au;have ba:=dm a_;have dH:=dm a9;clear a_ a9;replace bF:=eq_true bF;replace bG:=eq_true bG;have bH:0<=((ao):Int):=nC;have bI:(ao)<((nL l1 aa).length:Int):=nC;obtain⟨aW,cU,aI⟩:=oL ba.out (ao) bH bI;have aw:=aI;cases cU;replace aI:=nG HB aI;replace bH:=eq_true bH;replace bI:=eq_true bI;have bJ:0<=(aa:Int):=nC;have bK:aa<(l1.length:Int):=nC;obtain⟨cG,dS,dT,cW,ax,bd,bf⟩:=sK aT.out aa bJ bK;have ay:=ax;obtain rfl:ak=cG:=(by injection cW);replace ax:=nG HB ax;have bh:=dm bf;have dI:=dm bd;clear bf bd;replace bJ:=eq_true bJ;replace bK:=eq_true bK;have ea_:=Option.some.inj (au.symm.trans ax);injection ea_ with ea_ en_ ec_;subst ea_;subst ec_;clear en_;have bL:0<=(ac:Int):=nC;have bM:ac<((nL l1 aa).length:Int):=nC;obtain⟨eg,cX,aK⟩:=oL bh.out ac bL bM;have az:=aK;cases cX;replace aK:=nG HB aK;replace bL:=eq_true bL;replace bM:=eq_true bM;refine qc 20 (S:=fun w'=>w'.cell? (ak.add (aa).toNat)=some (.slice (some aW) (nL l1 aa).length bA)/\w'.cell? (aW.add ((ao)).toNat)=some (.int .i64 (rd (nL l1 aa) (ao)))/\w'.cell? (ak.add (aa).toNat)=some (.slice (some aW) (nL l1 aa).length bA)/\w'.cell? (aW.add (ac).toNat)=some (.int .i64 (rd (nL l1 aa) ac))) [] ⟨(nG HB av),(nG HB aw),(nG HB ay),(nG HB az)⟩ pV.zO pV.zk (fun hHeld HT_ HW_=>?_);generalize wr.drew=f6 at ah af ab HB ba bh au aI ax aK hHeld⊢;refine lq 0 55 1 ?_;refine lq 1 56 3 ?_;refine lq 2 57 7 ?_;refine lq 3 58 15 ?_;refine lq 5 60 47 ?_;refine lq 6 61 111 ?_;refine lq 9 64 623 ?_;refine lq 10 65 1647 ?_;refine lq 11 66 3695 ?_;refine lq 13 68 11887 ?_;refine nT 4 59 11903 ?_;refine lq 7 62 12031 ?_;refine nT 8 63 12287 ?_;refine nT 12 67 16383 ?_;refine lq 14 69 32767 ?_;refine nT 15 70 65535 ?_;refine oN 16 71 131071 (fun K hK=>?_);refine uw Try.func46 (oz) rfl #[.int .i64 (rd (nL l1 aa) (ao)),.int .i64 (rd (nL l1 aa) ac)] (by rfl) rfl rfl (G8) ?_;refine(tX.calls ex.out).mono ?_;rintro e f7 ⟨rfl,hb⟩;refine⟨_,rfl,?_⟩;replace ah:=oh ah hb;replace af:=oh af hb;replace ab:=nA ab hb;replace HB:=nI HB hb;(try clear hb);refine hK.out _ _ ⟨(nG HB av),(nG HB aw),(nG HB ay),(nG HB az)⟩ (fun hHeld=>?_);clear hK K;refine nX 71 ?_;refine oN 17 72 262143 (fun K hK=>?_);refine xK (w1:= ?_) (v:= ?_) (by rfl) rfl ?_ ?_;rotate_left 2
            ·go_simp
             constructor
             ·rfl
             rfl
            refine hK.out _ _ ⟨(World.cell?_alloc_lt _ _ _ (World.block_lt_of_cell? _ _ ((nG HB av)))).trans ((nG HB av)),(World.cell?_alloc_lt _ _ _ (World.block_lt_of_cell? _ _ ((nG HB aw)))).trans ((nG HB aw)),(World.cell?_alloc_lt _ _ _ (World.block_lt_of_cell? _ _ ((nG HB ay)))).trans ((nG HB ay)),(World.cell?_alloc_lt _ _ _ (World.block_lt_of_cell? _ _ ((nG HB az)))).trans ((nG HB az))⟩ (fun hHeld=>?_);clear hK K;refine nX 72 ?_;refine oN 18 73 524287 (fun K hK=>?_);refine xz k59 (w0:=w) w.heap.size (by rfl) (.tmp 55) (.tmp 72) 29 59 (.agg #[(.int .i64 0),(.int .i64 0)]) 16 rfl Try.underlying29 uS rfl (by decide) (by omega) u5 aA (⟨a3,a4⟩:S59) [.int .i64 a3,.int .i64 a4] (fun _=>True) (fun _=>False) rfl rfl ?aP (fun _ hk=>hk.elim) ?aF ?aO ?aB ?aS ?aL ?_;(case aP=>exact uH _ _ _ (⟨a3,a4⟩:S59));(case aB=>exact(ny HB.out));(case aF=>exact(fun _ _=>trivial));(case aO=>exact(nH ah.out));(case aS=>exact(ou (ny HB.out)));(case aL=>have:=dA.out;omega);intro eF f8 ho hb hg hat;rw[←dB.out]at ho;have n0:=dm (sI (nH af.out) (sJ (nH ah.out)) (by decide) hg);have n1:=pF ab hg (pM ah.out ab.out (by decide));have n2:=dm (hb);have n3:=dm (ho);clear af ab HB ah;revert n0 n1 n2 n3;intro af ab HB bE;clear ho hb hg hat;refine hK.out _ _ ⟨(nG HB av),(nG HB aw),(nG HB ay),(nG HB az)⟩ (fun hHeld=>?_);clear hK K;refine nX 73 ?_;refine lq 19 5 1048575 ?_;refine pY (p8 HT_.out (oz)) ?_;have bN:0<=(aa:Int):=nC;have bO:aa<(l1.length:Int):=nC;obtain⟨cH,dU,dV,cY,aX,bj,bk⟩:=sK aT.out aa bN bO;obtain rfl:ak=cH:=(by injection cY);replace aX:=nG HB aX;have b_:=dm bk;have dJ:=dm bj;clear bk bj;replace bN:=eq_true bN;replace bO:=eq_true bO;have bP:0<=(ac:Int):=nC;have bQ:ac<((nL l1 aa).length:Int):=nC;obtain⟨eh,cZ,bl⟩:=oL b_.out ac bP bQ;cases cZ;replace bl:=nG HB bl;replace bP:=eq_true bP;replace bQ:=eq_true bQ;obtain⟨eG,eH,eI⟩:=nY af.out;subst eI;try go_wp2_with (first|((with_reducible refine og 47 rfl ?_);refine oV 82 rfl Try.func47 (qE.calls (nS (nM af.out).2.2) ((nM af.out).2.1) ey.out) ?_;rintro e w' ⟨rfl,⟨nd,rfl⟩⟩;refine⟨_,rfl,?_⟩))
            go_roundg k3
            case measure=>have:=co.out;have:=cp.out;have:=cq.out;omega
            case rel=>exact⟨(aG),(ai),(wrap64 (ac+1)),(nQ),H',⟨AZ⟩,⟨nH bE.out⟩,⟨nH af.out⟩,⟨nE ab.out⟩,⟨ny HB.out⟩⟩
           skip
           obtain⟨dD,H⟩:=qh H;have ei:=dm dD;clear dD;obtain⟨dW,b6⟩:∃y_:List Int,y_=(ai++[rd (nL l1 aa) ac]):=⟨_,rfl⟩;replace H:(pV.l1 k3 l1 aG dW aa (wrap64 (ac+1)) ag ae)=some r:=pG b6 H
           have ej:=dm b6;clear b6;have H':=dm H;clear H;have aC:0<=(aa:Int):=nC;have aD:aa<(l1.length:Int):=nC;obtain⟨aV,b4,b5,bp,aj,al,am⟩:=sK aT.out aa aC aD;obtain rfl:ak=aV:=(by injection bp);replace aj:=nG HB aj;have bC:=dm am;have bD:=dm al;clear am al;replace aC:=eq_true aC;replace aD:=eq_true aD;try go_wp2
           replace ah:=dm (nP ah.out);replace af:=dm (nP af.out);replace ab:=dm (oq ab.out);replace HB:=dm (pI HB.out);have bF:0<=(aa:Int):=nC;have bG:aa<(l1.length:Int):=nC;obtain⟨cF,dR,bA,cT,au,a9,a_⟩:=sK aT.out aa bF bG;have av:=au;obtain rfl:ak=cF:=(by injection cT);replace au:=nG HB au;have ba:=dm a_;have dH:=dm a9;clear a_ a9;replace bF:=eq_true bF;replace bG:=eq_true bG;have bH:0<=((ao):Int):=nC;have bI:(ao)<((nL l1 aa).length:Int):=nC;obtain⟨aW,cU,aI⟩:=oL ba.out (ao) bH bI;have aw:=aI;cases cU;replace aI:=nG HB aI;replace bH:=eq_true bH;replace bI:=eq_true bI;have bJ:0<=(aa:Int):=nC;have bK:aa<(l1.length:Int):=nC;obtain⟨cG,dS,dT,cW,ax,bd,bf⟩:=sK aT.out aa bJ bK;have ay:=ax;obtain rfl:ak=cG:=(by injection cW);replace ax:=nG HB ax;have bh:=dm bf;have dI:=dm bd;clear bf bd;replace bJ:=eq_true bJ;replace bK:=eq_true bK;have ea_:=Option.some.inj (au.symm.trans ax);injection ea_ with ea_ en_ ec_;subst ea_;subst ec_;clear en_;have bL:0<=(ac:Int):=nC;have bM:ac<((nL l1 aa).length:Int):=nC;obtain⟨eg,cX,aK⟩:=oL bh.out ac bL bM;have az:=aK;cases cX;replace aK:=nG HB aK;replace bL:=eq_true bL;replace bM:=eq_true bM;refine qc 20 (S:=fun w'=>w'.cell? (ak.add (aa).toNat)=some (.slice (some aW) (nL l1 aa).length bA)/\w'.cell? (aW.add ((ao)).toNat)=some (.int .i64 (rd (nL l1 aa) (ao)))/\w'.cell? (ak.add (aa).toNat)=some (.slice (some aW) (nL l1 aa).length bA)/\w'.cell? (aW.add (ac).toNat)=some (.int .i64 (rd (nL l1 aa) ac))) [] ⟨(nG HB av),(nG HB aw),(nG HB ay),(nG HB az)⟩ pV.zO pV.zk (fun hHeld HT_ HW_=>?_);generalize wr.drew=f9 at ah af ab HB ba bh au aI ax aK hHeld⊢;refine lq 0 55 1 ?_;refine lq 1 56 3 ?_;refine lq 2 57 7 ?_;refine lq 3 58 15 ?_;refine lq 5 60 47 ?_;refine lq 6 61 111 ?_;refine lq 9 64 623 ?_;refine lq 10 65 1647 ?_;refine lq 11 66 3695 ?_;refine lq 13 68 11887 ?_;refine nT 4 59 11903 ?_;refine lq 7 62 12031 ?_;refine nT 8 63 12287 ?_;refine nT 12 67 16383 ?_;refine lq 14 69 32767 ?_;refine nT 15 70 65535 ?_;refine oN 16 71 131071 (fun K hK=>?_);refine uw Try.func46 (oz) rfl #[.int .i64 (rd (nL l1 aa) (ao)),.int .i64 (rd (nL l1 aa) ac)] (by rfl) rfl rfl (G8) ?_;refine(tX.calls ex.out).mono ?_;rintro e f_ ⟨rfl,hb⟩;refine⟨_,rfl,?_⟩;replace ah:=oh ah hb;replace af:=oh af hb;replace ab:=nA ab hb;replace HB:=nI HB hb;(try clear hb);refine hK.out _ _ ⟨(nG HB av),(nG HB aw),(nG HB ay),(nG HB az)⟩ (fun hHeld=>?_);clear hK K;refine nX 71 ?_;refine oN 17 72 262143 (fun K hK=>?_);refine xK (w1:= ?_) (v:= ?_) (by rfl) rfl ?_ ?_;rotate_left 2
           ·go_simp
            constructor
            ·rfl
            rfl
           refine hK.out _ _ ⟨(World.cell?_alloc_lt _ _ _ (World.block_lt_of_cell? _ _ ((nG HB av)))).trans ((nG HB av)),(World.cell?_alloc_lt _ _ _ (World.block_lt_of_cell? _ _ ((nG HB aw)))).trans ((nG HB aw)),(World.cell?_alloc_lt _ _ _ (World.block_lt_of_cell? _ _ ((nG HB ay)))).trans ((nG HB ay)),(World.cell?_alloc_lt _ _ _ (World.block_lt_of_cell? _ _ ((nG HB az)))).trans ((nG HB az))⟩ (fun hHeld=>?_);clear hK K;refine nX 72 ?_;refine oN 18 73 524287 (fun K hK=>?_);refine xz k59 (w0:=w) w.heap.size (by rfl) (.tmp 55) (.tmp 72) 29 59 (.agg #[(.int .i64 0),(.int .i64 0)]) 16 rfl Try.underlying29 uS rfl (by decide) (by omega) u5 aA (⟨a3,a4⟩:S59) [.int .i64 a3,.int .i64 a4] (fun _=>True) (fun _=>False) rfl rfl ?aP (fun _ hk=>hk.elim) ?aF ?aO ?aB ?aS ?aL ?_;(case aP=>exact uH _ _ _ (⟨a3,a4⟩:S59));(case aB=>exact(ny HB.out));(case aF=>exact(fun _ _=>trivial));(case aO=>exact(nH ah.out));(case aS=>exact(ou (ny HB.out)));(case aL=>have:=dA.out;omega);intro eF ga ho hb hg hat;rw[←dB.out]at ho;have n0:=dm (sI (nH af.out) (sJ (nH ah.out)) (by decide) hg);have n1:=pF ab hg (pM ah.out ab.out (by decide));have n2:=dm (hb);have n3:=dm (ho);clear af ab HB ah;revert n0 n1 n2 n3;intro af ab HB bE;clear ho hb hg hat;refine hK.out _ _ ⟨(nG HB av),(nG HB aw),(nG HB ay),(nG HB az)⟩ (fun hHeld=>?_);clear hK K;refine nX 73 ?_;refine lq 19 5 1048575 ?_;refine pY (p8 HT_.out (oz)) ?_;have bN:0<=(aa:Int):=nC;have bO:aa<(l1.length:Int):=nC;obtain⟨cH,dU,dV,cY,aX,bj,bk⟩:=sK aT.out aa bN bO;obtain rfl:ak=cH:=(by injection cY);replace aX:=nG HB aX;have b_:=dm bk;have dJ:=dm bj;clear bk bj;replace bN:=eq_true bN;replace bO:=eq_true bO;have bP:0<=(ac:Int):=nC;have bQ:ac<((nL l1 aa).length:Int):=nC;obtain⟨eh,cZ,bl⟩:=oL b_.out ac bP bQ;cases cZ;replace bl:=nG HB bl;replace bP:=eq_true bP;replace bQ:=eq_true bQ;obtain⟨dX,dY,eJ⟩:=nY af.out;subst eJ;try go_wp2_with (first|((with_reducible refine og 47 rfl ?_);refine oV 82 rfl Try.func47 (qE.calls (nS (nM af.out).2.2) ((nM af.out).2.1) ey.out) ?_;rintro e w' ⟨rfl,⟨nd,rfl⟩⟩;refine⟨_,rfl,?_⟩;have c_:0<=(aa:Int):=nC;have db:aa<(l1.length:Int):=nC;obtain⟨ek,fz,fA,eK,ca,cv,cw⟩:=sK aT.out aa c_ db;obtain rfl:ak=ek:=(by injection eK);replace ca:=nG HB ca;have dK:=dm cw;have fd:=dm cv;clear cw cv;replace c_:=eq_true c_;replace db:=eq_true db;have ea_:=Option.some.inj (aX.symm.trans ca);injection ea_ with ea_ en_ ec_;subst ea_;subst ec_;clear en_;have dc:0<=(ac:Int):=nC;have dd:ac<((nL l1 aa).length:Int):=nC;obtain⟨fK,eL,cx⟩:=oL dK.out ac dc dd;cases eL;replace cx:=nG HB cx;replace dc:=eq_true dc;replace dd:=eq_true dd)|((with_reducible refine rR (b:=.append) (xs:= #[.tmp 84,.tmp 92]) rfl ?_);(try(refine rT (by rfl) ?_;dsimp only));at_builtin;refine sU (Kd.int .i64) (w0:=w) w.heap.size rfl (.tmp 84) (.tmp 92) 45 3 (.int .i64 0) 8 rfl Try.underlying45 info3 rfl (by decide) (by omega) (.slice dX ai.length dY) ai (rd (nL l1 aa) ac) [.int .i64 (rd (nL l1 aa) ac)] (fun _=>True) (fun _=>False) rfl rfl ?aP (fun _ hk=>hk.elim) ?aF ?aO ?aB ?aS ?aL ?_;(case aP=>exact rfl);(case aB=>exact(ny HB.out));(case aF=>exact(fun _ _=>trivial));(case aO=>exact(nH af.out));(case aS=>exact(ou (ny HB.out)));(case aL=>have:=ei.out;omega);intro fQ gb ho hb hg hat;rw[←ej.out]at ho;have n0:=pF ab hg (pM af.out ab.out (by decide));have n1:=dm (sI (nH bE.out) (sJ (nH af.out)) (by decide) hg);have n2:=dm (hb);have n3:=dm (ho);clear ab bE HB af;revert n0 n1 n2 n3;intro ab bE HB el;clear ho hb hg hat))
           go_roundg k3
           case measure=>have:=co.out;have:=cp.out;have:=cq.out;omega
           case rel=>exact⟨(aG),(dW),(wrap64 (ac+1)),(nQ),H',⟨AZ⟩,⟨nH bE.out⟩,⟨nH el.out⟩,⟨nE ab.out⟩,⟨ny HB.out⟩⟩
          skip
          obtain⟨fL,H⟩:=oC H;obtain⟨cE,ez,H⟩:=ow H;(try dsimp only at H)
          rcases pW H with⟨h_,H_⟩|⟨h_,H_⟩<;> (subst h_;clear H;have H:=H_;clear H_)
          ·have H':=dm H;clear H;have aC:0<=(aa:Int):=nC;have aD:aa<(l1.length:Int):=nC;obtain⟨aV,b4,b5,bp,aj,al,am⟩:=sK aT.out aa aC aD;obtain rfl:ak=aV:=(by injection bp);replace aj:=nG HB aj;have bC:=dm am;have bD:=dm al;clear am al;replace aC:=eq_true aC;replace aD:=eq_true aD;have bR:0<=(aa:Int):=nC;have bS:aa<(l1.length:Int):=nC;obtain⟨cI,dZ,d7,de,aR,bm,bn⟩:=sK aT.out aa bR bS;obtain rfl:ak=cI:=(by injection de);replace aR:=nG HB aR;have cd:=dm bn;have dL:=dm bm;clear bn bm;replace bR:=eq_true bR;replace bS:=eq_true bS;have ea_:=Option.some.inj (aj.symm.trans aR);injection ea_ with ea_ en_ ec_;subst ea_;subst ec_;clear en_;have bT:0<=(ac:Int):=nC;have bU:ac<((nL l1 aa).length:Int):=nC;obtain⟨em,df,bo⟩:=oL cd.out ac bT bU;cases df;replace bo:=nG HB bo;replace bT:=eq_true bT;replace bU:=eq_true bU;obtain⟨eM,eN,eO⟩:=nY af.out;subst eO
           go_wp2_with (first|((with_reducible refine og 47 rfl ?_);refine oV 82 rfl Try.func47 (qE.calls (nS (nM af.out).2.2) ((nM af.out).2.1) ez.out) ?_;rintro e w' ⟨rfl,⟨nd,rfl⟩⟩;refine⟨_,rfl,?_⟩))
           go_roundg k3
           case measure=>have:=co.out;have:=cp.out;have:=cq.out;omega
           case rel=>exact⟨(aA),(ai),(wrap64 (ac+1)),(nQ),H',⟨AZ⟩,⟨nH ah.out⟩,⟨nH af.out⟩,⟨nE ab.out⟩,⟨ny HB.out⟩⟩
          skip
          obtain⟨dG,H⟩:=qh H;have en:=dm dG;clear dG;obtain⟨d8,b7⟩:∃y_:List Int,y_=(ai++[rd (nL l1 aa) ac]):=⟨_,rfl⟩;replace H:(pV.l1 k3 l1 aA d8 aa (wrap64 (ac+1)) ag ae)=some r:=pG b7 H
          have eo:=dm b7;clear b7;have H':=dm H;clear H;have aC:0<=(aa:Int):=nC;have aD:aa<(l1.length:Int):=nC;obtain⟨aV,b4,b5,bp,aj,al,am⟩:=sK aT.out aa aC aD;obtain rfl:ak=aV:=(by injection bp);replace aj:=nG HB aj;have bC:=dm am;have bD:=dm al;clear am al;replace aC:=eq_true aC;replace aD:=eq_true aD;have bR:0<=(aa:Int):=nC;have bS:aa<(l1.length:Int):=nC;obtain⟨cI,dZ,d7,de,aR,bm,bn⟩:=sK aT.out aa bR bS;obtain rfl:ak=cI:=(by injection de);replace aR:=nG HB aR;have cd:=dm bn;have dL:=dm bm;clear bn bm;replace bR:=eq_true bR;replace bS:=eq_true bS;have ea_:=Option.some.inj (aj.symm.trans aR);injection ea_ with ea_ en_ ec_;subst ea_;subst ec_;clear en_;have bT:0<=(ac:Int):=nC;have bU:ac<((nL l1 aa).length:Int):=nC;obtain⟨em,df,bo⟩:=oL cd.out ac bT bU;cases df;replace bo:=nG HB bo;replace bT:=eq_true bT;replace bU:=eq_true bU;obtain⟨d9,d_,eP⟩:=nY af.out;subst eP
          go_wp2_with (first|((with_reducible refine og 47 rfl ?_);refine oV 82 rfl Try.func47 (qE.calls (nS (nM af.out).2.2) ((nM af.out).2.1) ez.out) ?_;rintro e w' ⟨rfl,⟨nd,rfl⟩⟩;refine⟨_,rfl,?_⟩;have dg:0<=(aa:Int):=nC;have dh:aa<(l1.length:Int):=nC;obtain⟨ep,fB,fC,eQ,ce,cy,cz⟩:=sK aT.out aa dg dh;obtain rfl:ak=ep:=(by injection eQ);replace ce:=nG HB ce;have dM:=dm cz;have fe:=dm cy;clear cz cy;replace dg:=eq_true dg;replace dh:=eq_true dh;have ea_:=Option.some.inj (aj.symm.trans ce);injection ea_ with ea_ en_ ec_;subst ea_;subst ec_;clear en_;have di:0<=(ac:Int):=nC;have dj:ac<((nL l1 aa).length:Int):=nC;obtain⟨fM,eR,cA⟩:=oL dM.out ac di dj;cases eR;replace cA:=nG HB cA;replace di:=eq_true di;replace dj:=eq_true dj)|((with_reducible refine rR (b:=.append) (xs:= #[.tmp 84,.tmp 92]) rfl ?_);(try(refine rT (by rfl) ?_;dsimp only));at_builtin;refine sU (Kd.int .i64) (w0:=w) w.heap.size rfl (.tmp 84) (.tmp 92) 45 3 (.int .i64 0) 8 rfl Try.underlying45 info3 rfl (by decide) (by omega) (.slice d9 ai.length d_) ai (rd (nL l1 aa) ac) [.int .i64 (rd (nL l1 aa) ac)] (fun _=>True) (fun _=>False) rfl rfl ?aP (fun _ hk=>hk.elim) ?aF ?aO ?aB ?aS ?aL ?_;(case aP=>exact rfl);(case aB=>exact(ny HB.out));(case aF=>exact(fun _ _=>trivial));(case aO=>exact(nH af.out));(case aS=>exact(ou (ny HB.out)));(case aL=>have:=en.out;omega);intro fR gc ho hb hg hat;rw[←eo.out]at ho;have n0:=dm (sI (nH ah.out) (sJ (nH af.out)) (by decide) hg);have n1:=pF ab hg (pM af.out ab.out (by decide));have n2:=dm (hb);have n3:=dm (ho);clear ah ab HB af;revert n0 n1 n2 n3;intro ah ab HB eq;clear ho hb hg hat))
          go_roundg k3
          case measure=>have:=co.out;have:=cp.out;have:=cq.out;omega
          case rel=>exact⟨(aA),(d8),(wrap64 (ac+1)),(nQ),H',⟨AZ⟩,⟨nH ah.out⟩,⟨nH eq.out⟩,⟨nE ab.out⟩,⟨ny HB.out⟩⟩
         have H':=dm H;clear H;have aC:0<=(aa:Int):=nC;have aD:aa<(l1.length:Int):=nC;obtain⟨aV,b4,b5,bp,aj,al,am⟩:=sK aT.out aa aC aD;obtain rfl:ak=aV:=(by injection bp);replace aj:=nG HB aj;have bC:=dm am;have bD:=dm al;clear am al;replace aC:=eq_true aC;replace aD:=eq_true aD
         go_wp2
         go_roundg k3
         case measure=>have:=co.out;have:=cp.out;have:=cq.out;omega
         case rel=>exact⟨(aA),(ai),(wrap64 (aa+1)),(nQ),H',⟨AZ⟩,⟨nH ah.out⟩,⟨nH af.out⟩,⟨nE ab.out⟩,⟨ny HB.out⟩⟩
      obtain rfl:=Option.some.inj H;try go_wp2
      replace ah:=dm (nP ah.out);replace af:=dm (nP af.out);replace ab:=dm (oq ab.out);replace HB:=dm (pI HB.out);have bq:0<=(aa:Int):=nC;have br:aa<(l1.length:Int):=nC;obtain⟨ak,bu,bv,cS,aE,a5,a6⟩:=sK aT.out aa bq br;have a7:=aE;cases cS;replace aE:=nG HB aE;have a8:=dm a6;have b9:=dm a5;clear a6 a5;replace bq:=eq_true bq;replace br:=eq_true br;obtain⟨eS,eT,ea⟩:=nY ah.out;(first|subst ea|(injection ea with bx cl bz;have cm:=bx.symm;have cn:=bz.symm;clear bx cl bz;subst cm;subst cn));obtain⟨eU,eV,eb⟩:=nY af.out;(first|subst eb|(injection eb with bx cl bz;have cm:=bx.symm;have cn:=bz.symm;clear bx cl bz;subst cm;subst cn));refine qc 11 (S:=fun w'=>w'.cell? ⟨aU,0,none⟩=some (.int .i64 ag)/\w'.cell? ⟨aU,1,none⟩=some (.slice aN ae.length aQ)/\w'.cell? (ak.add (aa).toNat)=some (.slice bu (nL l1 aa).length bv)) [] ⟨nz ab 0,nz ab 1,(nG HB a7)⟩ pV.vV pV.vP (fun hHeld HT_ HW_=>?_);generalize wr.drew=ge at ah af ab HB a8 aE hHeld⊢;refine lq 1 34 2 ?_;refine lq 2 35 6 ?_;refine lq 3 36 14 ?_;refine lq 4 37 30 ?_;refine lq 5 38 62 ?_;refine lq 7 40 190 ?_;refine lq 8 41 446 ?_;refine nT 0 33 447 ?_;refine nT 6 39 511 ?_;refine oN 9 42 1023 (fun K hK=>?_);refine tT Try.func45 (oP.calls (nS (oG bW.out HB.out)) bX.out (nS (nM ah.out).2.2) ((nM ah.out).2.1) (nS (nM af.out).2.2) ((nM af.out).2.1) (nS (oG a8.out HB.out)) b9.out ew.out) ?_;intro gf hb;replace ah:=oh ah hb;replace af:=oh af hb;replace ab:=nA ab hb;replace HB:=nI HB hb;(try clear hb hk);refine hK.out _ _ ⟨nz ab 0,nz ab 1,(nG HB a7)⟩ (fun hHeld=>?_);clear hK K;refine nX 42 ?_;refine lq 10 43 2047 ?_;refine pY (p8 HT_.out (oz)) ?_;try go_wp2
      go_ret
      exact⟨qM,ny HB.out⟩
     skip
     by_cases bB:(aH.length:Int)=(ae.length:Int)
     ·rw[if_pos bB]at H;have es:=beq_iff_eq.mpr bB;have et:=bne_eq_false_iff_eq.mpr bB;have eu:(aH.length==ae.length)=true:=by first|simpa using bB|(simp at bB⊢;omega)
      clear bB;obtain rfl:=Option.some.inj H;obtain⟨fS,fT,eW⟩:=nY ah.out;subst eW;have⟨ff,fg,fh,fi⟩:=nJ (w:=wr) ab;obtain⟨fU,fV,eX⟩:=nY af.out;subst eX
      go_wp2
      go_ret
      exact⟨qM,ny HB.out⟩
     rw[if_neg bB]at H;have es:=beq_eq_false_iff_ne.mpr bB;have et:=bne_iff_ne.mpr bB;have eu:(aH.length==ae.length)=false:=by first|simpa using bB|(simp at bB⊢;omega)
     obtain rfl:=Option.some.inj H;obtain⟨fW,fX,eY⟩:=nY ah.out;subst eY;have⟨fj,fk,fm,fo⟩:=nJ (w:=wr) ab
     go_wp2
     go_ret
     exact⟨qM,ny HB.out⟩
end Go.Proofs.Ytgeonpciodepgaa.P
namespace Go.Proofs.Ytgeonpciodepgaa.P
open Go.RowKit Go.Proofs.YtgeonpciodepgaaW.PrintWords Go.Proofs.Ytgeonpciodepgaa.G Go.Proofs.YtgeonpciodepgaaW.PrintWords.Kd
def yN (t:G.Tie) (i:Nat):MapEntry:=⟨.agg #[.int .i64 t.f0,.int .i64 t.f1],.bool true,i⟩
def su:Nat->List G.Tie->List MapEntry
 |_,[]=>[]
 |i,t::r=>yN t i::su (i+1) r
def qo (l:List G.Tie):Obj:=.map (su 0 l).toArray l.length
def rM:List G.Tie->Int->Int->Bool
 |[],_,_=>false
 |t::r,a,b=>(a==t.f0&&b==t.f1)||rM r a b
theorem Jh:∀ (l:List G.Tie) (i:Nat),(su i l).length=l.length
 |[],_=>rfl
 |_::r,i=>by simp[su,Jh r]
theorem Ji (t:G.Tie):∀ (l:List G.Tie) (i:Nat),su i l++[yN t (i+l.length)]=su i (l++[t])
 |[],i=>by simp[su]
 |x::r,i=>by
  simp only [su,List.cons_append,List.length_cons]
  rw[←Ji t r (i+1)]
  simp[Nat.add_comm,Nat.add_left_comm,Nat.add_assoc]
theorem NK (l:List G.Tie) (t:G.Tie):Obj.map ((su 0 l).toArray.push (yN t l.length)) (l.length+1)=qo (l++[t]):=by
 have h:=Ji t l 0
 simp only [Nat.zero_add]at h
 simp[qo,←h]
theorem mEq (d:Nat) (w:World) (x0 y0:Int) (x1 y1:Int):
  (Op.equalIn (d+2) 59 (.agg #[.int .i64 x0,.int .i64 x1]) (.agg #[.int .i64 y0,.int .i64 y1])).run Try.prog w=.ok (x0==y0&&(x1==y1)) w:=by
 refine IP Try.underlying59 (by kernel_rfl) ?_
 refine IQ (by rfl) (by go_simp;rfl) (by go_simp;rfl) (by go_simp) ?_
 exact IR (by rfl) (by go_simp;rfl) (by go_simp;rfl) (by go_simp)
theorem Jj (w:World) (x0 y0:Int) (x1 y1:Int):
  (Op.equal 59 (.agg #[.int .i64 x0,.int .i64 x1]) (.agg #[.int .i64 y0,.int .i64 y1])).run Try.prog w=.ok (x0==y0&&(x1==y1)) w:=mEq _ w x0 y0 x1 y1
theorem Je (w:World) (a b:Int):∀ (l:List G.Tie) (i j:Nat),
  (rM l a b=false->(Instr.findAsking 59 (.agg #[.int .i64 a,.int .i64 b]) (su i l) j).run Try.prog w=.ok none w)/\
  (rM l a b=true->∃n,(Instr.findAsking 59 (.agg #[.int .i64 a,.int .i64 b]) (su i l) j).run Try.prog w=.ok (some (n,.bool true)) w)
 |[],i,j=>⟨fun _=>by simp[su,Instr.findAsking],fun h=>by simp[rM]at h⟩
 |t::r,i,j=>by
  have ih:=Je w a b r (i+1) (j+1)
  simp only [su,Instr.findAsking,rM]
  have e:(Op.equal 59 (.agg #[.int .i64 a,.int .i64 b]) (yN t i).key).run Try.prog w=.ok (a==t.f0&&(b==t.f1)) w:=Jj w a t.f0 b t.f1
  cases h:(a==t.f0&&b==t.f1)
  ·simp only [Bool.false_or]
   rw[h]at e
   refine⟨fun h1=>?_,fun h1=>?_⟩
   ·simp[Sem.run_bind,e,Result.andThen,ih.1 h1]
   obtain⟨n,hn⟩:=ih.2 h1
   exact⟨n,by simp[Sem.run_bind,e,Result.andThen,hn]⟩
  rw[h]at e
  exact⟨fun h1=>by simp at h1,fun _=>⟨j,by simp[Sem.run_bind,e,Result.andThen];rfl⟩⟩
theorem Jk (w:World) (a b:Int) (l:List G.Tie):
  (rM l a b=false->(Instr.findKey 59 (.agg #[.int .i64 a,.int .i64 b]) (su 0 l)).run Try.prog w=.ok none w)/\
  (rM l a b=true->∃n,(Instr.findKey 59 (.agg #[.int .i64 a,.int .i64 b]) (su 0 l)).run Try.prog w=.ok (some (n,.bool true)) w):=by
 have h:=Je w a b l 0 0
 unfold Instr.findKey
 cases l with
 |nil=>exact⟨fun _=>by simp[su,Instr.findNow,Sem.run_bind,run_underlying Try.underlying59,Result.andThen],fun h=>by simp[rM]at h⟩
 |cons t r=>
  refine⟨fun h1=>?_,fun h1=>?_⟩
  ·simp[Sem.run_bind,run_underlying Try.underlying59,Result.andThen,Instr.findNow,su,Instr.sameNow]
   simpa [su] using h.1 h1
  obtain⟨n,hn⟩:=h.2 h1
  exact⟨n,by
   simp[Sem.run_bind,run_underlying Try.underlying59,Result.andThen,Instr.findNow,su,Instr.sameNow]
   simpa [su] using hn⟩
theorem Dl (w:World) (em:Bool) (a b:Int):(Instr.checkKey em 10000 59 (.agg #[.int .i64 a,.int .i64 b])).run Try.prog w=.ok () w:=by
 have c:∀x:Int,(Instr.checkKey em 9999 3 (.int .i64 x)).run Try.prog w=.ok () w:=fun x=>MapKept.run_checkKey (k:=.int .i64 x) Try.underlying3 (show MapKept.IsKey (.int .i64) (.int .i64 x) from rfl) em 9998
 unfold Instr.checkKey
 simp[Sem.run_bind,run_underlying Try.underlying59,Result.andThen]
 have p0:(part 3 #[Value.int IntKind.i64 a,Value.int IntKind.i64 b] 0).run Try.prog w=.ok (.int .i64 a) w:=by go_simp
 have p1:(part 3 #[Value.int IntKind.i64 a,Value.int IntKind.i64 b] 1).run Try.prog w=.ok (.int .i64 b) w:=by go_simp
 simp[p0,p1,c]
theorem NJ {w:World}{g:Nat}{l:List G.Tie}(hb:w.heap[g]? =some (qo l)) (a b:Int):
  (Instr.lookup 69 (.map (some g)) (.agg #[.int .i64 a,.int .i64 b]) false).run Try.prog w=.ok (.bool (rM l a b)) w:=by
 have hf:=Jk w a b l
 cases h:rM l a b
 ·have z:(zeroValue 4).run Try.prog w=.ok (.bool false) w:=by kernel_rfl
  simp[Instr.lookup,run_underlying Try.underlying69,MapKept.run_getObj_map hb,Dl,hf.1 h,z,Result.andThen,Sem.run_bind]
 obtain⟨n,hn⟩:=hf.2 h
 simp[Instr.lookup,run_underlying Try.underlying69,MapKept.run_getObj_map hb,Dl,hn,Result.andThen,Sem.run_bind]
theorem Jl {w:World}{g:Nat}{l:List G.Tie}(hb:w.heap[g]? =some (qo l)) (t:G.Tie) (h:rM l t.f0 t.f1=false):
  ∃w1,(Instr.mapUpdate 69 (.map (some g)) (.agg #[.int .i64 t.f0,.int .i64 t.f1]) (.bool true)).run Try.prog w=.ok () w1/\w1.heap[g]? =some (qo (l++[t]))/\w.grownBy w1 (some g):=by
 have hf:=(Jk w t.f0 t.f1 l).1 h
 refine⟨ChangeMaps.setBlock w g (qo (l++[t])),?_,ChangeMaps.heap_setBlock_same hb _,⟨rfl,rfl,rfl,by simp[ChangeMaps.setBlock],fun i _ hi=>ChangeMaps.heap_setBlock_other hb _ (fun e=>hi (by rw[e]))⟩⟩
 rw[←NK]
 simp[Instr.mapUpdate,run_underlying Try.underlying69,MapKept.run_getObj_map hb,Dl,hf,MapKept.run_setObj_map _ hb,Result.andThen,Sem.run_bind,ChangeMaps.setBlock,yN]
theorem NI {w:World}{g:Nat}{l:List G.Tie}(hb:w.heap[g]? =some (qo l)) (ty:TypeId):(Builtin.len_ #[69] ty #[.map (some g)]).run Try.prog w=.ok (.int .i64 l.length) w:=by
 simp[Builtin.len_,run_underlying Try.underlying69,MapKept.run_getObj_map hb,Result.andThen,Sem.run_bind,goInt,Jh]
section
variable {ops:Array Oper}{rest:List Oper}{o:Oper}{a:Act}{Q:Exit->Act->World->Prop}{W:World}{g:Nat}{l:List G.Tie}{x0 x1:Int}
theorem Fu (N:Tmp) (h:∀g,g=W.heap.size->∀w1,w1.heap[g]? =some (qo [])->Below W.heap.size W w1->wpList Try.prog ops Q rest (a.put o.dst (.map (some g))) w1)
  (hd:o.dst=some N:=by with_reducible rfl) (hg:o.guard=none:=by rfl) (hop:o.op=.makeMap 69 none:=by rfl):wpList Try.prog ops Q (o::rest) a W:=by
 refine wpList_plain hg fun K' hK'=>?_
 unfold Oper.wp
 have hr:(Instr.makeMap 69 none).run Try.prog W=.ok (.map (some W.heap.size)) (W.alloc (qo [])):=rfl
 simp only [execOp,hop]
 simp[hr,Result.andThen]
 exact hK' _ _ (h _ rfl _ (AR W (qo [])) (Below.alloc (Below.refl W.heap.size W) (Nat.le_refl _) _))
theorem Ag (N:Tmp) {m x:Operand}{b:Bool}(hb:W.heap[g]? =some (qo l)) (he:rM l x0 x1=b) (h:wpList Try.prog ops Q rest (a.put o.dst (.bool b)) W)
  (hd:o.dst=some N:=by with_reducible rfl) (hg:o.guard=none:=by rfl) (hop:o.op=.lookup 69 m x false:=by rfl)
  (hm:a.eval m=.map (some g):=by rfl) (hx:a.eval x=.agg #[.int .i64 x0,.int .i64 x1]:=by rfl):wpList Try.prog ops Q (o::rest) a W:=by
 refine wpList_plain hg fun K' hK'=>?_
 unfold Oper.wp
 simp[execOp,hop,hm,hx,NJ hb,he,Result.andThen]
 exact hK' _ _ h
theorem Jm (N:Tmp) {m:Operand}(hb:W.heap[g]? =some (qo l)) (h:wpList Try.prog ops Q rest (a.put o.dst (.int .i64 l.length)) W)
  (hd:o.dst=some N:=by with_reducible rfl) (hg:o.guard=none:=by rfl) (hop:o.op=.call {callee:=.builtin .len,args:= #[m],argTypes:= #[69]}:=by rfl)
  (hm:a.eval m=.map (some g):=by rfl):wpList Try.prog ops Q (o::rest) a W:=by
 refine wpList_plain hg fun K' hK'=>?_
 unfold Oper.wp
 have hl:=NI hb
 simp only [execOp,hop,hm,resolve,Sem.run_bind,Sem.run_pure,Result.andThen_ok,List.map_toArray,List.map_cons,List.map_nil,invoke,builtin,hl]
 exact hK' _ _ h
theorem NM {m x v:Operand}(hb:W.heap[g]? =some (qo l)) (hn:rM l x0 x1=false)
  (h:∀w1,w1.heap[g]? =some (qo (l++[⟨x0,x1⟩]))->W.grownBy w1 (some g)->wpList Try.prog ops Q rest (a.put o.dst undef) w1)
  (hop:o.op=.mapUpdate 69 m x v:=by rfl) (hg:o.guard=none:=by rfl)
  (hm:a.eval m=.map (some g):=by rfl) (hx:a.eval x=.agg #[.int .i64 x0,.int .i64 x1]:=by rfl) (hv:a.eval v=.bool true:=by rfl):wpList Try.prog ops Q (o::rest) a W:=by
 refine wpList_plain hg fun K' hK'=>?_
 obtain⟨w1,hr,h1,h2⟩:=Jl hb ⟨x0,x1⟩ hn
 unfold Oper.wp
 simp[execOp,hop,hm,hx,hv,hr,Result.andThen]
 exact hK' _ _ (h _ h1 h2)
end
section
variable {α:Type}{d:Kd α}{e base:Nat}{ok:Nat->Prop}{w:World}{v:Value}{xs:List α}{g:Nat}{l:List G.Tie}
theorem mNe (h:d.R e w base ok v xs) (hb:w.heap[g]? =some (qo l)):some g≠v.ownBlock:=fun he=>by
 obtain⟨cells,hc⟩:=sJ h g he.symm
 rw[hb]at hc
 simp[qo]at hc
theorem Dm (h:d.R e w base ok v xs) (hb:w.heap[g]? =some (qo l)):d.R e w base (fun k=>ok k/\k≠g) v xs:=
 nK (vW h) (fun k hk=>⟨hk.1,by
  obtain⟨_,_,_,q,hq,cells',hc⟩:=hk
  rintro rfl
  rw[hc]at hb
  simp[qo]at hb⟩)
theorem uz {w:World}(h:w.heap[g]? =some (qo l)) {p:Addr}(hp:g≠p.block) (u:Value):(w.setCell p u).heap[g]? =some (qo l):=(Below.heap_setCell w p u g hp).trans h
theorem Dk {w0 w w1:World}(h:Below w0.heap.size w0 w) (hg:w.grownBy w1 (some g)) (hge:w0.heap.size<=g):Below w0.heap.size w0 w1:=
 ⟨hg.os.trans h.os,hg.tape.trans h.tape,hg.output.trans h.output,Nat.le_trans h.size hg.size,fun k hk=>(hg.block k (Nat.lt_of_lt_of_le hk h.size) (fun e=>by injection e with e;omega)).trans (h.block k hk)⟩
end
end Go.Proofs.Ytgeonpciodepgaa.P
namespace Go.Proofs.Ytgeonpciodepgaa.P
set_option maxHeartbeats 8000000
set_option maxRecDepth 100000
open Go.RowKit Go.Proofs.YtgeonpciodepgaaW.PrintWords Go.Proofs.YtgeonpciodepgaaW.PrintLast Go.Proofs.YtgeonpciodepgaaW.PrintMore Go.Proofs.YtgeonpciodepgaaW.PrintWords.Kd Go.Proofs.YtgeonpciodepgaaW.PrintMore.Kd
attribute [local go_sem] wH wM wK wP wJ wO wI wN
variable {p:Prop}
theorem GU(h:p:=by(try simp only [List.map_toArray,List.map_cons,List.map_nil]);first|done|(simp only [aQ];rfl)|rfl|(simp only [List.length_drop,List.length_take];rfl)):p:=h
theorem Ci(h:p:=by rw[hg];exact Nat.ne_of_lt (oU (g:=aw) (o:=.cells #[.int .i64 ac,.slice (some bq) aa.length aG] 31 (0,0)) (nE ai.out))):p:=h
theorem Cj(h:p:=by rw[hg];exact Nat.ne_of_gt (oU (g:=aw) (o:=.cells #[.int .i64 ac,.slice (some bq) aa.length aG] 31 (0,0)) (nE ai.out))):p:=h
attribute [local go_sem high] CX
def sN.l0:Nat->Int->List Int->Int->Int->Option (Int)
 |0,_,_,_,_=>none
 |k+1,x3,x6,x7,x8=>if x8<x7 then(if 0<=x8 then(if x8<(x6.length:Int) then(if(rd x6 x8)=x3 then(sN.l0 k x3 x6 x7 (wrap64 (x8+1))) else(some (rd x6 x8))) else(none)) else(none)) else(some x3)
def sN.f (k:Nat) (l0:List Int):Option (Int):=sN.l0 k 0 l0 (l0.length:Int) 0
theorem sN.tO:∀k,(∀y0 y1 y2 y3,LeO (sN.l0 k y0 y1 y2 y3) (sN.l0 (k+1) y0 y1 y2 y3))
 |0=>fun _ _ _ _ r h=>by simp[sN.l0]at h
 |k+1=>by intros;unfold sN.l0;exact uB (sN.tO k)
theorem sN.mono:∀a0 k,LeO (sN.f k a0) (sN.f (k+1) a0):=by intro a0 k;unfold sN.f;exact uB (sN.tO k)
theorem sN.calls {k:Nat}{A0:Option Addr}{c0:Nat}{l0:List Int}{r:Int}{w:World}(a7:Kd.C (Kd.int .i64) w A0 l0.length l0)(a8:l0.length<=c0)(h:sN.f k l0=some r):
  Calls Try.prog 109 #[.slice A0 l0.length c0] w fun e w'=>e=.returned (.int .i64 r)/\oK w w':=by
 have a6:=dm a7;have cf:=dm a8;clear a7 a8;unfold sN.f at h;have H:=h;clear h;have H':=dm H;clear H
 go_enter Try.func109,Try.ntmps109
 go_wp2
 go_loopg [8] k (fun kq v8 w'=>∃ (ab:Int),v8=.int .i64 ab/\lm (sN.l0 kq 0 l0 (l0.length:Int) ab=some r)/\lm (kq<=k)/\oK w w')
 case atStart=>exact⟨(0),(nQ),H',⟨Nat.le_refl _⟩,by repeat(first|exact oK.refl _|apply oK.step)⟩
 case round=>
  clear H';try clear c1
  obtain⟨ab,rfl,HA,bA,⟨m1,rfl⟩⟩:=hrel;cases gk with
  |zero=>exact absurd HA.out (by simp[sN.l0])
  |succ k1=>
   have H:=HA.out;clear HA;simp only [sN.l0]at H
   replace H:=pU H;rcases H with⟨b5,H⟩|⟨b5,H⟩
   ·skip
    obtain⟨eq,H⟩:=oC H
    obtain⟨aY,H⟩:=oC H
    by_cases c5:(rd l0 ab)=0
    ·rw[if_pos c5]at H;have b6:=beq_iff_eq.mpr c5;have cT:=bne_eq_false_iff_eq.mpr c5;clear c5;have H':=dm H;clear H;have bd:0<=(ab:Int):=nC;have bf:ab<(l0.length:Int):=nC;obtain⟨cD,b7,cm⟩:=oL a6.out ab bd bf;cases b7;replace bd:=eq_true bd;replace bf:=eq_true bf
     go_wp2
     go_roundg k1
     case measure=>have:=bA.out;omega
     case rel=>exact⟨(wrap64 (ab+1)),(nQ),H',⟨by have:=bA.out;omega⟩,by repeat(first|exact oK.refl _|apply oK.step)⟩
    rw[if_neg c5]at H;have b6:=beq_eq_false_iff_ne.mpr c5;have cT:=bne_iff_ne.mpr c5;obtain rfl:=Option.some.inj H;have bd:0<=(ab:Int):=nC;have bf:ab<(l0.length:Int):=nC;obtain⟨cD,b7,cm⟩:=oL a6.out ab bd bf;cases b7;replace bd:=eq_true bd;replace bf:=eq_true bf
    go_wp2
    go_ret
    exact⟨nQ,by repeat(first|exact oK.refl _|apply oK.step)⟩
   obtain rfl:=Option.some.inj H
   go_wp2
   go_ret
   exact⟨nQ,by repeat(first|exact oK.refl _|apply oK.step)⟩
def cmp_isNaN_int.f (a0:Int):Option (Bool):=some (a0 !=a0)
theorem cmp_isNaN_int.calls {a0:Int}{r:Bool}{w:World}(h:cmp_isNaN_int.f a0=some r):
  Calls Try.prog 129 #[.int .i64 a0] w fun e w'=>e=.returned (.bool r)/\oK w w':=by
 unfold cmp_isNaN_int.f at h;have H:=h;clear h;obtain rfl:=Option.some.inj H
 go_enter Try.func129,Try.ntmps129
 go_wp2
 go_ret
 exact⟨nQ,by repeat(first|exact oK.refl _|apply oK.step)⟩
def cmp_Compare_int.f (a0:Int) (a1:Int):Option (Int):=(cmp_isNaN_int.f a0).bind fun bh=>((cmp_isNaN_int.f a1).bind fun aD=>(if bh=true then(if aD=true then(some 0) else(some (-1))) else(if aD=true then(some 1) else(if a0<a1 then(some (-1)) else(if a0>a1 then(some 1) else(some 0))))))
theorem cmp_Compare_int.calls {a0:Int}{a1:Int}{r:Int}{w:World}(h:cmp_Compare_int.f a0 a1=some r):
  Calls Try.prog 110 #[.int .i64 a0,.int .i64 a1] w fun e w'=>e=.returned (.int .i64 r)/\oK w w':=by
 unfold cmp_Compare_int.f at h;have H:=h;clear h;obtain⟨bh,A3,H⟩:=ow H;(try dsimp only at H);obtain⟨aD,A4,H⟩:=ow H;(try dsimp only at H)
 rcases pW H with⟨h_,H_⟩|⟨h_,H_⟩<;> (subst h_;clear H;have H:=H_;clear H_)
 ·skip
  rcases pW H with⟨h_,H_⟩|⟨h_,H_⟩<;> (subst h_;clear H;have H:=H_;clear H_)
  ·obtain rfl:=Option.some.inj H
   go_enter Try.func110,Try.ntmps110
   go_wp2_with (first|((with_reducible refine og 129 rfl ?_);refine oV 8 rfl Try.func129 (cmp_isNaN_int.calls A3.out) ?_;rintro e w' ⟨rfl,⟨nd,rfl⟩⟩;refine⟨_,rfl,?_⟩)|((with_reducible refine og 129 rfl ?_);refine oV 10 rfl Try.func129 (cmp_isNaN_int.calls A4.out) ?_;rintro e w' ⟨rfl,⟨nd,rfl⟩⟩;refine⟨_,rfl,?_⟩))
   go_ret
   exact⟨nQ,by repeat(first|exact oK.refl _|apply oK.step)⟩
  obtain rfl:=Option.some.inj H
  go_enter Try.func110,Try.ntmps110
  go_wp2_with (first|((with_reducible refine og 129 rfl ?_);refine oV 8 rfl Try.func129 (cmp_isNaN_int.calls A3.out) ?_;rintro e w' ⟨rfl,⟨nd,rfl⟩⟩;refine⟨_,rfl,?_⟩)|((with_reducible refine og 129 rfl ?_);refine oV 10 rfl Try.func129 (cmp_isNaN_int.calls A4.out) ?_;rintro e w' ⟨rfl,⟨nd,rfl⟩⟩;refine⟨_,rfl,?_⟩))
  go_ret
  exact⟨nQ,by repeat(first|exact oK.refl _|apply oK.step)⟩
 skip
 rcases pW H with⟨h_,H_⟩|⟨h_,H_⟩<;> (subst h_;clear H;have H:=H_;clear H_)
 ·obtain rfl:=Option.some.inj H
  go_enter Try.func110,Try.ntmps110
  go_wp2_with (first|((with_reducible refine og 129 rfl ?_);refine oV 8 rfl Try.func129 (cmp_isNaN_int.calls A3.out) ?_;rintro e w' ⟨rfl,⟨nd,rfl⟩⟩;refine⟨_,rfl,?_⟩)|((with_reducible refine og 129 rfl ?_);refine oV 10 rfl Try.func129 (cmp_isNaN_int.calls A4.out) ?_;rintro e w' ⟨rfl,⟨nd,rfl⟩⟩;refine⟨_,rfl,?_⟩))
  go_ret
  exact⟨nQ,by repeat(first|exact oK.refl _|apply oK.step)⟩
 skip
 replace H:=pU H;rcases H with⟨b8,H⟩|⟨b8,H⟩
 ·obtain rfl:=Option.some.inj H
  go_enter Try.func110,Try.ntmps110
  go_wp2_with (first|((with_reducible refine og 129 rfl ?_);refine oV 8 rfl Try.func129 (cmp_isNaN_int.calls A3.out) ?_;rintro e w' ⟨rfl,⟨nd,rfl⟩⟩;refine⟨_,rfl,?_⟩)|((with_reducible refine og 129 rfl ?_);refine oV 10 rfl Try.func129 (cmp_isNaN_int.calls A4.out) ?_;rintro e w' ⟨rfl,⟨nd,rfl⟩⟩;refine⟨_,rfl,?_⟩))
  go_ret
  exact⟨nQ,by repeat(first|exact oK.refl _|apply oK.step)⟩
 skip
 replace H:=pU H;rcases H with⟨b9,H⟩|⟨b9,H⟩
 ·obtain rfl:=Option.some.inj H
  go_enter Try.func110,Try.ntmps110
  go_wp2_with (first|((with_reducible refine og 129 rfl ?_);refine oV 8 rfl Try.func129 (cmp_isNaN_int.calls A3.out) ?_;rintro e w' ⟨rfl,⟨nd,rfl⟩⟩;refine⟨_,rfl,?_⟩)|((with_reducible refine og 129 rfl ?_);refine oV 10 rfl Try.func129 (cmp_isNaN_int.calls A4.out) ?_;rintro e w' ⟨rfl,⟨nd,rfl⟩⟩;refine⟨_,rfl,?_⟩))
  go_ret
  exact⟨nQ,by repeat(first|exact oK.refl _|apply oK.step)⟩
 obtain rfl:=Option.some.inj H
 go_enter Try.func110,Try.ntmps110
 go_wp2_with (first|((with_reducible refine og 129 rfl ?_);refine oV 8 rfl Try.func129 (cmp_isNaN_int.calls A3.out) ?_;rintro e w' ⟨rfl,⟨nd,rfl⟩⟩;refine⟨_,rfl,?_⟩)|((with_reducible refine og 129 rfl ?_);refine oV 10 rfl Try.func129 (cmp_isNaN_int.calls A4.out) ?_;rintro e w' ⟨rfl,⟨nd,rfl⟩⟩;refine⟨_,rfl,?_⟩))
 go_ret
 exact⟨nQ,by repeat(first|exact oK.refl _|apply oK.step)⟩
def t_.f (k:Nat) (ac:Int) (aI:Int) (ah:Int) (ag:Int):Option (Int):=(cmp_Compare_int.f ac ah).bind fun aK=>((cmp_Compare_int.f aI ag).bind fun aH=>((sN.f k (([aK,aH]:List Int))).bind fun aL=>(some aL)))
theorem t_.mono:∀a0 a1 a2 a3 k,LeO (t_.f k a0 a1 a2 a3) (t_.f (k+1) a0 a1 a2 a3):=by intros;unfold t_.f;exact uB sN.mono
def t_.T1:Bool×List (List Nat×List Nat):=(true,[([],[]),([0],[0]),([],[]),([2],[2]),([1,3],[1,3]),([],[]),([5],[5]),([],[]),([7],[7]),([6,8,4],[6,8]),([4,9],[4,9]),([10,9],[10]),([11,11,0,1,2,3,4,5,6,7,8,9,10,11],[11])])
def t_.B1:List Nat:=[0,1,0,4,15,0,32,0,128,511,1023,2047,4095]
theorem t_.FR:qj .any (opsOf Try.f80 1)=t_.T1:=by kernel_rfl
theorem t_.Eo:qV t_.T1.2 t_.B1=true:=by kernel_rfl
theorem t_.calls {k:Nat}{ac:Int}{aI:Int}{ah:Int}{ag:Int}{r:Int}{w:World}(h:t_.f k ac aI ah ag=some r):
  Calls Try.prog 80 #[.agg #[.int .i64 ac,.int .i64 aI],.agg #[.int .i64 ah,.int .i64 ag]] w fun e w'=>e=.returned (.int .i64 r)/\Below w.heap.size w w':=by
 have bF:=Try.underlying59;have HB:=dm (Below.refl w.heap.size w);unfold t_.f at h;have H:=h;clear h;obtain⟨aK,A3,H⟩:=ow H;(try dsimp only at H);obtain⟨aH,A4,H⟩:=ow H;(try dsimp only at H);obtain⟨b_,br⟩:∃y_:List Int,y_=(([aK,aH]:List Int)):=⟨_,rfl⟩;replace H:((sN.f k b_).bind fun aL=>(some aL))=some r:=pG br H
 have cg:=dm br;clear br;obtain⟨aL,A5,H⟩:=ow H;(try dsimp only at H);obtain rfl:=Option.some.inj H
 go_enter Try.func80,Try.ntmps80;try go_wp2_with (first|((with_reducible refine nU 2 rfl ?_);refine oI #[.int .i64 ac,.int .i64 aI] 59 ?_;intro aP hg w6 nu hb;have ak:=dm (nu);have dV:=dm (nO:w.heap.size<=aP);have dW:=dm (nO:w.heap.size<=aP);replace HB:=nI HB hb;clear hb nu hg)|((with_reducible refine nU 3 rfl ?_);refine oI #[.int .i64 ah,.int .i64 ag] 59 ?_;intro a_ hg w7 nu hb;have am:=dm (nu);have dX:=dm (nO:w.heap.size<=a_);have dY:=dm (nO:w.heap.size<=a_);replace HB:=nI HB hb;have cI:=dm ((by rw[hg];exact Nat.ne_of_lt (oU (g:=aP) (o:=.cells #[.int .i64 ac,.int .i64 aI] 59 (0,0)) (nE ak.out)):aP≠a_));have cJ:=dm ((by rw[hg];exact Nat.ne_of_gt (oU (g:=aP) (o:=.cells #[.int .i64 ac,.int .i64 aI] 59 (0,0)) (nE ak.out)):a_≠aP));replace ak:=nA ak hb;clear hb nu hg))
 replace ak:=dm (oq ak.out);replace am:=dm (oq am.out);replace HB:=dm (pI HB.out);refine qc 13 (S:=fun w'=>w'.cell? ⟨aP,0,none⟩=some (.int .i64 ac)/\w'.cell? ⟨aP,1,none⟩=some (.int .i64 aI)/\w'.cell? ⟨a_,0,none⟩=some (.int .i64 ah)/\w'.cell? ⟨a_,1,none⟩=some (.int .i64 ag)) [] ⟨nz ak 0,nz ak 1,nz am 0,nz am 1⟩ t_.FR t_.Eo (fun hHeld HT_ HW_=>?_);generalize w7.drew=w8 at ak am HB hHeld⊢;refine lq 0 5 1 ?_;refine lq 2 7 5 ?_;refine lq 5 10 37 ?_;refine lq 7 12 165 ?_;refine nT 1 6 167 ?_;refine nT 3 8 175 ?_;refine nT 6 11 239 ?_;refine nT 8 13 495 ?_;refine oN 4 9 511 (fun K hK=>?_);refine qd Try.func110 (cmp_Compare_int.calls A3.out) ?_;rintro e w' ⟨rfl,⟨nd,rfl⟩⟩;refine⟨_,rfl,?_⟩;refine hK.out _ _ ⟨nz ak 0,nz ak 1,nz am 0,nz am 1⟩ (fun hHeld=>?_);clear hK K;refine nX 9 ?_;refine oN 9 14 1023 (fun K hK=>?_);refine qd Try.func110 (cmp_Compare_int.calls A4.out) ?_;rintro e w' ⟨rfl,⟨nd,rfl⟩⟩;refine⟨_,rfl,?_⟩;refine hK.out _ _ ⟨nz ak 0,nz ak 1,nz am 0,nz am 1⟩ (fun hHeld=>?_);clear hK K;refine nX 14 ?_;refine oN 10 15 2047 (fun K hK=>?_);refine zR (Kd.int .i64) _ 3 ?hg (N:=15) ?hd (xs:=([aK,aH]:List Int)) (inner:=[.int .i64 aK,.int .i64 aH]) (ok:=fun _=>True) (okp:=fun _=>True) ?hr ?hp (fun _ hk=>hk) trivial (Below.refl _ _) (Nat.le_refl _) (by simp) ?_;(case hd=>rfl);(case hg=>rfl);(case hr=>first|(go_simp;done)|(go_simp;rfl));(case hp=>exact(oF.one (show Kd.M (Kd.int .i64) _ _ _ aK [.int .i64 aK] from rfl) (oF.one (show Kd.M (Kd.int .i64) _ _ _ aH [.int .i64 aH] from rfl) (oF.none _ _))));intro es w9 bG hb hg_ pE;clear hg_ pE;(first|rw[←cg.out]at bG|(simp only [Int.reduceToNat]at bG;rw[←cg.out]at bG));have bN:=dm (oJ bG (ou (ny HB.out)));replace ak:=nA ak hb;replace am:=nA am hb;replace HB:=nI HB hb;clear hb bG;obtain⟨cU,cW,co⟩:=nY bN.out;(first|subst co|(injection co with cL dI cM;have dJ:=cL.symm;have dK:=cM.symm;clear cL dI cM;subst dJ;subst dK));refine hK.out _ _ ⟨nz ak 0,nz ak 1,nz am 0,nz am 1⟩ (fun hHeld=>?_);clear hK K;refine nX 15 ?_;refine oN 11 16 4095 (fun K hK=>?_);refine qd Try.func109 (sN.calls (nS (nM bN.out).2.2) ((nM bN.out).2.1) A5.out) ?_;rintro e w' ⟨rfl,⟨nd,rfl⟩⟩;refine⟨_,rfl,?_⟩;refine hK.out _ _ ⟨nz ak 0,nz ak 1,nz am 0,nz am 1⟩ (fun hHeld=>?_);clear hK K;refine nX 16 ?_;refine lq 12 4 8191 ?_;refine pY (p8 HT_.out (oz)) ?_;try go_wp2
 go_ret
 exact⟨qM,ny HB.out⟩
def ry.l0:Nat->List (S59)->Int->Option (Bool)
 |0,_,_=>none
 |k+1,x0,x3=>if x3<(x0.length:Int) then(if 0<=(wrap64 (x3 - 1)) then(if(wrap64 (x3 - 1))<(x0.length:Int) then(if 0<=x3 then((t_.f k ((nk x0 (wrap64 (x3 - 1))).f0) ((nk x0 (wrap64 (x3 - 1))).f1) ((nk x0 x3).f0) ((nk x0 x3).f1)).bind fun aR=>(if aR>=0 then(some false) else(ry.l0 k x0 (wrap64 (x3+1))))) else(none)) else(none)) else(none)) else(some true)
def ry.f (k:Nat) (l0:List (S59)):Option (Bool):=ry.l0 k l0 1
theorem ry.tO:∀k,(∀y0 y1,LeO (ry.l0 k y0 y1) (ry.l0 (k+1) y0 y1))
 |0=>fun _ _ r h=>by simp[ry.l0]at h
 |k+1=>by intros;unfold ry.l0;exact uB (ry.tO k) t_.mono
theorem ry.mono:∀a0 k,LeO (ry.f k a0) (ry.f (k+1) a0):=by intro a0 k;unfold ry.f;exact uB (ry.tO k) t_.mono
def ry.T4:Bool×List (List Nat×List Nat):=(true,[([],[]),([],[]),([1],[1]),([0,2],[0,2]),([3],[3]),([],[]),([],[]),([5,6],[5,6]),([7],[7]),([4,8],[4,8]),([9],[9])])
def ry.B4:List Nat:=[0,0,2,7,15,0,0,96,224,511,1023]
theorem ry.xV:qj .any (opsOf Try.f88 4)=ry.T4:=by kernel_rfl
theorem ry.xO:qV ry.T4.2 ry.B4=true:=by kernel_rfl
theorem ry.calls {k:Nat}{A0:Option Addr}{c0:Nat}{l0:List (S59)}{r:Bool}{w:World}(a7:Kd.C k59 w A0 l0.length l0)(a8:l0.length<=c0)(h:ry.f k l0=some r):
  Calls Try.prog 88 #[.slice A0 l0.length c0] w fun e w'=>e=.returned (.bool r)/\Below w.heap.size w w':=by
 have bF:=Try.underlying59;have a6:=dm a7;have cf:=dm a8;clear a7 a8;have HB:=dm (Below.refl w.heap.size w);unfold ry.f at h;have H:=h;clear h;have H':=dm H;clear H
 go_enter Try.func88,Try.ntmps88
 go_wp2
 go_loopg [3] k (fun kq v3 w'=>∃ (af:Int),v3=.int .i64 af/\lm (ry.l0 kq l0 af=some r)/\lm (kq<=k)/\lm (Below w.heap.size w w'))
 case atStart=>exact⟨(1),(nQ),H',⟨Nat.le_refl _⟩,⟨ny HB.out⟩⟩
 case round=>
  clear H';obtain⟨af,rfl,HA,bA,HB⟩:=hrel;cases gk with
  |zero=>exact absurd HA.out (by simp[ry.l0])
  |succ k1=>
   have H:=HA.out;clear HA;simp only [ry.l0]at H
   replace H:=pU H;rcases H with⟨b5,H⟩|⟨b5,H⟩
   ·obtain⟨aj,aQ⟩:∃j_:Int,(wrap64 (af - 1))=j_:=⟨_,rfl⟩;replace H:(if 0<=(aj) then(if(aj)<(l0.length:Int) then(if 0<=af then((t_.f k1 ((nk l0 (aj)).f0) ((nk l0 (aj)).f1) ((nk l0 af).f0) ((nk l0 af).f1)).bind fun aR=>(if aR>=0 then(some false) else(ry.l0 k1 l0 (wrap64 (af+1))))) else(none)) else(none)) else(none))=some r:=by first|(rw[aQ]at H;exact H)|(simp only [aQ]at H⊢;exact H)
    have dZ:(IntKind.i64.wrap (af - 1))=aj:=(qP _).trans aQ
    obtain⟨aY,H⟩:=oC H
    obtain⟨b6,H⟩:=oC H
    obtain⟨cX,H⟩:=oC H;obtain⟨aR,A7,H⟩:=ow H;(try dsimp only at H)
    replace H:=pU H;rcases H with⟨b8,H⟩|⟨b8,H⟩
    ·obtain rfl:=Option.some.inj H;try go_wp2
     replace HB:=dm (pI HB.out);have bj:0<=((aj):Int):=nC;have bk:(aj)<(l0.length:Int):=nC;obtain⟨av,ca,az,aA⟩:=qA a6.out (aj) bj bk;have aS:=aA;have aT:=az;cases ca;replace az:=nG HB az;replace aA:=nG HB aA;replace bj:=eq_true bj;replace bk:=eq_true bk;have bl:0<=(af:Int):=nC;have bm:af<(l0.length:Int):=nC;obtain⟨bO,cd,aB,aC⟩:=qA a6.out af bl bm;have aU:=aC;have aV:=aB;obtain rfl:av=bO:=(by injection cd);replace aB:=nG HB aB;replace aC:=nG HB aC;replace bl:=eq_true bl;replace bm:=eq_true bm;refine qc 11 (S:=fun w'=>w'.cell? (av.add (((aj)).toNat*2))=some (.int .i64 ((nk l0 (aj)).f0))/\w'.cell? ⟨(av.add (((aj)).toNat*2)).block,(av.add (((aj)).toNat*2)).off+1,none⟩=some (.int .i64 ((nk l0 (aj)).f1))/\w'.cell? (av.add ((af).toNat*2))=some (.int .i64 ((nk l0 af).f0))/\w'.cell? ⟨(av.add ((af).toNat*2)).block,(av.add ((af).toNat*2)).off+1,none⟩=some (.int .i64 ((nk l0 af).f1))) [] ⟨(nG HB aT),(nG HB aS),(nG HB aV),(nG HB aU)⟩ ry.xV ry.xO (fun hHeld HT_ HW_=>?_);generalize wr.drew=w9 at HB az aA aB aC hHeld⊢;refine lq 0 10 1 ?_;refine lq 1 11 3 ?_;refine lq 2 12 7 ?_;refine lq 3 13 15 ?_;refine lq 5 15 47 ?_;refine lq 6 16 111 ?_;refine lq 7 17 239 ?_;refine nT 4 14 255 ?_;refine nT 8 18 511 ?_;refine oN 9 19 1023 (fun K hK=>?_);refine uw Try.func80 (oz) rfl #[.agg #[.int .i64 ((nk l0 (aj)).f0),.int .i64 ((nk l0 (aj)).f1)],.agg #[.int .i64 ((nk l0 af).f0),.int .i64 ((nk l0 af).f1)]] (by rfl) rfl rfl (GU) ?_;refine(t_.calls A7.out).mono ?_;rintro e eu ⟨rfl,hb⟩;refine⟨_,rfl,?_⟩;replace HB:=nI HB hb;(try clear hb);refine hK.out _ _ ⟨(nG HB aT),(nG HB aS),(nG HB aV),(nG HB aU)⟩ (fun hHeld=>?_);clear hK K;refine nX 19 ?_;refine lq 10 20 2047 ?_;refine pY (p8 HT_.out (oz)) ?_;try go_wp2
     go_ret
     exact⟨by first|rfl|(simp[rz,rA]<;>rfl)|(simp only [←aQ];first|rfl|(simp[rz,rA]<;>rfl))|(simp[*,rz,rA]<;>rfl),ny HB.out⟩
    have H':=dm H;clear H;try go_wp2
    replace HB:=dm (pI HB.out);have bj:0<=((aj):Int):=nC;have bk:(aj)<(l0.length:Int):=nC;obtain⟨av,ca,az,aA⟩:=qA a6.out (aj) bj bk;have aS:=aA;have aT:=az;cases ca;replace az:=nG HB az;replace aA:=nG HB aA;replace bj:=eq_true bj;replace bk:=eq_true bk;have bl:0<=(af:Int):=nC;have bm:af<(l0.length:Int):=nC;obtain⟨bO,cd,aB,aC⟩:=qA a6.out af bl bm;have aU:=aC;have aV:=aB;obtain rfl:av=bO:=(by injection cd);replace aB:=nG HB aB;replace aC:=nG HB aC;replace bl:=eq_true bl;replace bm:=eq_true bm;refine qc 11 (S:=fun w'=>w'.cell? (av.add (((aj)).toNat*2))=some (.int .i64 ((nk l0 (aj)).f0))/\w'.cell? ⟨(av.add (((aj)).toNat*2)).block,(av.add (((aj)).toNat*2)).off+1,none⟩=some (.int .i64 ((nk l0 (aj)).f1))/\w'.cell? (av.add ((af).toNat*2))=some (.int .i64 ((nk l0 af).f0))/\w'.cell? ⟨(av.add ((af).toNat*2)).block,(av.add ((af).toNat*2)).off+1,none⟩=some (.int .i64 ((nk l0 af).f1))) [] ⟨(nG HB aT),(nG HB aS),(nG HB aV),(nG HB aU)⟩ ry.xV ry.xO (fun hHeld HT_ HW_=>?_);generalize wr.drew=ev at HB az aA aB aC hHeld⊢;refine lq 0 10 1 ?_;refine lq 1 11 3 ?_;refine lq 2 12 7 ?_;refine lq 3 13 15 ?_;refine lq 5 15 47 ?_;refine lq 6 16 111 ?_;refine lq 7 17 239 ?_;refine nT 4 14 255 ?_;refine nT 8 18 511 ?_;refine oN 9 19 1023 (fun K hK=>?_);refine uw Try.func80 (oz) rfl #[.agg #[.int .i64 ((nk l0 (aj)).f0),.int .i64 ((nk l0 (aj)).f1)],.agg #[.int .i64 ((nk l0 af).f0),.int .i64 ((nk l0 af).f1)]] (by rfl) rfl rfl (GU) ?_;refine(t_.calls A7.out).mono ?_;rintro e ew ⟨rfl,hb⟩;refine⟨_,rfl,?_⟩;replace HB:=nI HB hb;(try clear hb);refine hK.out _ _ ⟨(nG HB aT),(nG HB aS),(nG HB aV),(nG HB aU)⟩ (fun hHeld=>?_);clear hK K;refine nX 19 ?_;refine lq 10 20 2047 ?_;refine pY (p8 HT_.out (oz)) ?_;try go_wp2
    go_roundg k1
    case measure=>have:=bA.out;omega
    case rel=>exact⟨(wrap64 (af+1)),(nQ),H',⟨by have:=bA.out;omega⟩,⟨ny HB.out⟩⟩
   obtain rfl:=Option.some.inj H
   go_wp2
   go_ret
   exact⟨qM,ny HB.out⟩
mutual
def qL.j0:Nat->Bool->Int->List (S59)->Option (Bool)
 |0,_,_,_=>none
 |k+1,dL,ba,aO=>if dL=true then(some false) else(qL.l0 k aO (aO.length:Int) 0 ba aO)
def qL.l0:Nat->List (S59)->Int->Int->Int->List (S59)->Option (Bool)
 |0,_,_,_,_,_=>none
 |k+1,bH,cN,bB,ba,aO=>if bB<cN then(if 0<=bB then(if bB<(bH.length:Int) then(if((nk bH bB).f0)<0 then(some false) else(if((nk bH bB).f0)>=((nk bH bB).f1) then(some false) else(if((nk bH bB).f1)>=ba then(some false) else(qL.l0 k bH cN (wrap64 (bB+1)) ba aO)))) else(none)) else(none)) else((ry.f k aO).bind fun bP=>(some bP))
end
def qL.f (k:Nat) (ac:Int) (aa:List (S59)):Option (Bool):=if ac<0 then(qL.j0 k true ac aa) else(qL.j0 k (decide (ac>8)) ac aa)
theorem qL.tO:∀k,(∀y0 y1 y2,LeO (qL.j0 k y0 y1 y2) (qL.j0 (k+1) y0 y1 y2))/\(∀y0 y1 y2 y3 y4,LeO (qL.l0 k y0 y1 y2 y3 y4) (qL.l0 (k+1) y0 y1 y2 y3 y4))
 |0=>⟨fun _ _ _ r h=>by simp[qL.j0]at h,fun _ _ _ _ _ r h=>by simp[qL.l0]at h⟩
 |k+1=>by
  obtain⟨ax,bX⟩:=qL.tO k;refine⟨?_,?_⟩<;>intros
  all_goals (first|unfold qL.j0|unfold qL.l0);exact uB ax bX ry.mono
theorem qL.mono:∀a0 a1 k,LeO (qL.f k a0 a1) (qL.f (k+1) a0 a1):=by intro a0 a1 k;obtain⟨ax,bX⟩:=qL.tO k;unfold qL.f;exact uB ax bX ry.mono
theorem qL.calls {k:Nat}{ac:Int}{aM:Option Addr}{aG:Nat}{aa:List (S59)}{r:Bool}{w:World}(bu:Kd.C k59 w aM aa.length aa)(bv:aa.length<=aG)(h:qL.f k ac aa=some r):
  Calls Try.prog 50 #[.agg #[.int .i64 ac,.slice aM aa.length aG]] w fun e w'=>e=.returned (.bool r)/\Below w.heap.size w w':=by
 have cY:=Try.underlying31;have bF:=Try.underlying59;have aZ:=dm bu;have bQ:=dm bv;clear bu bv;have HB:=dm (Below.refl w.heap.size w);unfold qL.f at h;have H:=h;clear h;have cp:=dm H;clear H
 go_enter Try.func50,Try.ntmps50
 go_upto_region 1 with(first|((with_reducible refine nU 1 rfl ?_);refine oI #[.int .i64 ac,.slice aM aa.length aG] 31 ?_;intro aw hg w3 nu hb;have ai:=dm (nu);have d7:=dm (nO:w.heap.size<=aw);have d8:=dm (nO:w.heap.size<=aw);replace HB:=nI HB hb;clear hb nu hg))
 (try simp only [Act.put,List.setIfInBounds_toArray,List.set_cons_zero,List.set_cons_succ])
 go_cut [12] (fun dM wc=>∃ (kq:Nat) (bC:Bool),dM=.bool bC/\lm (qL.j0 kq bC ac aa=some r)/\lm (kq<=k)/\lm (wc.heap[aw]? =some (.cells #[.int .i64 ac,(.slice aM aa.length aG)] 31 (0,0)))/\lm (Below w.heap.size w wc))
 case first=>
  have H:=cp.out;clear cp
  replace H:=pU H;rcases H with⟨aY,H⟩|⟨aY,H⟩
  ·(first|rw[aY]|(simp only [qP,si];rw[aY])|skip);have H':=dm H;clear H;have⟨cq,cr,ct,cu⟩:=nJ (w:=w3) ai
   go_wp2
   go_meet
   case rel=>exact⟨_,(true),(nQ),H',⟨by first|omega|exact Nat.le_refl _⟩,⟨nE ai.out⟩,⟨ny HB.out⟩⟩
  (first|rw[aY]|(simp only [qP,si];rw[aY])|skip);have H':=dm H;clear H;have⟨cv,cw,cx,cy⟩:=nJ (w:=w3) ai
  go_wp2
  go_meet
  case rel=>exact⟨_,(decide (ac>8)),(nQ),H',⟨by first|omega|exact Nat.le_refl _⟩,⟨nE ai.out⟩,⟨ny HB.out⟩⟩
 case rest=>
  clear cp;obtain⟨kq,bC,rfl,HA,cO,ai,HB⟩:=hcut;cases kq with
  |zero=>exact absurd HA.out (by simp[qL.j0])
  |succ cz=>
   have H:=HA.out;clear HA;simp only [qL.j0]at H
   rcases pW H with⟨h_,H_⟩|⟨h_,H_⟩<;> (subst h_;clear H;have H:=H_;clear H_)
   ·obtain rfl:=Option.some.inj H
    go_wp2
    go_ret
    exact⟨qM,ny HB.out⟩
   have H':=dm H;clear H;have⟨bY,bZ,b3,b4⟩:=nJ (w:=wc) ai
   go_wp2
   go_loopg [16] cz (fun kq dN w'=>∃ (ae:Int),dN=.int .i64 ae/\lm (qL.l0 kq aa (aa.length:Int) ae ac aa=some r)/\lm (kq<=cz)/\lm (w'.heap[aw]? =some (.cells #[.int .i64 ac,(.slice aM aa.length aG)] 31 (0,0)))/\lm (Below w.heap.size w w'))
   case atStart=>exact⟨(0),(nQ),H',⟨Nat.le_refl _⟩,⟨nE ai.out⟩,⟨ny HB.out⟩⟩
   case round=>
    clear H';(try clear c7 bY bZ b3 b4);obtain⟨ae,rfl,HA,cP,ai,HB⟩:=hrel;cases gk with
    |zero=>exact absurd HA.out (by simp[qL.l0])
    |succ k2=>
     have H:=HA.out;clear HA;simp only [qL.l0]at H
     replace H:=pU H;rcases H with⟨b9,H⟩|⟨b9,H⟩
     ·skip
      obtain⟨d9,H⟩:=oC H
      obtain⟨d_,H⟩:=oC H
      replace H:=pU H;rcases H with⟨cE,H⟩|⟨cE,H⟩
      ·obtain rfl:=Option.some.inj H;have aE:0<=(ae:Int):=nC;have aF:ae<(aa.length:Int):=nC;obtain⟨bq,bn,aq,au⟩:=qA aZ.out ae aE aF;cases bn;replace aq:=nG HB aq;replace au:=nG HB au;replace aE:=eq_true aE;replace aF:=eq_true aF
       go_wp2_with (first|((with_reducible refine nU 4 rfl ?_);refine oI #[.int .i64 0,.int .i64 0] 59 ?_;intro al hg dO nu hb;have a4:=dm (nu);have bR:=dm (nO:w.heap.size<=al);have bS:=dm (nO:w.heap.size<=al);replace HB:=nI HB hb;have ao:=dm (Ci:aw≠al);have ay:=dm (Cj:al≠aw);replace ai:=nA ai hb;clear hb nu hg;have ea:=ay.out;have eb:=ao.out;have⟨dc,dd,de,df⟩:=nJ (w:=dO) a4))
       go_ret
       exact⟨qM,ny HB.out⟩
      skip
      replace H:=pU H;rcases H with⟨cF,H⟩|⟨cF,H⟩
      ·obtain rfl:=Option.some.inj H;have aE:0<=(ae:Int):=nC;have aF:ae<(aa.length:Int):=nC;obtain⟨bq,bn,aq,au⟩:=qA aZ.out ae aE aF;cases bn;replace aq:=nG HB aq;replace au:=nG HB au;replace aE:=eq_true aE;replace aF:=eq_true aF
       go_wp2_with (first|((with_reducible refine nU 4 rfl ?_);refine oI #[.int .i64 0,.int .i64 0] 59 ?_;intro al hg dP nu hb;have a4:=dm (nu);have bR:=dm (nO:w.heap.size<=al);have bS:=dm (nO:w.heap.size<=al);replace HB:=nI HB hb;have ao:=dm (Ci:aw≠al);have ay:=dm (Cj:al≠aw);replace ai:=nA ai hb;clear hb nu hg;have ec:=ay.out;have ed:=ao.out;have⟨dg,dh,di,dj⟩:=nJ (w:=dP) a4))
       go_ret
       exact⟨qM,ny HB.out⟩
      skip
      replace H:=pU H;rcases H with⟨cG,H⟩|⟨cG,H⟩
      ·obtain rfl:=Option.some.inj H;have aE:0<=(ae:Int):=nC;have aF:ae<(aa.length:Int):=nC;obtain⟨bq,bn,aq,au⟩:=qA aZ.out ae aE aF;cases bn;replace aq:=nG HB aq;replace au:=nG HB au;replace aE:=eq_true aE;replace aF:=eq_true aF
       go_wp2_with (first|((with_reducible refine nU 4 rfl ?_);refine oI #[.int .i64 0,.int .i64 0] 59 ?_;intro al hg cQ nu hb;have a4:=dm (nu);have bR:=dm (nO:w.heap.size<=al);have bS:=dm (nO:w.heap.size<=al);replace HB:=nI HB hb;have ao:=dm (Ci:aw≠al);have ay:=dm (Cj:al≠aw);replace ai:=nA ai hb;clear hb nu hg;have ee:=ay.out;have ef:=ao.out;have⟨dk,dl,dn,dq⟩:=nJ (w:=cQ) a4;have⟨dr,dt,du,dv⟩:=nJ (w:=cQ) ai))
       go_ret
       exact⟨qM,ny HB.out⟩
      have H':=dm H;clear H;have aE:0<=(ae:Int):=nC;have aF:ae<(aa.length:Int):=nC;obtain⟨bq,bn,aq,au⟩:=qA aZ.out ae aE aF;cases bn;replace aq:=nG HB aq;replace au:=nG HB au;replace aE:=eq_true aE;replace aF:=eq_true aF
      go_wp2_with (first|((with_reducible refine nU 4 rfl ?_);refine oI #[.int .i64 0,.int .i64 0] 59 ?_;intro al hg cS nu hb;have a4:=dm (nu);have bR:=dm (nO:w.heap.size<=al);have bS:=dm (nO:w.heap.size<=al);replace HB:=nI HB hb;have ao:=dm (Ci:aw≠al);have ay:=dm (Cj:al≠aw);replace ai:=nA ai hb;clear hb nu hg;have eg:=ay.out;have eh:=ao.out;have⟨dw,dx,dy,dz⟩:=nJ (w:=cS) a4;have⟨dA,dB,dC,dD⟩:=nJ (w:=cS) ai))
      go_roundg k2
      case measure=>have:=cO.out;have:=cP.out;omega
      case rel=>exact⟨(wrap64 (ae+1)),(nQ),H',⟨by have:=cO.out;have:=cP.out;omega⟩,⟨pg ai.out⟩,⟨ny HB.out⟩⟩
     obtain⟨bP,dQ,H⟩:=ow H;(try dsimp only at H);obtain rfl:=Option.some.inj H;have⟨dE,dF,dG,dH⟩:=nJ (w:=wr) ai
     go_wp2_with (first|((with_reducible refine og 88 rfl ?_);refine rH 40 rfl Try.func88 (ry.calls (nS (oG aZ.out HB.out)) bQ.out dQ.out) ?_;intro ex hb;replace ai:=nA ai hb;replace HB:=nI HB hb;(try clear hb)))
     go_ret
     exact⟨qM,ny HB.out⟩
def vS.f (a0:Int) (a1:Int):Option (Int×Int):=some (mn a0 a1,mx a0 a1)
theorem vS.calls {a0:Int}{a1:Int}{r1:Int}{r2:Int}{w:World}(h:vS.f a0 a1=some (r1,r2)):
  Calls Try.prog 53 #[.int .i64 a0,.int .i64 a1] w fun e w'=>e=.returned (.agg #[.int .i64 r1,.int .i64 r2])/\Below w.heap.size w w':=by
 have bF:=Try.underlying59;have HB:=dm (Below.refl w.heap.size w);unfold vS.f at h;have H:=h;clear h;obtain⟨aj,aQ⟩:∃j_:Int,(mn a0 a1)=j_:=⟨_,rfl⟩;replace H:(some (aj,mx a0 a1))=some (r1,r2):=by first|(rw[aQ]at H;exact H)|(simp only [aQ]at H⊢;exact H)
 have ei:(if a1<a0 then a1 else a0)=aj:=aQ;obtain⟨cA,bT⟩:∃j_:Int,(mx a0 a1)=j_:=⟨_,rfl⟩;replace H:(some (aj,cA))=some (r1,r2):=by first|(rw[bT]at H;exact H)|(simp only [bT]at H⊢;exact H)
 have ej:(if a0<a1 then a1 else a0)=cA:=bT;simp only [Option.some.injEq,Prod.mk.injEq]at H;obtain⟨rfl,rfl⟩:=H
 go_enter Try.func53,Try.ntmps53
 go_wp2_with (first|((with_reducible refine nU 4 rfl ?_);refine oI #[.int .i64 0,.int .i64 0] 59 ?_;intro bU hg w5 nu hb;have ci:=dm (nu);have ek:=dm (nO:w.heap.size<=bU);have el:=dm (nO:w.heap.size<=bU);replace HB:=nI HB hb;clear hb nu hg;have⟨cv,cw,cx,cy⟩:=nJ (w:=w5) ci))
 refine bodyPost_ret (results_cell_row rfl _ _ bU 59 #[.int .i64 aj,.int .i64 cA] (0,0) _ rfl (pg ci.out) Try.underlying59 rfl (oz)) rfl ?_;exact⟨by first|rfl|(simp[rz,rA]<;>rfl)|(simp only [←aQ,←bT];first|rfl|(simp[rz,rA]<;>rfl))|(simp[*,rz,rA]<;>rfl),ny HB.out⟩
def tu.l0:Nat->List (S59)->Int->Int->Int->Int->Option (Int)
 |0,_,_,_,_,_=>none
 |k+1,x0,x7,x8,bL,bM=>if x8<x7 then(if 0<=x8 then(if x8<(x0.length:Int) then(if(bL==((nk x0 x8).f0)&&(bM==((nk x0 x8).f1)))=true then(some x8) else(tu.l0 k x0 x7 (wrap64 (x8+1)) bL bM)) else(none)) else(none)) else(some (-1))
def tu.f (k:Nat) (l0:List (S59)) (ah:Int) (ag:Int):Option (Int):=tu.l0 k l0 (l0.length:Int) 0 ah ag
theorem tu.tO:∀k,(∀y0 y1 y2 y3 y4,LeO (tu.l0 k y0 y1 y2 y3 y4) (tu.l0 (k+1) y0 y1 y2 y3 y4))
 |0=>fun _ _ _ _ _ r h=>by simp[tu.l0]at h
 |k+1=>by intros;unfold tu.l0;exact uB (tu.tO k)
theorem tu.mono:∀a0 a1 a2 k,LeO (tu.f k a0 a1 a2) (tu.f (k+1) a0 a1 a2):=by intro a0 a1 a2 k;unfold tu.f;exact uB (tu.tO k)
theorem tu.calls {k:Nat}{A0:Option Addr}{c0:Nat}{l0:List (S59)}{ah:Int}{ag:Int}{r:Int}{w:World}(a7:Kd.C k59 w A0 l0.length l0)(a8:l0.length<=c0)(h:tu.f k l0 ah ag=some r):
  Calls Try.prog 111 #[.slice A0 l0.length c0,.agg #[.int .i64 ah,.int .i64 ag]] w fun e w'=>e=.returned (.int .i64 r)/\Below w.heap.size w w':=by
 have bF:=Try.underlying59;have a6:=dm a7;have cf:=dm a8;clear a7 a8;have HB:=dm (Below.refl w.heap.size w);unfold tu.f at h;have H:=h;clear h;have H':=dm H;clear H
 go_enter Try.func111,Try.ntmps111
 go_wp2_with (first|((with_reducible refine nU 3 rfl ?_);refine oI #[.int .i64 ah,.int .i64 ag] 59 ?_;intro aN hg w3 nu hb;have a5:=dm (nu);have cj:=dm (nO:w.heap.size<=aN);have ck:=dm (nO:w.heap.size<=aN);replace HB:=nI HB hb;clear hb nu hg))
 repeat(go_quiet (first|((with_reducible refine nU 3 rfl ?_);refine oI #[.int .i64 ah,.int .i64 ag] 59 ?_;intro aN hg w3 nu hb;have a5:=dm (nu);have cj:=dm (nO:w.heap.size<=aN);have ck:=dm (nO:w.heap.size<=aN);replace HB:=nI HB hb;clear hb nu hg));try go_wp2_with (first|((with_reducible refine nU 3 rfl ?_);refine oI #[.int .i64 ah,.int .i64 ag] 59 ?_;intro aN hg w3 nu hb;have a5:=dm (nu);have cj:=dm (nO:w.heap.size<=aN);have ck:=dm (nO:w.heap.size<=aN);replace HB:=nI HB hb;clear hb nu hg)))
 go_loopg [8] k (fun kq v8 w'=>∃ (ab:Int),v8=.int .i64 ab/\lm (tu.l0 kq l0 (l0.length:Int) ab ah ag=some r)/\lm (kq<=k)/\lm (w'.heap[aN]? =some (.cells #[.int .i64 ah,.int .i64 ag] 59 (0,0)))/\lm (Below w.heap.size w w'))
 case atStart=>exact⟨(0),(nQ),H',⟨Nat.le_refl _⟩,⟨nE a5.out⟩,⟨ny HB.out⟩⟩
 case round=>
  clear H';obtain⟨ab,rfl,HA,bA,a5,HB⟩:=hrel;cases gk with
  |zero=>exact absurd HA.out (by simp[tu.l0])
  |succ k1=>
   have H:=HA.out;clear HA;simp only [tu.l0]at H
   replace H:=pU H;rcases H with⟨aY,H⟩|⟨aY,H⟩
   ·skip
    obtain⟨b6,H⟩:=oC H
    obtain⟨cX,H⟩:=oC H
    by_cases c7:(ah==((nk l0 ab).f0)&&(ag==((nk l0 ab).f1)))=true
    ·rw[if_pos c7]at H;have cZ:(ah==((nk l0 ab).f0)&&(ag==((nk l0 ab).f1)))=true:=c7;(try(have c_:decide (ah=((nk l0 ab).f0)&&(ag==((nk l0 ab).f1)))=true:=by simpa using c7));(try(have db:(ah==((nk l0 ab).f0)&&(ag==((nk l0 ab).f1)))=true:=by simpa using c7));clear c7;obtain rfl:=Option.some.inj H;have⟨bY,bZ,b3,b4⟩:=nJ (w:=wr) a5;have bo:0<=(ab:Int):=nC;have bp:ab<(l0.length:Int):=nC;obtain⟨cH,ce,aW,aX⟩:=qA a6.out ab bo bp;cases ce;replace aW:=nG HB aW;replace aX:=nG HB aX;replace bo:=eq_true bo;replace bp:=eq_true bp
     go_wp2
     repeat(go_quiet (fail);try go_wp2)
     go_ret
     exact⟨qM,ny HB.out⟩
    rw[if_neg c7]at H;have cZ:(ah==((nk l0 ab).f0)&&(ag==((nk l0 ab).f1)))=false:=by simpa using c7
    (try(have c_:decide (ah=((nk l0 ab).f0)&&(ag==((nk l0 ab).f1)))=false:=by simpa using c7));(try(have db:(ah==((nk l0 ab).f0)&&(ag==((nk l0 ab).f1)))=false:=by simpa using c7));(try(have et:¬ (ah=((nk l0 ab).f0)&&(ag==((nk l0 ab).f1))):=by simpa using c7));clear c7;have H':=dm H;clear H;have⟨dR,dS,dT,dU⟩:=nJ (w:=wr) a5;have bo:0<=(ab:Int):=nC;have bp:ab<(l0.length:Int):=nC;obtain⟨cH,ce,aW,aX⟩:=qA a6.out ab bo bp;cases ce;replace aW:=nG HB aW;replace aX:=nG HB aX;replace bo:=eq_true bo;replace bp:=eq_true bp
    go_wp2
    repeat(go_quiet (fail);try go_wp2)
    go_roundg k1
    case measure=>have:=bA.out;omega
    case rel=>exact⟨(wrap64 (ab+1)),(nQ),H',⟨by have:=bA.out;omega⟩,⟨nE a5.out⟩,⟨ny HB.out⟩⟩
   obtain rfl:=Option.some.inj H
   go_wp2
   repeat(go_quiet (fail);try go_wp2)
   go_ret
   exact⟨qM,ny HB.out⟩
def v_.f (k:Nat) (l0:List (S59)) (ah:Int) (ag:Int):Option (Bool):=(tu.f k l0 ah ag).bind fun bz=>(some (decide (bz>=0)))
theorem v_.mono:∀a0 a1 a2 k,LeO (v_.f k a0 a1 a2) (v_.f (k+1) a0 a1 a2):=by intros;unfold v_.f;exact uB tu.mono
theorem v_.calls {k:Nat}{A0:Option Addr}{c0:Nat}{l0:List (S59)}{ah:Int}{ag:Int}{r:Bool}{w:World}(a7:Kd.C k59 w A0 l0.length l0)(a8:l0.length<=c0)(h:v_.f k l0 ah ag=some r):
  Calls Try.prog 81 #[.slice A0 l0.length c0,.agg #[.int .i64 ah,.int .i64 ag]] w fun e w'=>e=.returned (.bool r)/\Below w.heap.size w w':=by
 have bF:=Try.underlying59;have a6:=dm a7;have cf:=dm a8;clear a7 a8;have HB:=dm (Below.refl w.heap.size w);unfold v_.f at h;have H:=h;clear h;obtain⟨bz,A3,H⟩:=ow H;(try dsimp only at H);obtain rfl:=Option.some.inj H
 go_enter Try.func81,Try.ntmps81
 go_wp2_with (first|((with_reducible refine nU 3 rfl ?_);refine oI #[.int .i64 ah,.int .i64 ag] 59 ?_;intro cl hg w4 nu hb;have bD:=dm (nu);have em:=dm (nO:w.heap.size<=cl);have en:=dm (nO:w.heap.size<=cl);replace HB:=nI HB hb;clear hb nu hg;have⟨cq,cr,ct,cu⟩:=nJ (w:=w4) bD)|((with_reducible refine og 111 rfl ?_);refine rH 7 rfl Try.func111 (tu.calls (nS (oG a6.out HB.out)) cf.out A3.out) ?_;intro w6 hb;replace bD:=nA bD hb;replace HB:=nI HB hb;(try clear hb)))
 go_ret
 exact⟨qM,ny HB.out⟩
def vC.f (k:Nat) (ac:Int) (aa:List (S59)) (a1:Int) (a2:Int):Option (Bool):=(vS.f a1 a2).bind fun bx=>((v_.f k aa bx.1 bx.2).bind fun a9=>(some a9))
theorem vC.mono:∀a0 a1 a2 a3 k,LeO (vC.f k a0 a1 a2 a3) (vC.f (k+1) a0 a1 a2 a3):=by intros;unfold vC.f;exact uB v_.mono
theorem vC.calls {k:Nat}{ac:Int}{aM:Option Addr}{aG:Nat}{aa:List (S59)}{a1:Int}{a2:Int}{r:Bool}{w:World}(bu:Kd.C k59 w aM aa.length aa)(bv:aa.length<=aG)(h:vC.f k ac aa a1 a2=some r):
  Calls Try.prog 65 #[.agg #[.int .i64 ac,.slice aM aa.length aG],.int .i64 a1,.int .i64 a2] w fun e w'=>e=.returned (.bool r)/\Below w.heap.size w w':=by
 have cY:=Try.underlying31;have aZ:=dm bu;have bQ:=dm bv;clear bu bv;have HB:=dm (Below.refl w.heap.size w);unfold vC.f at h;have H:=h;clear h;obtain⟨⟨bV,bW⟩,A4,H⟩:=ow H;(try dsimp only at H);obtain⟨a9,A5,H⟩:=ow H;(try dsimp only at H);obtain rfl:=Option.some.inj H
 go_enter Try.func65,Try.ntmps65;try go_wp2_with (first|((with_reducible refine nU 3 rfl ?_);refine oI #[.int .i64 ac,.slice aM aa.length aG] 31 ?_;intro bE hg w6 nu hb;have ap:=dm (nu);have eo:=dm (nO:w.heap.size<=bE);have ep:=dm (nO:w.heap.size<=bE);replace HB:=nI HB hb;clear hb nu hg))
 replace ap:=dm (oq ap.out);replace HB:=dm (pI HB.out);refine zL (n:=7) (S:=fun w'=>w'.cell? ⟨bE,0,none⟩=some (.int .i64 ac)/\w'.cell? ⟨bE,1,none⟩=some (.slice aM aa.length aG)) (ds:=[]) (pQ 7 0) (oz) rfl (oz) ⟨nz ap 0,nz ap 1⟩ (fun hHeld=>?_);generalize w6.drew=w7 at ap HB hHeld⊢;refine lq 0 7 1 ?_;refine lq 2 9 5 ?_;refine lq 3 10 13 ?_;refine nT 1 8 15 ?_;refine xk (i:=4) (N:=some 11) (pQ 7 31) rfl rfl (oz) (by decide) (fun K hK=>?_);refine tT Try.func53 (vS.calls A4.out) ?_;intro w8 hb;replace ap:=nA ap hb;replace HB:=nI HB hb;(try clear hb);refine hK.out _ _ ⟨nz ap 0,nz ap 1⟩ (fun hHeld=>?_);clear hK K;refine nX 11 ?_;refine xk (i:=5) (N:=some 12) (pQ 7 63) rfl rfl (oz) (by decide) (fun K hK=>?_);refine tT Try.func81 (v_.calls (nS (oG aZ.out HB.out)) bQ.out A5.out) ?_;intro w9 hb;replace ap:=nA ap hb;replace HB:=nI HB hb;(try clear hb);refine hK.out _ _ ⟨nz ap 0,nz ap 1⟩ (fun hHeld=>?_);clear hK K;refine nX 12 ?_;refine lq 6 6 127 ?_;refine pY (oz) ?_;try go_wp2
 go_ret
 exact⟨qM,ny HB.out⟩
theorem GV(h:p:=by(try simp only [List.map_toArray,List.map_cons,List.map_nil]);first|done|(rw[show(l0.take (ag:Int).toNat).length=ag.toNat from(by rw[List.length_take];have h_:(ag:Int)<=(l0.length:Int):=nC;omega)]<;>rfl)|rfl|(simp only [List.length_drop,List.length_take];rfl)):p:=h
theorem GX(h:p:=by(try simp only [List.map_toArray,List.map_cons,List.map_nil]);first|done|(simp only [aD];rfl)|rfl|(simp only [List.length_drop,List.length_take];rfl)):p:=h
def xP.f (af:Int) (ae:List (S59)) (a1:Int):Option (Bool):=if a1>=0 then(some (decide (a1<af))) else(some false)
theorem xP.calls {af:Int}{aj:Option Addr}{ak:Nat}{ae:List (S59)}{a1:Int}{r:Bool}{w:World}(aQ:Kd.C k59 w aj ae.length ae)(aR:ae.length<=ak)(h:xP.f af ae a1=some r):
  Calls Try.prog 78 #[.agg #[.int .i64 af,.slice aj ae.length ak],.int .i64 a1] w fun e w'=>e=.returned (.bool r)/\Below w.heap.size w w':=by
 have bI:=Try.underlying31;have aA:=dm aQ;have aB:=dm aR;clear aQ aR;have HB:=dm (Below.refl w.heap.size w);unfold xP.f at h;have H:=h;clear h
 replace H:=pU H;rcases H with⟨aU,H⟩|⟨aU,H⟩
 ·obtain rfl:=Option.some.inj H
  go_enter Try.func78,Try.ntmps78
  go_wp2_with (first|((with_reducible refine nU 2 rfl ?_);refine oI #[.int .i64 af,.slice aj ae.length ak] 31 ?_;intro aS hg w4 nu hb;have bj:=dm (nu);have bA:=dm (nO:w.heap.size<=aS);have bB:=dm (nO:w.heap.size<=aS);replace HB:=nI HB hb;clear hb nu hg;have⟨bM,bN,bO,bP⟩:=nJ (w:=w4) bj))
  go_ret
  exact⟨qM,ny HB.out⟩
 obtain rfl:=Option.some.inj H
 go_enter Try.func78,Try.ntmps78
 go_wp2_with (first|((with_reducible refine nU 2 rfl ?_);refine oI #[.int .i64 af,.slice aj ae.length ak] 31 ?_;intro aS hg w6 nu hb;have bj:=dm (nu);have bA:=dm (nO:w.heap.size<=aS);have bB:=dm (nO:w.heap.size<=aS);replace HB:=nI HB hb;clear hb nu hg))
 go_ret
 exact⟨qM,ny HB.out⟩
def qQ.l0:Nat->List Int->List Int->Int->Int->Int->List (S59)->Option (Bool)
 |0,_,_,_,_,_,_=>none
 |k+1,x1,x7,x8,x9,aE,aF=>if x9<x8 then(if 0<=x9 then(if x9<(x7.length:Int) then((xP.f aE aF (rd x7 x9)).bind fun a3=>(if a3=true then(if x9>0 then(if 0<=(wrap64 (x9 - 1)) then(if(wrap64 (x9 - 1))<(x1.length:Int) then((vC.f k aE aF (rd x1 (wrap64 (x9 - 1))) (rd x7 x9)).bind fun ay=>(if ay=true then(qQ.l0 k x1 x7 x8 (wrap64 (x9+1)) aE aF) else(some false))) else(none)) else(none)) else(qQ.l0 k x1 x7 x8 (wrap64 (x9+1)) aE aF)) else(some false))) else(none)) else(none)) else(some true)
def qQ.f (k:Nat) (af:Int) (ae:List (S59)) (l1:List Int):Option (Bool):=qQ.l0 k l1 l1 (l1.length:Int) 0 af ae
theorem qQ.tO:∀k,(∀y0 y1 y2 y3 y4 y5,LeO (qQ.l0 k y0 y1 y2 y3 y4 y5) (qQ.l0 (k+1) y0 y1 y2 y3 y4 y5))
 |0=>fun _ _ _ _ _ _ r h=>by simp[qQ.l0]at h
 |k+1=>by intros;unfold qQ.l0;exact uB (qQ.tO k) vC.mono
theorem qQ.mono:∀a0 a1 a2 k,LeO (qQ.f k a0 a1 a2) (qQ.f (k+1) a0 a1 a2):=by intro a0 a1 a2 k;unfold qQ.f;exact uB (qQ.tO k) vC.mono
def qQ.T4:Bool×List (List Nat×List Nat):=(true,[([],[]),([],[]),([0,1],[0,1]),([2],[2]),([3,2],[3]),([4],[4]),([5,4],[4,5]),([6,4,4],[4,6]),([7],[7]),([7],[7]),([7],[7]),([10,7],[7,10]),([9,11,7],[7,9,11]),([12,7],[7,12]),([7],[7]),([8,13,14,7,7],[7,8,13,14]),([15,7],[7,15]),([7,16,4],[4,7,16]),([4,17],[4,17])])
def qQ.B4:List Nat:=[0,0,3,7,15,31,63,127,255,255,255,1279,3839,7935,255,32767,65535,131071,262143]
theorem qQ.xV:qj .any (opsOf Try.f51 4)=qQ.T4:=by kernel_rfl
theorem qQ.xO:qV qQ.T4.2 qQ.B4=true:=by kernel_rfl
theorem qQ.calls {k:Nat}{af:Int}{aj:Option Addr}{ak:Nat}{ae:List (S59)}{A1:Option Addr}{c1:Nat}{l1:List Int}{r:Bool}{w:World}(aQ:Kd.C k59 w aj ae.length ae)(aR:ae.length<=ak)(hr1:Kd.C (Kd.int .i64) w A1 l1.length l1)(bE:l1.length<=c1)(h:qQ.f k af ae l1=some r):
  Calls Try.prog 51 #[.agg #[.int .i64 af,.slice aj ae.length ak],.slice A1 l1.length c1] w fun e w'=>e=.returned (.bool r)/\Below w.heap.size w w':=by
 have bI:=Try.underlying31;have aA:=dm aQ;have aB:=dm aR;clear aQ aR;have aZ:=dm hr1;have bZ:=dm bE;clear hr1 bE;have HB:=dm (Below.refl w.heap.size w);unfold qQ.f at h;have H:=h;clear h;have H':=dm H;clear H
 go_enter Try.func51,Try.ntmps51
 go_wp2_with (first|((with_reducible refine nU 2 rfl ?_);refine oI #[.int .i64 af,.slice aj ae.length ak] 31 ?_;intro aq hg w3 nu hb;have aa:=dm (nu);have bS:=dm (nO:w.heap.size<=aq);have bT:=dm (nO:w.heap.size<=aq);replace HB:=nI HB hb;clear hb nu hg))
 go_loopg [9] k (fun kq v9 w'=>∃ (ab:Int),v9=.int .i64 ab/\lm (qQ.l0 kq l1 l1 (l1.length:Int) ab af ae=some r)/\lm (kq<=k)/\lm (w'.heap[aq]? =some (.cells #[.int .i64 af,(.slice aj ae.length ak)] 31 (0,0)))/\lm (Below w.heap.size w w'))
 case atStart=>exact⟨(0),(nQ),H',⟨Nat.le_refl _⟩,⟨nE aa.out⟩,⟨ny HB.out⟩⟩
 case round=>
  clear H';obtain⟨ab,rfl,HA,az,aa,HB⟩:=hrel;cases gk with
  |zero=>exact absurd HA.out (by simp[qQ.l0])
  |succ k1=>
   have H:=HA.out;clear HA;simp only [qQ.l0]at H
   replace H:=pU H;rcases H with⟨a4,H⟩|⟨a4,H⟩
   ·skip
    obtain⟨a_,H⟩:=oC H
    obtain⟨aY,H⟩:=oC H;obtain⟨a3,A7,H⟩:=ow H;(try dsimp only at H)
    rcases pW H with⟨h_,H_⟩|⟨h_,H_⟩<;> (subst h_;clear H;have H:=H_;clear H_)
    ·skip
     replace H:=pU H;rcases H with⟨bJ,H⟩|⟨bJ,H⟩
     ·obtain⟨ah,aD⟩:∃j_:Int,(wrap64 (ab - 1))=j_:=⟨_,rfl⟩;replace H:(if 0<=(ah) then(if(ah)<(l1.length:Int) then((vC.f k1 af ae (rd l1 (ah)) (rd l1 ab)).bind fun ay=>(if ay=true then(qQ.l0 k1 l1 l1 (l1.length:Int) (wrap64 (ab+1)) af ae) else(some false))) else(none)) else(none))=some r:=by first|(rw[aD]at H;exact H)|(simp only [aD]at H⊢;exact H)
      (try rw[aD]at A7);have bQ:(IntKind.i64.wrap (ab - 1))=ah:=(qP _).trans aD
      obtain⟨bU,H⟩:=oC H
      obtain⟨bV,H⟩:=oC H;obtain⟨ay,bF,H⟩:=ow H;(try dsimp only at H)
      rcases pW H with⟨h_,H_⟩|⟨h_,H_⟩<;> (subst h_;clear H;have H:=H_;clear H_)
      ·have H':=dm H;clear H;have ao:0<=(ab:Int):=nC;have ap:ab<(l1.length:Int):=nC;obtain⟨aC,aG,ai⟩:=oL aZ.out ab ao ap;cases aG;replace ai:=nG HB ai;replace ao:=eq_true ao;replace ap:=eq_true ap;try go_wp2
       replace aa:=dm (oq aa.out);replace HB:=dm (pI HB.out);have aH:0<=((ah):Int):=nC;have aI:(ah)<(l1.length:Int):=nC;obtain⟨a5,ba,am⟩:=oL aZ.out (ah) aH aI;have au:=am;obtain rfl:aC=a5:=(by injection ba);replace am:=nG HB am;replace aH:=eq_true aH;replace aI:=eq_true aI;refine qc 19 (S:=fun w'=>w'.cell? ⟨aq,0,none⟩=some (.int .i64 af)/\w'.cell? ⟨aq,1,none⟩=some (.slice aj ae.length ak)/\w'.cell? (aC.add ((ah)).toNat)=some (.int .i64 (rd l1 (ah)))) [] ⟨nz aa 0,nz aa 1,(nG HB au)⟩ qQ.xV qQ.xO (fun hHeld HT_ HW_=>?_);generalize wr.drew=b3 at aa HB am hHeld⊢;refine lq 1 15 2 ?_;refine nT 0 14 3 ?_;refine oN 2 16 7 (fun K hK=>?_);refine tT Try.func78 (xP.calls (nS (oG aA.out HB.out)) aB.out A7.out) ?_;intro b4 hb;replace aa:=nA aa hb;replace HB:=nI HB hb;(try clear hb);refine hK.out _ _ ⟨nz aa 0,nz aa 1,(nG HB au)⟩ (fun hHeld=>?_);clear hK K;refine nX 16 ?_;refine lq 3 17 15 ?_;refine lq 4 18 31 ?_;refine lq 5 19 63 ?_;refine lq 6 20 127 ?_;refine lq 7 21 255 ?_;refine lq 9 23 767 ?_;refine lq 10 24 1791 ?_;refine lq 11 25 3839 ?_;refine lq 12 26 7935 ?_;refine lq 14 28 24319 ?_;refine nT 8 22 24575 ?_;refine nT 13 27 32767 ?_;refine oN 15 29 65535 (fun K hK=>?_);refine uw Try.func65 (oz) rfl #[.agg #[.int .i64 af,.slice aj ae.length ak],.int .i64 (rd l1 (ah)),.int .i64 (rd l1 ab)] (by rfl) rfl rfl (GX) ?_;refine(vC.calls (nS (oG aA.out HB.out)) aB.out bF.out).mono ?_;rintro e b5 ⟨rfl,hb⟩;refine⟨_,rfl,?_⟩;replace aa:=nA aa hb;replace HB:=nI HB hb;(try clear hb);refine hK.out _ _ ⟨nz aa 0,nz aa 1,(nG HB au)⟩ (fun hHeld=>?_);clear hK K;refine nX 29 ?_;refine lq 16 30 131071 ?_;refine lq 17 31 262143 ?_;refine lq 18 32 524287 ?_;refine pY (p8 HT_.out (oz)) ?_;try go_wp2
       go_roundg k1
       case measure=>have:=az.out;omega
       case rel=>exact⟨(wrap64 (ab+1)),(nQ),H',⟨by have:=az.out;omega⟩,⟨nE aa.out⟩,⟨ny HB.out⟩⟩
      obtain rfl:=Option.some.inj H;have ao:0<=(ab:Int):=nC;have ap:ab<(l1.length:Int):=nC;obtain⟨aC,aG,ai⟩:=oL aZ.out ab ao ap;cases aG;replace ai:=nG HB ai;replace ao:=eq_true ao;replace ap:=eq_true ap;try go_wp2
      replace aa:=dm (oq aa.out);replace HB:=dm (pI HB.out);have aH:0<=((ah):Int):=nC;have aI:(ah)<(l1.length:Int):=nC;obtain⟨a5,ba,am⟩:=oL aZ.out (ah) aH aI;have au:=am;obtain rfl:aC=a5:=(by injection ba);replace am:=nG HB am;replace aH:=eq_true aH;replace aI:=eq_true aI;refine qc 19 (S:=fun w'=>w'.cell? ⟨aq,0,none⟩=some (.int .i64 af)/\w'.cell? ⟨aq,1,none⟩=some (.slice aj ae.length ak)/\w'.cell? (aC.add ((ah)).toNat)=some (.int .i64 (rd l1 (ah)))) [] ⟨nz aa 0,nz aa 1,(nG HB au)⟩ qQ.xV qQ.xO (fun hHeld HT_ HW_=>?_);generalize wr.drew=b6 at aa HB am hHeld⊢;refine lq 1 15 2 ?_;refine nT 0 14 3 ?_;refine oN 2 16 7 (fun K hK=>?_);refine tT Try.func78 (xP.calls (nS (oG aA.out HB.out)) aB.out A7.out) ?_;intro b7 hb;replace aa:=nA aa hb;replace HB:=nI HB hb;(try clear hb);refine hK.out _ _ ⟨nz aa 0,nz aa 1,(nG HB au)⟩ (fun hHeld=>?_);clear hK K;refine nX 16 ?_;refine lq 3 17 15 ?_;refine lq 4 18 31 ?_;refine lq 5 19 63 ?_;refine lq 6 20 127 ?_;refine lq 7 21 255 ?_;refine lq 9 23 767 ?_;refine lq 10 24 1791 ?_;refine lq 11 25 3839 ?_;refine lq 12 26 7935 ?_;refine lq 14 28 24319 ?_;refine nT 8 22 24575 ?_;refine nT 13 27 32767 ?_;refine oN 15 29 65535 (fun K hK=>?_);refine uw Try.func65 (oz) rfl #[.agg #[.int .i64 af,.slice aj ae.length ak],.int .i64 (rd l1 (ah)),.int .i64 (rd l1 ab)] (by rfl) rfl rfl (GX) ?_;refine(vC.calls (nS (oG aA.out HB.out)) aB.out bF.out).mono ?_;rintro e b8 ⟨rfl,hb⟩;refine⟨_,rfl,?_⟩;replace aa:=nA aa hb;replace HB:=nI HB hb;(try clear hb);refine hK.out _ _ ⟨nz aa 0,nz aa 1,(nG HB au)⟩ (fun hHeld=>?_);clear hK K;refine nX 29 ?_;refine lq 16 30 131071 ?_;refine lq 17 31 262143 ?_;refine lq 18 32 524287 ?_;refine pY (p8 HT_.out (oz)) ?_;try go_wp2
      go_ret
      exact⟨by first|rfl|(simp[rz,rA]<;>rfl)|(simp only [←aD];first|rfl|(simp[rz,rA]<;>rfl))|(simp[*,rz,rA]<;>rfl),ny HB.out⟩
     have H':=dm H;clear H;have ao:0<=(ab:Int):=nC;have ap:ab<(l1.length:Int):=nC;obtain⟨aC,aG,ai⟩:=oL aZ.out ab ao ap;cases aG;replace ai:=nG HB ai;replace ao:=eq_true ao;replace ap:=eq_true ap;try go_wp2
     replace aa:=dm (oq aa.out);replace HB:=dm (pI HB.out);refine qc 19 (S:=fun w'=>w'.cell? ⟨aq,0,none⟩=some (.int .i64 af)/\w'.cell? ⟨aq,1,none⟩=some (.slice aj ae.length ak)) [] ⟨nz aa 0,nz aa 1⟩ qQ.xV qQ.xO (fun hHeld HT_ HW_=>?_);generalize wr.drew=b9 at aa HB hHeld⊢;refine lq 1 15 2 ?_;refine nT 0 14 3 ?_;refine oN 2 16 7 (fun K hK=>?_);refine tT Try.func78 (xP.calls (nS (oG aA.out HB.out)) aB.out A7.out) ?_;intro b_ hb;replace aa:=nA aa hb;replace HB:=nI HB hb;(try clear hb);refine hK.out _ _ ⟨nz aa 0,nz aa 1⟩ (fun hHeld=>?_);clear hK K;refine nX 16 ?_;refine lq 3 17 15 ?_;refine lq 4 18 31 ?_;refine lq 5 19 63 ?_;refine lq 6 20 127 ?_;refine lq 7 21 255 ?_;refine oM 8 22 511 ?_;refine oM 9 23 1023 ?_;refine oM 10 24 2047 ?_;refine oM 11 25 4095 ?_;refine oM 12 26 8191 ?_;refine oM 13 27 16383 ?_;refine oM 14 28 32767 ?_;refine oM 15 29 65535 ?_;refine oM 16 30 131071 ?_;refine lq 17 31 262143 ?_;refine lq 18 32 524287 ?_;refine pY (p8 HT_.out (oz)) ?_;try go_wp2
     go_roundg k1
     case measure=>have:=az.out;omega
     case rel=>exact⟨(wrap64 (ab+1)),(nQ),H',⟨by have:=az.out;omega⟩,⟨nE aa.out⟩,⟨ny HB.out⟩⟩
    obtain rfl:=Option.some.inj H;have ao:0<=(ab:Int):=nC;have ap:ab<(l1.length:Int):=nC;obtain⟨aC,aG,ai⟩:=oL aZ.out ab ao ap;cases aG;replace ai:=nG HB ai;replace ao:=eq_true ao;replace ap:=eq_true ap;try go_wp2
    replace aa:=dm (oq aa.out);replace HB:=dm (pI HB.out);refine qc 19 (S:=fun w'=>w'.cell? ⟨aq,0,none⟩=some (.int .i64 af)/\w'.cell? ⟨aq,1,none⟩=some (.slice aj ae.length ak)) [] ⟨nz aa 0,nz aa 1⟩ qQ.xV qQ.xO (fun hHeld HT_ HW_=>?_);generalize wr.drew=ca at aa HB hHeld⊢;refine lq 1 15 2 ?_;refine nT 0 14 3 ?_;refine oN 2 16 7 (fun K hK=>?_);refine tT Try.func78 (xP.calls (nS (oG aA.out HB.out)) aB.out A7.out) ?_;intro cd hb;replace aa:=nA aa hb;replace HB:=nI HB hb;(try clear hb);refine hK.out _ _ ⟨nz aa 0,nz aa 1⟩ (fun hHeld=>?_);clear hK K;refine nX 16 ?_;refine lq 3 17 15 ?_;refine lq 4 18 31 ?_;refine oM 5 19 63 ?_;refine oM 6 20 127 ?_;refine oM 7 21 255 ?_;refine oM 8 22 511 ?_;refine oM 9 23 1023 ?_;refine oM 10 24 2047 ?_;refine oM 11 25 4095 ?_;refine oM 12 26 8191 ?_;refine oM 13 27 16383 ?_;refine oM 14 28 32767 ?_;refine oM 15 29 65535 ?_;refine oM 16 30 131071 ?_;refine oM 17 31 262143 ?_;refine lq 18 32 524287 ?_;refine pY (p8 HT_.out (oz)) ?_;try go_wp2
    go_ret
    exact⟨qM,ny HB.out⟩
   obtain rfl:=Option.some.inj H
   go_wp2
   go_ret
   exact⟨qM,ny HB.out⟩
def tC.l0:Nat->List Int->Int->Int->Int->Option (Int)
 |0,_,_,_,_=>none
 |k+1,x0,x1,x7,x8=>if x8<x7 then(if 0<=x8 then(if x8<(x0.length:Int) then(if x1=(rd x0 x8) then(some x8) else(tC.l0 k x0 x1 x7 (wrap64 (x8+1)))) else(none)) else(none)) else(some (-1))
def tC.f (k:Nat) (l0:List Int) (a1:Int):Option (Int):=tC.l0 k l0 a1 (l0.length:Int) 0
theorem tC.tO:∀k,(∀y0 y1 y2 y3,LeO (tC.l0 k y0 y1 y2 y3) (tC.l0 (k+1) y0 y1 y2 y3))
 |0=>fun _ _ _ _ r h=>by simp[tC.l0]at h
 |k+1=>by intros;unfold tC.l0;exact uB (tC.tO k)
theorem tC.mono:∀a0 a1 k,LeO (tC.f k a0 a1) (tC.f (k+1) a0 a1):=by intro a0 a1 k;unfold tC.f;exact uB (tC.tO k)
theorem tC.calls {k:Nat}{A0:Option Addr}{c0:Nat}{l0:List Int}{a1:Int}{r:Int}{w:World}(av:Kd.C (Kd.int .i64) w A0 l0.length l0)(aw:l0.length<=c0)(h:tC.f k l0 a1=some r):
  Calls Try.prog 114 #[.slice A0 l0.length c0,.int .i64 a1] w fun e w'=>e=.returned (.int .i64 r)/\oK w w':=by
 have ax:=dm av;have aX:=dm aw;clear av aw;unfold tC.f at h;have H:=h;clear h;have H':=dm H;clear H
 go_enter Try.func114,Try.ntmps114
 go_wp2
 go_loopg [8] k (fun kq v8 w'=>∃ (ac:Int),v8=.int .i64 ac/\lm (tC.l0 kq l0 a1 (l0.length:Int) ac=some r)/\lm (kq<=k)/\oK w w')
 case atStart=>exact⟨(0),(nQ),H',⟨Nat.le_refl _⟩,by repeat(first|exact oK.refl _|apply oK.step)⟩
 case round=>
  clear H';obtain⟨ac,rfl,HA,az,⟨m1,rfl⟩⟩:=hrel;cases gk with
  |zero=>exact absurd HA.out (by simp[tC.l0])
  |succ k1=>
   have H:=HA.out;clear HA;simp only [tC.l0]at H
   replace H:=pU H;rcases H with⟨aU,H⟩|⟨aU,H⟩
   ·skip
    obtain⟨a4,H⟩:=oC H
    obtain⟨a_,H⟩:=oC H
    by_cases c6:a1=(rd l0 ac)
    ·rw[if_pos c6]at H;have aY:=beq_iff_eq.mpr c6;have a6:=bne_eq_false_iff_eq.mpr c6;clear c6;obtain rfl:=Option.some.inj H;have aK:0<=(ac:Int):=nC;have aL:ac<(l0.length:Int):=nC;obtain⟨bC,bd,bp⟩:=oL ax.out ac aK aL;cases bd;replace aK:=eq_true aK;replace aL:=eq_true aL
     go_wp2
     go_ret
     exact⟨nQ,by repeat(first|exact oK.refl _|apply oK.step)⟩
    rw[if_neg c6]at H;have aY:=beq_eq_false_iff_ne.mpr c6;have a6:=bne_iff_ne.mpr c6;have H':=dm H;clear H;have aK:0<=(ac:Int):=nC;have aL:ac<(l0.length:Int):=nC;obtain⟨bC,bd,bp⟩:=oL ax.out ac aK aL;cases bd;replace aK:=eq_true aK;replace aL:=eq_true aL
    go_wp2
    go_roundg k1
    case measure=>have:=az.out;omega
    case rel=>exact⟨(wrap64 (ac+1)),(nQ),H',⟨by have:=az.out;omega⟩,by repeat(first|exact oK.refl _|apply oK.step)⟩
   obtain rfl:=Option.some.inj H
   go_wp2
   go_ret
   exact⟨nQ,by repeat(first|exact oK.refl _|apply oK.step)⟩
def vG.f (k:Nat) (l0:List Int) (a1:Int):Option (Bool):=(tC.f k l0 a1).bind fun aV=>(some (decide (aV>=0)))
theorem vG.mono:∀a0 a1 k,LeO (vG.f k a0 a1) (vG.f (k+1) a0 a1):=by intros;unfold vG.f;exact uB tC.mono
theorem vG.calls {k:Nat}{A0:Option Addr}{c0:Nat}{l0:List Int}{a1:Int}{r:Bool}{w:World}(av:Kd.C (Kd.int .i64) w A0 l0.length l0)(aw:l0.length<=c0)(h:vG.f k l0 a1=some r):
  Calls Try.prog 89 #[.slice A0 l0.length c0,.int .i64 a1] w fun e w'=>e=.returned (.bool r)/\oK w w':=by
 have ax:=dm av;have aX:=dm aw;clear av aw;unfold vG.f at h;have H:=h;clear h;obtain⟨aV,A3,H⟩:=ow H;(try dsimp only at H);obtain rfl:=Option.some.inj H
 go_enter Try.func89,Try.ntmps89
 go_wp2_with (first|((with_reducible refine og 114 rfl ?_);refine oV 7 rfl Try.func114 (tC.calls (nS ax.out) aX.out A3.out) ?_;rintro e w' ⟨rfl,⟨nd,rfl⟩⟩;refine⟨_,rfl,?_⟩))
 go_ret
 exact⟨nQ,by repeat(first|exact oK.refl _|apply oK.step)⟩
def sD.l0:Nat->List Int->List Int->Int->Int->Option (Bool)
 |0,_,_,_,_=>none
 |k+1,x0,x5,x6,x7=>if x7<x6 then(if 0<=x7 then(if x7<(x5.length:Int) then(if x7<=(x0.length:Int) then((vG.f k (x0.take (x7:Int).toNat) (rd x5 x7)).bind fun a7=>(if a7=true then(some false) else(sD.l0 k x0 x5 x6 (wrap64 (x7+1))))) else(none)) else(none)) else(none)) else(some true)
def sD.f (k:Nat) (l0:List Int):Option (Bool):=sD.l0 k l0 l0 (l0.length:Int) 0
theorem sD.tO:∀k,(∀y0 y1 y2 y3,LeO (sD.l0 k y0 y1 y2 y3) (sD.l0 (k+1) y0 y1 y2 y3))
 |0=>fun _ _ _ _ r h=>by simp[sD.l0]at h
 |k+1=>by intros;unfold sD.l0;exact uB (sD.tO k) vG.mono
theorem sD.mono:∀a0 k,LeO (sD.f k a0) (sD.f (k+1) a0):=by intro a0 k;unfold sD.f;exact uB (sD.tO k) vG.mono
theorem sD.calls {k:Nat}{A0:Option Addr}{c0:Nat}{l0:List Int}{r:Bool}{w:World}(av:Kd.C (Kd.int .i64) w A0 l0.length l0)(aw:l0.length<=c0)(h:sD.f k l0=some r):
  Calls Try.prog 52 #[.slice A0 l0.length c0] w fun e w'=>e=.returned (.bool r)/\oK w w':=by
 have ax:=dm av;have aX:=dm aw;clear av aw;unfold sD.f at h;have H:=h;clear h;have H':=dm H;clear H
 go_enter Try.func52,Try.ntmps52
 go_wp2
 go_loopg [7] k (fun kq v7 w'=>∃ (ag:Int),v7=.int .i64 ag/\lm (sD.l0 kq l0 l0 (l0.length:Int) ag=some r)/\lm (kq<=k)/\oK w w')
 case atStart=>exact⟨(0),(nQ),H',⟨Nat.le_refl _⟩,by repeat(first|exact oK.refl _|apply oK.step)⟩
 case round=>
  clear H';obtain⟨ag,rfl,HA,az,⟨m1,rfl⟩⟩:=hrel;cases gk with
  |zero=>exact absurd HA.out (by simp[sD.l0])
  |succ k1=>
   have H:=HA.out;clear HA;simp only [sD.l0]at H
   replace H:=pU H;rcases H with⟨bK,H⟩|⟨bK,H⟩
   ·skip
    obtain⟨aU,H⟩:=oC H
    obtain⟨a4,H⟩:=oC H;have a_:=eq_true (of_decide_eq_true (wz):0<=ag)
    obtain⟨c6,H⟩:=qh H;have aY:=eq_true c6;have a6:=decide_eq_true c6;clear c6;obtain⟨a7,A7,H⟩:=ow H;(try dsimp only at H)
    rcases pW H with⟨h_,H_⟩|⟨h_,H_⟩<;> (subst h_;clear H;have H:=H_;clear H_)
    ·obtain rfl:=Option.some.inj H;have aM:0<=(ag:Int):=nC;have aN:ag<(l0.length:Int):=nC;obtain⟨aT,bf,bq⟩:=oL ax.out ag aM aN;cases bf;replace aM:=eq_true aM;replace aN:=eq_true aN;obtain⟨ce,bu,_,bv,_⟩:=info_parts info3;obtain⟨bW,bG,bH⟩:=Du (P:=Try.prog) (Value.int .i64) 0 45 3 .i64 Try.underlying45 bu bv (some aT) c0 l0 ag nC nC aX.out;have a8:=dm (yV (h1:=fun _=>rfl) (bG _ (yQ ax.out)));have a9:=dm bH;clear bG bH bu bv
     go_wp2_with (first|((with_reducible refine xg (f:=89) rfl ?_);refine wC (some 16) rfl rfl Try.func89 (oz) rfl #[.slice (some aT) (l0.take (ag:Int).toNat).length c0,.int .i64 (rd l0 ag)] rfl (GV) ?_;refine(vG.calls (nS a8.out) a9.out A7.out).mono ?_;rintro e w' ⟨rfl,⟨nd,rfl⟩⟩;refine⟨_,rfl,?_⟩))
     go_ret
     exact⟨nQ,by repeat(first|exact oK.refl _|apply oK.step)⟩
    have H':=dm H;clear H;have aM:0<=(ag:Int):=nC;have aN:ag<(l0.length:Int):=nC;obtain⟨aT,bf,bq⟩:=oL ax.out ag aM aN;cases bf;replace aM:=eq_true aM;replace aN:=eq_true aN;obtain⟨bX,bn,_,bo,_⟩:=info_parts info3;obtain⟨bR,bx,bz⟩:=Du (P:=Try.prog) (Value.int .i64) 0 45 3 .i64 Try.underlying45 bn bo (some aT) c0 l0 ag nC nC aX.out;have a8:=dm (yV (h1:=fun _=>rfl) (bx _ (yQ ax.out)));have a9:=dm bz;clear bx bz bn bo
    go_wp2_with (first|((with_reducible refine xg (f:=89) rfl ?_);refine wC (some 16) rfl rfl Try.func89 (oz) rfl #[.slice (some aT) (l0.take (ag:Int).toNat).length c0,.int .i64 (rd l0 ag)] rfl (GV) ?_;refine(vG.calls (nS a8.out) a9.out A7.out).mono ?_;rintro e w' ⟨rfl,⟨nd,rfl⟩⟩;refine⟨_,rfl,?_⟩))
    go_roundg k1
    case measure=>have:=az.out;omega
    case rel=>exact⟨(wrap64 (ag+1)),(nQ),H',⟨by have:=az.out;omega⟩,by repeat(first|exact oK.refl _|apply oK.step)⟩
   obtain rfl:=Option.some.inj H
   go_wp2
   go_ret
   exact⟨nQ,by repeat(first|exact oK.refl _|apply oK.step)⟩
def tq.l0:Nat->List Bool->Bool->Int->Int->Option (Int)
 |0,_,_,_,_=>none
 |k+1,x0,x1,x7,x8=>if x8<x7 then(if 0<=x8 then(if x8<(x0.length:Int) then(if(x1==(qp false x0 x8))=true then(some x8) else(tq.l0 k x0 x1 x7 (wrap64 (x8+1)))) else(none)) else(none)) else(some (-1))
def tq.f (k:Nat) (l0:List Bool) (a1:Bool):Option (Int):=tq.l0 k l0 a1 (l0.length:Int) 0
theorem tq.tO:∀k,(∀y0 y1 y2 y3,LeO (tq.l0 k y0 y1 y2 y3) (tq.l0 (k+1) y0 y1 y2 y3))
 |0=>fun _ _ _ _ r h=>by simp[tq.l0]at h
 |k+1=>by intros;unfold tq.l0;exact uB (tq.tO k)
theorem tq.mono:∀a0 a1 k,LeO (tq.f k a0 a1) (tq.f (k+1) a0 a1):=by intro a0 a1 k;unfold tq.f;exact uB (tq.tO k)
theorem tq.calls {k:Nat}{A0:Option Addr}{c0:Nat}{l0:List Bool}{a1:Bool}{r:Int}{w:World}(av:Kd.C Kd.bool w A0 l0.length l0)(aw:l0.length<=c0)(h:tq.f k l0 a1=some r):
  Calls Try.prog 90 #[.slice A0 l0.length c0,.bool a1] w fun e w'=>e=.returned (.int .i64 r)/\oK w w':=by
 have ax:=dm av;have aX:=dm aw;clear av aw;unfold tq.f at h;have H:=h;clear h;have H':=dm H;clear H
 go_enter Try.func90,Try.ntmps90
 go_wp2
 go_loopg [8] k (fun kq v8 w'=>∃ (ac:Int),v8=.int .i64 ac/\lm (tq.l0 kq l0 a1 (l0.length:Int) ac=some r)/\lm (kq<=k)/\oK w w')
 case atStart=>exact⟨(0),(nQ),H',⟨Nat.le_refl _⟩,by repeat(first|exact oK.refl _|apply oK.step)⟩
 case round=>
  clear H';try clear p2
  obtain⟨ac,rfl,HA,az,⟨m1,rfl⟩⟩:=hrel;cases gk with
  |zero=>exact absurd HA.out (by simp[tq.l0])
  |succ k1=>
   have H:=HA.out;clear HA;simp only [tq.l0]at H
   replace H:=pU H;rcases H with⟨aU,H⟩|⟨aU,H⟩
   ·skip
    obtain⟨a4,H⟩:=oC H
    obtain⟨a_,H⟩:=oC H
    by_cases c6:(a1==(qp false l0 ac))=true
    ·rw[if_pos c6]at H;have aY:(a1==(qp false l0 ac))=true:=c6;(try(have a6:decide (a1=(qp false l0 ac))=true:=by simpa using c6));(try(have bL:(a1==(qp false l0 ac))=true:=by simpa using c6));clear c6;obtain rfl:=Option.some.inj H;have aO:0<=(ac:Int):=nC;have aP:ac<(l0.length:Int):=nC;obtain⟨bD,bh,br⟩:=wT ax.out ac aO aP;cases bh;replace aO:=eq_true aO;replace aP:=eq_true aP
     go_wp2
     go_ret
     exact⟨nQ,by repeat(first|exact oK.refl _|apply oK.step)⟩
    rw[if_neg c6]at H;have aY:(a1==(qp false l0 ac))=false:=by simpa using c6
    (try(have a6:decide (a1=(qp false l0 ac))=false:=by simpa using c6));(try(have bL:(a1==(qp false l0 ac))=false:=by simpa using c6));(try(have bY:¬ (a1=(qp false l0 ac)):=by simpa using c6));clear c6;have H':=dm H;clear H;have aO:0<=(ac:Int):=nC;have aP:ac<(l0.length:Int):=nC;obtain⟨bD,bh,br⟩:=wT ax.out ac aO aP;cases bh;replace aO:=eq_true aO;replace aP:=eq_true aP
    go_wp2
    go_roundg k1
    case measure=>have:=az.out;omega
    case rel=>exact⟨(wrap64 (ac+1)),(nQ),H',⟨by have:=az.out;omega⟩,by repeat(first|exact oK.refl _|apply oK.step)⟩
   obtain rfl:=Option.some.inj H
   go_wp2
   go_ret
   exact⟨nQ,by repeat(first|exact oK.refl _|apply oK.step)⟩
def wX.f (k:Nat) (l0:List Bool) (a1:Bool):Option (Bool):=(tq.f k l0 a1).bind fun aW=>(some (decide (aW>=0)))
theorem wX.mono:∀a0 a1 k,LeO (wX.f k a0 a1) (wX.f (k+1) a0 a1):=by intros;unfold wX.f;exact uB tq.mono
theorem wX.calls {k:Nat}{A0:Option Addr}{c0:Nat}{l0:List Bool}{a1:Bool}{r:Bool}{w:World}(av:Kd.C Kd.bool w A0 l0.length l0)(aw:l0.length<=c0)(h:wX.f k l0 a1=some r):
  Calls Try.prog 54 #[.slice A0 l0.length c0,.bool a1] w fun e w'=>e=.returned (.bool r)/\oK w w':=by
 have ax:=dm av;have aX:=dm aw;clear av aw;unfold wX.f at h;have H:=h;clear h;obtain⟨aW,A3,H⟩:=ow H;(try dsimp only at H);obtain rfl:=Option.some.inj H
 go_enter Try.func54,Try.ntmps54
 go_wp2_with (first|((with_reducible refine og 90 rfl ?_);refine oV 7 rfl Try.func90 (tq.calls (nS ax.out) aX.out A3.out) ?_;rintro e w' ⟨rfl,⟨nd,rfl⟩⟩;refine⟨_,rfl,?_⟩))
 go_ret
 exact⟨nQ,by repeat(first|exact oK.refl _|apply oK.step)⟩
theorem Bf(h:p:=by first|rfl|(simp[rz,rA]<;>rfl)|(simp only [←aY];first|rfl|(simp[rz,rA]<;>rfl))|(simp[*,rz,rA]<;>rfl)):p:=h
theorem CO(h:p:=by(try simp only [List.map_toArray,List.map_cons,List.map_nil]);first|done|(simp only [bH];rfl)|rfl|(simp only [List.length_drop,List.length_take];rfl)):p:=h
theorem Io(h:p:=by have:=bj.out;have:=bk.out;have:=a_.out;have:=bf.out;have:=bq.out;have:=bZ.out;have:=cM.out;have:=eo.out;omega):p:=h
theorem Bg(h:p:=by rw[hg];exact Nat.ne_of_lt (oU (g:=az) (o:=.cells #[.int .i64 ag,.slice aM ai.length aN] 31 (0,0)) (nE ab.out))):p:=h
theorem Bh(h:p:=by rw[hg];exact Nat.ne_of_gt (oU (g:=az) (o:=.cells #[.int .i64 ag,.slice aM ai.length aN] 31 (0,0)) (nE ab.out))):p:=h
theorem CP(h:p:=by rw[hg];exact Nat.ne_of_lt (oU (g:=ax) (o:=qo ao) (nE ac.out))):p:=h
theorem CQ(h:p:=by rw[hg];exact Nat.ne_of_gt (oU (g:=ax) (o:=qo ao) (nE ac.out))):p:=h
theorem Bi(h:p:=by have:=bj.out;have:=bk.out;have:=a_.out;first|omega|exact Nat.le_refl _):p:=h
mutual
def nV.j0:Nat->List (List Int)->List Int->Bool->Int->List (S59)->Option (Bool)
 |0,_,_,_,_,_=>none
 |k+1,x1,x2,gj,ap,ay=>if gj=true then(some false) else(if 0<=ap then(if(ap:Int).toNat<=281474976710656 then(nV.l0 k x2 (List.replicate (ap:Int).toNat false) x1 (x1.length:Int) 0 ap ay [] 0) else(none)) else(none))
def nV.l0:Nat->List Int->List Bool->List (List Int)->Int->Int->Int->List (S59)->List (S59)->Int->Option (Bool)
 |0,_,_,_,_,_,_,_,_,_=>none
 |k+1,x2,x6,aL,aP,aK,ap,ay,aA,aC=>if aK<aP then(if 0<=aK then(if aK<(aL.length:Int) then(if((nL aL aK).length:Int)<2 then(nV.j2 k x2 x6 aK (nL aL aK) aL aP aK true ap ay aA aC) else((qQ.f k ap ay (nL aL aK)).bind fun b0=>(nV.j2 k x2 x6 aK (nL aL aK) aL aP aK (!b0) ap ay aA aC))) else(none)) else(none)) else(if(aA.length:Int)=(ay.length:Int) then((wX.f k x6 false).bind fun cn=>(some (!cn))) else(some false))
def nV.j2:Nat->List Int->List Bool->Int->List Int->List (List Int)->Int->Int->Bool->Int->List (S59)->List (S59)->Int->Option (Bool)
 |0,_,_,_,_,_,_,_,_,_,_,_,_=>none
 |k+1,x2,x6,x7,x8,aL,aP,aK,gl,ap,ay,aA,aC=>if gl=true then(some false) else(if 0<(x8.length:Int) then(if 0<=(wrap64 ((x8.length:Int) - 1)) then(if(wrap64 ((x8.length:Int) - 1))<(x8.length:Int) then(if(rd x8 0)=(rd x8 (wrap64 ((x8.length:Int) - 1))) then(if(x8.length:Int)<4 then(nV.j3 k x2 x6 x7 x8 (rd x8 0) (rd x8 (wrap64 ((x8.length:Int) - 1))) aL aP aK true ap ay aA aC) else(if x7=0 then(nV.j3 k x2 x6 x7 x8 (rd x8 0) (rd x8 (wrap64 ((x8.length:Int) - 1))) aL aP aK ((rd x8 0) !=(rd x8 (wrap64 ((x8.length:Int) - 1)))) ap ay aA aC) else(nV.j3 k x2 x6 x7 x8 (rd x8 0) (rd x8 (wrap64 ((x8.length:Int) - 1))) aL aP aK false ap ay aA aC))) else(if x7=0 then(nV.j3 k x2 x6 x7 x8 (rd x8 0) (rd x8 (wrap64 ((x8.length:Int) - 1))) aL aP aK ((rd x8 0) !=(rd x8 (wrap64 ((x8.length:Int) - 1)))) ap ay aA aC) else(nV.j3 k x2 x6 x7 x8 (rd x8 0) (rd x8 (wrap64 ((x8.length:Int) - 1))) aL aP aK false ap ay aA aC))) else(none)) else(none)) else(none))
def nV.j3:Nat->List Int->List Bool->Int->List Int->Int->Int->List (List Int)->Int->Int->Bool->Int->List (S59)->List (S59)->Int->Option (Bool)
 |0,_,_,_,_,_,_,_,_,_,_,_,_,_,_=>none
 |k+1,x2,x6,x7,x8,x9,ep,aL,aP,aK,gm,ap,ay,aA,aC=>if gm=true then(some false) else(if 1<=(wrap64 ((x8.length:Int) - 1)) then(if(wrap64 ((x8.length:Int) - 1))<=(x8.length:Int) then(if x7=0 then(if 1<=(x8.length:Int) then(nV.j4 k x2 x6 x8 (x8.drop 1) aL aP aK ap ay aA aC) else(none)) else(if 0<=x9 then(if x9<(x6.length:Int) then(if qp false x6 x9=true then(if 0<=ep then(if ep<(x6.length:Int) then(if qp false x6 ep=true then(nV.j4 k x2 x6 x8 ((x8.take (wrap64 ((x8.length:Int) - 1)).toNat).drop 1) aL aP aK ap ay aA aC) else(some false)) else(none)) else(none)) else(some false)) else(none)) else(none))) else(none)) else(none))
def nV.j4:Nat->List Int->List Bool->List Int->List Int->List (List Int)->Int->Int->Int->List (S59)->List (S59)->Int->Option (Bool)
 |0,_,_,_,_,_,_,_,_,_,_,_=>none
 |k+1,x2,x6,x8,eq,aL,aP,aK,ap,ay,aA,aC=>(sD.f k eq).bind fun co=>(if co=true then(nV.l1 k x2 x6 x8 aL aP aK eq (eq.length:Int) 0 ap ay aA aC) else(some false))
def nV.l1:Nat->List Int->List Bool->List Int->List (List Int)->Int->Int->List Int->Int->Int->Int->List (S59)->List (S59)->Int->Option (Bool)
 |0,_,_,_,_,_,_,_,_,_,_,_,_,_=>none
 |k+1,x2,x6,x8,aL,aP,aK,cN,fj,b1,ap,ay,aA,aC=>if b1<fj then(if 0<=b1 then(if b1<(cN.length:Int) then(if 0<=(rd cN b1) then(if(rd cN b1)<(x6.length:Int) then(if qp false x6 (rd cN b1)=true then(some false) else(nV.l1 k x2 x6 x8 aL aP aK cN fj (wrap64 (b1+1)) ap ay aA aC)) else(none)) else(none)) else(none)) else(none)) else(nV.l2 k x2 x6 x8 1 aL aP aK ap ay aA aC)
def nV.l2:Nat->List Int->List Bool->List Int->Int->List (List Int)->Int->Int->Int->List (S59)->List (S59)->Int->Option (Bool)
 |0,_,_,_,_,_,_,_,_,_,_,_=>none
 |k+1,x2,x6,x8,b2,aL,aP,aK,ap,ay,aA,aC=>if b2<(x8.length:Int) then(if 0<=(wrap64 (b2 - 1)) then(if(wrap64 (b2 - 1))<(x8.length:Int) then(if 0<=b2 then((vS.f (rd x8 (wrap64 (b2 - 1))) (rd x8 b2)).bind fun a4=>(if rM aA a4.1 a4.2=true then(some false) else(nV.l2 k x2 x6 x8 (wrap64 (b2+1)) aL aP aK ap ay (aA++[⟨a4.1,a4.2⟩]) aC))) else(none)) else(none)) else(none)) else(nV.l3 k x2 x6 aL aP aK x8 (x8.length:Int) 0 ap ay aA aC)
def nV.l3:Nat->List Int->List Bool->List (List Int)->Int->Int->List Int->Int->Int->Int->List (S59)->List (S59)->Int->Option (Bool)
 |0,_,_,_,_,_,_,_,_,_,_,_,_=>none
 |k+1,x2,x6,aL,aP,aK,b3,er,br,ap,ay,aA,aC=>if br<er then(if 0<=br then(if br<(b3.length:Int) then(if 0<=(rd b3 br) then(if(rd b3 br)<(x6.length:Int) then(nV.l3 k x2 (x6.set ((rd b3 br):Int).toNat true) aL aP aK b3 er (wrap64 (br+1)) ap ay aA aC) else(none)) else(none)) else(none)) else(none)) else(nV.l0 k x2 x6 aL aP (wrap64 (aK+1)) ap ay aA aC)
end
def nV.f (k:Nat) (ag:Int) (ai:List (S59)) (l1:List (List Int)) (l2:List Int):Option (Bool):=(qL.f k ag ai).bind fun bR=>(if bR=true then(nV.j0 k l1 l2 ((l1.length:Int)==0) ag ai) else(nV.j0 k l1 l2 true ag ai))
theorem nV.tO:∀k,(∀y0 y1 y2 y3 y4,LeO (nV.j0 k y0 y1 y2 y3 y4) (nV.j0 (k+1) y0 y1 y2 y3 y4))/\(∀y0 y1 y2 y3 y4 y5 y6 y7 y8,LeO (nV.l0 k y0 y1 y2 y3 y4 y5 y6 y7 y8) (nV.l0 (k+1) y0 y1 y2 y3 y4 y5 y6 y7 y8))/\(∀y0 y1 y2 y3 y4 y5 y6 y7 y8 y9 aZ bl,LeO (nV.j2 k y0 y1 y2 y3 y4 y5 y6 y7 y8 y9 aZ bl) (nV.j2 (k+1) y0 y1 y2 y3 y4 y5 y6 y7 y8 y9 aZ bl))/\(∀y0 y1 y2 y3 y4 y5 y6 y7 y8 y9 aZ bl cO fk,LeO (nV.j3 k y0 y1 y2 y3 y4 y5 y6 y7 y8 y9 aZ bl cO fk) (nV.j3 (k+1) y0 y1 y2 y3 y4 y5 y6 y7 y8 y9 aZ bl cO fk))/\(∀y0 y1 y2 y3 y4 y5 y6 y7 y8 y9 aZ,LeO (nV.j4 k y0 y1 y2 y3 y4 y5 y6 y7 y8 y9 aZ) (nV.j4 (k+1) y0 y1 y2 y3 y4 y5 y6 y7 y8 y9 aZ))/\(∀y0 y1 y2 y3 y4 y5 y6 y7 y8 y9 aZ bl cO,LeO (nV.l1 k y0 y1 y2 y3 y4 y5 y6 y7 y8 y9 aZ bl cO) (nV.l1 (k+1) y0 y1 y2 y3 y4 y5 y6 y7 y8 y9 aZ bl cO))/\(∀y0 y1 y2 y3 y4 y5 y6 y7 y8 y9 aZ,LeO (nV.l2 k y0 y1 y2 y3 y4 y5 y6 y7 y8 y9 aZ) (nV.l2 (k+1) y0 y1 y2 y3 y4 y5 y6 y7 y8 y9 aZ))/\(∀y0 y1 y2 y3 y4 y5 y6 y7 y8 y9 aZ bl,LeO (nV.l3 k y0 y1 y2 y3 y4 y5 y6 y7 y8 y9 aZ bl) (nV.l3 (k+1) y0 y1 y2 y3 y4 y5 y6 y7 y8 y9 aZ bl))
 |0=>⟨fun _ _ _ _ _ r h=>by simp[nV.j0]at h,fun _ _ _ _ _ _ _ _ _ r h=>by simp[nV.l0]at h,fun _ _ _ _ _ _ _ _ _ _ _ _ r h=>by simp[nV.j2]at h,fun _ _ _ _ _ _ _ _ _ _ _ _ _ _ r h=>by simp[nV.j3]at h,fun _ _ _ _ _ _ _ _ _ _ _ r h=>by simp[nV.j4]at h,fun _ _ _ _ _ _ _ _ _ _ _ _ _ r h=>by simp[nV.l1]at h,fun _ _ _ _ _ _ _ _ _ _ _ r h=>by simp[nV.l2]at h,fun _ _ _ _ _ _ _ _ _ _ _ _ r h=>by simp[nV.l3]at h⟩
 |k+1=>by
  obtain⟨cP,cQ,cS,cT,cU,cV,cW,cX⟩:=nV.tO k;refine⟨?_,?_,?_,?_,?_,?_,?_,?_⟩<;>intros
  all_goals (first|unfold nV.j0|unfold nV.l0|unfold nV.j2|unfold nV.j3|unfold nV.j4|unfold nV.l1|unfold nV.l2|unfold nV.l3);exact uB cP cQ cS cT cU cV cW cX qL.mono qQ.mono sD.mono wX.mono
theorem nV.mono:∀a0 a1 a2 a3 k,LeO (nV.f k a0 a1 a2 a3) (nV.f (k+1) a0 a1 a2 a3):=by intro a0 a1 a2 a3 k;obtain⟨cP,cQ,cS,cT,cU,cV,cW,cX⟩:=nV.tO k;unfold nV.f;exact uB cP cQ cS cT cU cV cW cX qL.mono qQ.mono sD.mono wX.mono
def nV.T10:Bool×List (List Nat×List Nat):=(true,[([],[]),([0],[0]),([1],[1]),([],[]),([],[]),([4],[4]),([5],[5]),([3,6],[3,6]),([7],[7]),([2,0,1,2],[2]),([8,9,0,1,2,3,4,5,6,7,8,9],[8])])
def nV.B10:List Nat:=[0,1,3,0,0,16,48,120,248,7,1023]
theorem nV.DC:qj .any (opsOf Try.f19 10)=nV.T10:=by kernel_rfl
theorem nV.Cc:qV nV.T10.2 nV.B10=true:=by kernel_rfl
def nV.T29:Bool×List (List Nat×List Nat):=(true,[([],[]),([],[]),([1],[1]),([0,2],[0,2]),([3],[3]),([],[]),([],[]),([5,6],[5,6]),([7],[7]),([4,8],[4,8]),([],[]),([10,9,9,0,1,2,3,4,5,6,7,8,9,10],[9,10])])
def nV.B29:List Nat:=[0,0,2,7,15,0,0,96,224,511,0,2047]
theorem nV.JW:qj .any (opsOf Try.f19 29)=nV.T29:=by kernel_rfl
theorem nV.GM:qV nV.T29.2 nV.B29=true:=by kernel_rfl
theorem nV.calls (k:Nat) (ag:Int) (aM:Option Addr) (aN:Nat) (ai:List (S59)) (A1:Option Addr) (c1:Nat) (l1:List (List Int)) (l2:List Int) (r:Bool) (w:World) (dI:Kd.C k59 w aM ai.length ai) (dJ:ai.length<=aN) (hr1:Kd.C (Kd.slice 3 (Kd.int .i64)) w A1 l1.length l1) (fm:l1.length<=c1) (h:nV.f k ag ai l1 l2=some r):
  Calls Try.prog 19 #[.agg #[.int .i64 ag,.slice aM ai.length aN],.slice A1 l1.length c1] w fun e w'=>e=.returned (.bool r)/\Below w.heap.size w w':=by
 have ix:=Try.underlying31;have iy:=Try.underlying59;have cp:=dm dI;have cq:=dm dJ;clear dI dJ;have gn:=dm hr1;have iP:=dm fm;clear hr1 fm;have HB:=dm (Below.refl w.heap.size w);unfold nV.f at h;have H:=h;clear h;have es:=dm H;clear H
 go_enter Try.func19,Try.ntmps19
 go_upto_region 1 with(first|((with_reducible refine nU 2 rfl ?_);(try(refine rT (by rfl) ?_;dsimp only));refine vI 2 #[.int .i64 ag,.slice aM ai.length aN] 31 ?_;intro az hg w5 nu hb;have ab:=dm (nu);have gU:=dm (nO:w.heap.size<=az);have gV:=dm (nO:w.heap.size<=az);replace HB:=nI HB hb;clear hb nu hg))
 (try simp only [Act.put,List.setIfInBounds_toArray,List.set_cons_zero,List.set_cons_succ])
 go_cut [25] (fun gp wc=>∃ (kq:Nat) (bW:Bool),gp=.bool bW/\lm (nV.j0 kq l1 l2 bW ag ai=some r)/\lm (kq<=k)/\lm (wc.heap[az]? =some (.cells #[.int .i64 ag,(.slice aM ai.length aN)] 31 (0,0)))/\lm (Below w.heap.size w wc))
 case first=>
  have H:=es.out;clear es;obtain⟨bR,A6,H⟩:=ow H;(try dsimp only at H)
  rcases pW H with⟨h_,H_⟩|⟨h_,H_⟩<;> (subst h_;clear H;have H:=H_;clear H_)
  ·have H':=dm H;clear H;have⟨gq,gr,gs,gt⟩:=nJ (w:=w5) ab
   go_wp2_with (first|((with_reducible refine xg (f:=50) rfl ?_);refine wC (some 19) rfl rfl Try.func50 (oz) rfl #[.agg #[.int .i64 ag,.slice aM ai.length aN]] rfl (wS) ?_;refine(qL.calls (nS (oG cp.out HB.out)) cq.out A6.out).mono ?_;rintro e w9 ⟨rfl,hb⟩;refine⟨_,rfl,?_⟩;replace ab:=nA ab hb;replace HB:=nI HB hb;(try clear hb)))
   go_meet
   case rel=>exact⟨_,(((l1.length:Int)==0)),(nQ),H',⟨by first|omega|exact Nat.le_refl _⟩,⟨nE ab.out⟩,⟨ny HB.out⟩⟩
  have H':=dm H;clear H;have⟨fL,fM,fN,fO⟩:=nJ (w:=w5) ab
  go_wp2_with (first|((with_reducible refine xg (f:=50) rfl ?_);refine wC (some 19) rfl rfl Try.func50 (oz) rfl #[.agg #[.int .i64 ag,.slice aM ai.length aN]] rfl (wS) ?_;refine(qL.calls (nS (oG cp.out HB.out)) cq.out A6.out).mono ?_;rintro e iQ ⟨rfl,hb⟩;refine⟨_,rfl,?_⟩;replace ab:=nA ab hb;replace HB:=nI HB hb;(try clear hb)))
  go_meet
  case rel=>exact⟨_,(true),(nQ),H',⟨by first|omega|exact Nat.le_refl _⟩,⟨nE ab.out⟩,⟨ny HB.out⟩⟩
 case rest=>
  clear es;obtain⟨kq,bW,rfl,HA,bj,ab,HB⟩:=hcut;cases kq with
  |zero=>exact absurd HA.out (by simp[nV.j0])
  |succ dK=>
   have H:=HA.out;clear HA;simp only [nV.j0]at H
   rcases pW H with⟨h_,H_⟩|⟨h_,H_⟩<;> (subst h_;clear H;have H:=H_;clear H_)
   ·obtain rfl:=Option.some.inj H
    go_wp2
    go_ret
    exact⟨qM,ny HB.out⟩
   skip
   obtain⟨cZ,H⟩:=qh H;have eE:=eq_true cZ;have eF:=decide_eq_true cZ;clear cZ
   obtain⟨c_,H⟩:=qh H;have eG:=eq_true c_;have eH:=decide_eq_true c_;clear c_;obtain⟨et,bI⟩:∃y_:List Bool,y_=(List.replicate (ag:Int).toNat false):=⟨_,rfl⟩;replace H:(nV.l0 dK l2 et l1 (l1.length:Int) 0 ag ai [] 0)=some r:=pG bI H
   have dL:=dm bI;clear bI;have H':=dm H;clear H
   go_wp2_with (first|((with_reducible refine nU 26 rfl ?_);refine Fu 26 ?_;intro ax hg gu nu hb;have ac:=dm (nu);have gW:=dm (nO:w.heap.size<=ax);have eI:=dm (nO:w.heap.size<=ax);replace HB:=nI HB hb;have aQ:=dm (Bg:az≠ax);have aT:=dm (Bh:ax≠az);replace ab:=nA ab hb;clear hb nu hg;have gX:=aQ.out;have gY:=aT.out;have⟨ej,ek,el,em⟩:=nJ (w:=gu) ab)|((with_reducible refine nU 29 rfl ?_);(try(refine rT (by rfl) ?_;dsimp only));refine Gr Kd.bool _ 4 rfl (N:=29) rfl 54 _ _ rfl ag rfl rfl Try.underlying54 (.bool false) 1 I4 rfl (by decide) (by omega) false (ok:=fun _=>True) (okp:=fun _=>True) rfl (fun _ hk=>hk) trivial nC (Nat.le_trans (Nat.mul_le_mul_right _ (of_decide_eq_true (wz):ag.toNat<=281474976710656)) (by omega)) (Below.refl _ _) (Nat.le_refl _) ?_;intro a6 iR b5 hb hg_ pE;clear hg_ pE;(first|rw[←dL.out]at b5|(simp only [Int.reduceToNat]at b5;rw[←dL.out]at b5));have eJ:=dm (oJ b5 (ou (ny HB.out)));replace ab:=nA ab hb;replace ac:=nA ac hb;replace HB:=nI HB hb;clear hb b5))
   go_loopg [32] dK (fun kq gv w'=>∃ (aj:List Bool) (aa:Int) (af:List (S59)),gv=.int .i64 aa/\lm (nV.l0 kq l2 aj l1 (l1.length:Int) aa ag ai af 0=some r)/\lm (kq<=dK)/\lm (Kd.R Kd.bool 4 w' w.heap.size (fun _=>True) a6 aj)/\lm (w'.heap[az]? =some (.cells #[.int .i64 ag,(.slice aM ai.length aN)] 31 (0,0)))/\lm (w'.heap[ax]? =some (qo af))/\lm (Below w.heap.size w w'))
   case atStart=>exact⟨(et),(0),[],(nQ),H',⟨Nat.le_refl _⟩,⟨nH eJ.out⟩,⟨nE ab.out⟩,⟨nE ac.out⟩,⟨ny HB.out⟩⟩
   case round=>
    clear H';(try clear cY eE eF eG eH ej ek el em);obtain⟨aj,aa,af,rfl,HA,bk,ae,ab,ac,HB⟩:=hrel;cases gk with
    |zero=>exact absurd HA.out (by simp[nV.l0])
    |succ k2=>
     have H:=HA.out;clear HA;simp only [nV.l0]at H
     replace H:=pU H;rcases H with⟨dM,H⟩|⟨dM,H⟩
     ·skip
      obtain⟨eK,H⟩:=oC H
      obtain⟨eL,H⟩:=oC H;have du:=dm H;clear H;have cr:0<=(aa:Int):=nC;have ct:aa<(l1.length:Int):=nC;obtain⟨gZ,gw,bJ,fq,bS,cf,cg⟩:=sK gn.out aa cr ct;cases fq;replace bS:=nG HB bS;have aO:=dm cg;have bT:=dm cf;clear cg cf;replace cr:=eq_true cr;replace ct:=eq_true ct
      go_upto_region 8 with(fail)
      go_cut [45] (fun gx wc=>∃ (kq:Nat) (bK:Bool),gx=.bool bK/\lm (nV.j2 kq l2 aj aa (nL l1 aa) l1 (l1.length:Int) aa bK ag ai af 0=some r)/\lm (kq<=k2)/\lm (Kd.R Kd.bool 4 wc w.heap.size (fun _=>True) a6 aj)/\lm (wc.heap[az]? =some (.cells #[.int .i64 ag,(.slice aM ai.length aN)] 31 (0,0)))/\lm (wc.heap[ax]? =some (qo af))/\lm (Below w.heap.size w wc))
      case first=>
       have H:=du.out;clear du
       by_cases ch:((nL l1 aa).length:Int)<2
       ·rw[if_pos ch]at H;have bL:=decide_eq_true ch;have eM:decide ((nL l1 aa).length<2)=true:=decide_eq_true (by omega);clear ch;(first|rw[bL]|(simp only [qP,si];rw[bL])|skip);have H':=dm H;clear H
        go_wp2
        go_meet
        case rel=>exact⟨_,(true),(nQ),H',⟨by have:=bj.out;have:=bk.out;first|omega|exact Nat.le_refl _⟩,⟨nH ae.out⟩,⟨nE ab.out⟩,⟨nE ac.out⟩,⟨ny HB.out⟩⟩
       rw[if_neg ch]at H;have bL:=decide_eq_false ch;have eM:decide ((nL l1 aa).length<2)=false:=decide_eq_false (by omega);clear ch;(first|rw[bL]|(simp only [qP,si];rw[bL])|skip);obtain⟨b0,gy,H⟩:=ow H;(try dsimp only at H);have H':=dm H;clear H;have g0:=aQ.out;have g1:=aT.out;have⟨fP,fQ,fR,fS⟩:=nJ (w:=wr) ab
       go_wp2_with (first|(go_at_call 51;refine(qQ.calls (nS (oG cp.out HB.out)) cq.out (nS (oG aO.out HB.out)) bT.out gy.out).mono ?_;rintro e iS ⟨rfl,hb⟩;replace ae:=oh ae hb;replace ab:=nA ab hb;replace ac:=nA ac hb;replace HB:=nI HB hb;(try clear hb)))
       go_meet
       case rel=>exact⟨_,(!b0),(nQ),H',⟨by have:=bj.out;have:=bk.out;first|omega|exact Nat.le_refl _⟩,⟨nH ae.out⟩,⟨nE ab.out⟩,⟨nE ac.out⟩,⟨ny HB.out⟩⟩
      case rest=>
       clear du;(try clear dM eK eL bS cr ct);obtain⟨kq,bK,rfl,HA,a_,ae,ab,ac,HB⟩:=hcut;cases kq with
       |zero=>exact absurd HA.out (by simp[nV.j2])
       |succ a7=>
        have H:=HA.out;clear HA;simp only [nV.j2]at H
        rcases pW H with⟨h_,H_⟩|⟨h_,H_⟩<;> (subst h_;clear H;have H:=H_;clear H_)
        ·obtain rfl:=Option.some.inj H
         go_wp2
         go_ret
         exact⟨qM,ny HB.out⟩
        skip
        obtain⟨dP,H⟩:=qh H;have eN:=decide_eq_true dP;have eO:decide (0<(nL l1 aa).length)=true:=decide_eq_true (by omega);clear dP;obtain⟨au,aY⟩:∃j_:Int,(wrap64 (((nL l1 aa).length:Int) - 1))=j_:=⟨_,rfl⟩;replace H:(if 0<=(au) then(if(au)<((nL l1 aa).length:Int) then(if(rd (nL l1 aa) 0)=(rd (nL l1 aa) (au)) then(if((nL l1 aa).length:Int)<4 then(nV.j3 a7 l2 aj aa (nL l1 aa) (rd (nL l1 aa) 0) (rd (nL l1 aa) (au)) l1 (l1.length:Int) aa true ag ai af 0) else(if aa=0 then(nV.j3 a7 l2 aj aa (nL l1 aa) (rd (nL l1 aa) 0) (rd (nL l1 aa) (au)) l1 (l1.length:Int) aa ((rd (nL l1 aa) 0) !=(rd (nL l1 aa) (au))) ag ai af 0) else(nV.j3 a7 l2 aj aa (nL l1 aa) (rd (nL l1 aa) 0) (rd (nL l1 aa) (au)) l1 (l1.length:Int) aa false ag ai af 0))) else(if aa=0 then(nV.j3 a7 l2 aj aa (nL l1 aa) (rd (nL l1 aa) 0) (rd (nL l1 aa) (au)) l1 (l1.length:Int) aa ((rd (nL l1 aa) 0) !=(rd (nL l1 aa) (au))) ag ai af 0) else(nV.j3 a7 l2 aj aa (nL l1 aa) (rd (nL l1 aa) 0) (rd (nL l1 aa) (au)) l1 (l1.length:Int) aa false ag ai af 0))) else(none)) else(none))=some r:=by first|(rw[aY]at H;exact H)|(simp only [aY]at H⊢;exact H)
        have gz:(IntKind.i64.wrap (((nL l1 aa).length:Int) - 1))=au:=(qP _).trans aY
        obtain⟨eP,H⟩:=oC H
        obtain⟨eQ,H⟩:=oC H;have dv:=dm H;clear H;try go_wp2
        replace ae:=dm (nP ae.out);replace ab:=dm (oq ab.out);replace ac:=dm (oq ac.out);replace HB:=dm (pI HB.out);have cu:0<=(0:Int):=(by omega);have cv:0<((nL l1 aa).length:Int):=nC;obtain⟨aJ,ft,aW⟩:=oL aO.out 0 cu cv;have bn:=aW;(try rw[show((0:Int)).toNat=0 from rfl]at bn);(try rw[show 0*1=0 from rfl]at bn);(try rw[Addr.add_zero']at bn);cases ft;have g2:(0<(nL l1 aa).length)=True:=eq_true (by omega);(try rw[show((0:Int)).toNat=0 from rfl]at aW);(try rw[Addr.add_zero']at aW);replace aW:=nG HB aW;replace cu:=eq_true cu;replace cv:=eq_true cv;have cw:0<=((au):Int):=nC;have cx:(au)<((nL l1 aa).length:Int):=nC;obtain⟨eR,fu,ba⟩:=oL aO.out (au) cw cx;have en:=ba;obtain rfl:aJ=eR:=(by injection fu);replace ba:=nG HB ba;replace cw:=eq_true cw;replace cx:=eq_true cx;refine zL (n:=11) (S:=fun w'=>w'.cell? aJ=some (.int .i64 (rd (nL l1 aa) 0))/\w'.cell? (aJ.add ((au)).toNat)=some (.int .i64 (rd (nL l1 aa) (au)))) (ds:=[]) (pQ 11 0) (oz) rfl (oz) ⟨(nG HB bn),(nG HB en)⟩ (fun hHeld=>?_);refine DT nV.DC nV.Cc (fun HT_ HW_=>?_);generalize wc.drew=iT at ae ab ac HB aW ba hHeld⊢;refine lq 0 46 1 ?_;refine lq 1 47 3 ?_;refine lq 3 49 11 ?_;refine lq 4 50 27 ?_;refine lq 5 51 59 ?_;refine lq 6 52 123 ?_;refine lq 7 53 251 ?_;refine nT 2 48 255 ?_;refine lq 9 9 767 ?_;refine nT 8 54 1023 ?_;refine lq 10 10 2047 ?_;refine pY (p8 HT_.out (oz)) ?_
        go_upto_region 11 with(fail)
        go_cut [71] (fun gA wc=>∃ (kq:Nat) (bM:Bool),gA=.bool bM/\lm (nV.j3 kq l2 aj aa (nL l1 aa) (rd (nL l1 aa) 0) (rd (nL l1 aa) (au)) l1 (l1.length:Int) aa bM ag ai af 0=some r)/\lm (kq<=a7)/\lm (Kd.R Kd.bool 4 wc w.heap.size (fun _=>True) a6 aj)/\lm (wc.heap[az]? =some (.cells #[.int .i64 ag,(.slice aM ai.length aN)] 31 (0,0)))/\lm (wc.heap[ax]? =some (qo af))/\lm (Below w.heap.size w wc))
        case first=>
         have H:=dv.out;clear dv
         by_cases b6:(rd (nL l1 aa) 0)=(rd (nL l1 aa) (au))
         ·rw[if_pos b6]at H;have bN:=beq_iff_eq.mpr b6;have eS:=bne_eq_false_iff_eq.mpr b6;clear b6;(first|rw[bN]|(simp only [qP,si];rw[bN])|skip)
          by_cases ci:((nL l1 aa).length:Int)<4
          ·rw[if_pos ci]at H;have eT:=decide_eq_true ci;have eU:decide ((nL l1 aa).length<4)=true:=decide_eq_true (by omega);clear ci;have H':=dm H;clear H
           go_wp2
           go_meet
           case rel=>exact⟨_,(true),(nQ),H',⟨Bi⟩,⟨nH ae.out⟩,⟨nE ab.out⟩,⟨nE ac.out⟩,⟨ny HB.out⟩⟩
          rw[if_neg ci]at H;have eT:=decide_eq_false ci;have eU:decide ((nL l1 aa).length<4)=false:=decide_eq_false (by omega);clear ci
          by_cases b7:aa=0
          ·rw[if_pos b7]at H;have eV:=beq_iff_eq.mpr b7;have eW:=bne_eq_false_iff_eq.mpr b7;clear b7;have H':=dm H;clear H
           go_wp2
           go_meet
           case rel=>exact⟨_,(((rd (nL l1 aa) 0) !=(rd (nL l1 aa) (au)))),(by first|rfl|(simp;done)|(simp[*];done)|(simp only [←aY];done)|(simp[bne, *];done)),H',⟨Bi⟩,⟨nH ae.out⟩,⟨nE ab.out⟩,⟨nE ac.out⟩,⟨ny HB.out⟩⟩
          rw[if_neg b7]at H;have eV:=beq_eq_false_iff_ne.mpr b7;have eW:=bne_iff_ne.mpr b7;have H':=dm H;clear H
          go_wp2
          go_meet
          case rel=>exact⟨_,(false),(nQ),H',⟨Bi⟩,⟨nH ae.out⟩,⟨nE ab.out⟩,⟨nE ac.out⟩,⟨ny HB.out⟩⟩
         rw[if_neg b6]at H;have bN:=beq_eq_false_iff_ne.mpr b6;have eS:=bne_iff_ne.mpr b6;(first|rw[bN]|(simp only [qP,si];rw[bN])|skip)
         by_cases b8:aa=0
         ·rw[if_pos b8]at H;have eX:=beq_iff_eq.mpr b8;have eY:=bne_eq_false_iff_eq.mpr b8;clear b8;have H':=dm H;clear H
          go_wp2
          go_meet
          case rel=>exact⟨_,(((rd (nL l1 aa) 0) !=(rd (nL l1 aa) (au)))),(by first|rfl|(simp;done)|(simp[*];done)|(simp only [←aY];done)|(simp[bne, *];done)),H',⟨Bi⟩,⟨nH ae.out⟩,⟨nE ab.out⟩,⟨nE ac.out⟩,⟨ny HB.out⟩⟩
         rw[if_neg b8]at H;have eX:=beq_eq_false_iff_ne.mpr b8;have eY:=bne_iff_ne.mpr b8;have H':=dm H;clear H
         go_wp2
         go_meet
         case rel=>exact⟨_,(false),(nQ),H',⟨Bi⟩,⟨nH ae.out⟩,⟨nE ab.out⟩,⟨nE ac.out⟩,⟨ny HB.out⟩⟩
        case rest=>
         clear dv;(try clear da eN eO eP eQ aW ba cu cw cv cx);obtain⟨kq,bM,rfl,HA,bf,ae,ab,ac,HB⟩:=hcut;cases kq with
         |zero=>exact absurd HA.out (by simp[nV.j3])
         |succ bu=>
          have H:=HA.out;clear HA;simp only [nV.j3]at H
          rcases pW H with⟨h_,H_⟩|⟨h_,H_⟩<;> (subst h_;clear H;have H:=H_;clear H_)
          ·obtain rfl:=Option.some.inj H
           go_wp2
           go_ret
           exact⟨Bf,ny HB.out⟩
          skip
          obtain⟨dc,H⟩:=qh H;have eZ:=eq_true dc;have e2:=decide_eq_true dc;clear dc
          obtain⟨dd,H⟩:=qh H;have e3:=eq_true dd;have e4:=decide_eq_true dd;clear dd;have dw:=dm H;clear H;obtain⟨iz,dS,_,dT,_⟩:=info_parts info3;obtain⟨gB,eu,ev,ew⟩:=OB (P:=Try.prog) (Value.int .i64) 0 45 3 .i64 .i64 Try.underlying45 dS dT (some aJ) bJ (nL l1 aa) 1 (wrap64 (((nL l1 aa).length:Int) - 1)) (by omega) (by first|omega|exact of_decide_eq_true (wz)) nC bT.out;simp only [aY]at eu;have e5:=dm (yV (h1:=fun _=>rfl) (ev _ (yQ aO.out)));have e6:=dm ew;clear ev ew dS dT
          go_upto_if 78 with(fail)
          go_cut [11] (fun gC wc=>∃ (kq:Nat) (ak:List Int) (A2:Option Addr) (c2:Nat),gC=.slice A2 ak.length c2/\lm (Kd.C (Kd.int .i64) w A2 ak.length ak)/\lm (ak.length<=c2)/\lm (nV.j4 kq l2 aj (nL l1 aa) ak l1 (l1.length:Int) aa ag ai af 0=some r)/\lm (kq<=bu)/\lm (Kd.R Kd.bool 4 wc w.heap.size (fun _=>True) a6 aj)/\lm (wc.heap[az]? =some (.cells #[.int .i64 ag,(.slice aM ai.length aN)] 31 (0,0)))/\lm (wc.heap[ax]? =some (qo af))/\lm (Below w.heap.size w wc))
          case first=>
           have H:=dw.out;clear dw
           by_cases b9:aa=0
           ·rw[if_pos b9]at H;have bO:=beq_iff_eq.mpr b9;have e7:=bne_eq_false_iff_eq.mpr b9;clear b9;(first|rw[bO]|(simp only [qP,si];rw[bO])|skip)
            obtain⟨de,H⟩:=qh H;have g3:=eq_true de;have g4:=decide_eq_true de;clear de;have H':=dm H;clear H;obtain⟨iA,dU,_,dV,_⟩:=info_parts info3;obtain⟨gD,gE,ex,ey⟩:=OA (P:=Try.prog) (Value.int .i64) 0 45 3 .i64 Try.underlying45 dU dV (some aJ) bJ (nL l1 aa) 1 (by omega) nC bT.out;have e8:=dm (yV (h1:=fun _=>rfl) (ex _ (yQ aO.out)));have e9:=dm ey;clear ex ey dU dV
            go_wp2
            go_meet
            case rel=>exact⟨_,((nL l1 aa).drop 1),gD,bJ - 1,(by first|rfl|(simp[List.length_drop,List.length_take];done)|(simp[List.length_drop,List.length_take,←aY];done)),e8,e9,H',⟨by have:=bj.out;have:=bk.out;have:=a_.out;have:=bf.out;first|omega|exact Nat.le_refl _⟩,⟨nH ae.out⟩,⟨nE ab.out⟩,⟨nE ac.out⟩,⟨ny HB.out⟩⟩
           rw[if_neg b9]at H;have bO:=beq_eq_false_iff_ne.mpr b9;have e7:=bne_iff_ne.mpr b9;(first|rw[bO]|(simp only [qP,si];rw[bO])|skip)
           obtain⟨g5,H⟩:=oC H
           obtain⟨g6,H⟩:=oC H;obtain⟨ez,cy⟩:∃b_:Bool,b_=(qp false aj (rd (nL l1 aa) 0)):=⟨_,rfl⟩;replace H:(if ez=true then(if 0<=(rd (nL l1 aa) (au)) then(if(rd (nL l1 aa) (au))<(aj.length:Int) then(if qp false aj (rd (nL l1 aa) (au))=true then(nV.j4 bu l2 aj (nL l1 aa) (((nL l1 aa).take (wrap64 (((nL l1 aa).length:Int) - 1)).toNat).drop 1) l1 (l1.length:Int) aa ag ai af 0) else(some false)) else(none)) else(none)) else(some false))=some r:=by rw[←cy]at H;exact H
           have bP:=dm cy;clear cy
           rcases pW H with⟨h_,H_⟩|⟨h_,H_⟩<;> (subst h_;clear H;have H:=H_;clear H_)
           ·skip
            obtain⟨g7,H⟩:=oC H
            obtain⟨g8,H⟩:=oC H;obtain⟨eA,cz⟩:∃b_:Bool,b_=(qp false aj (rd (nL l1 aa) (au))):=⟨_,rfl⟩;replace H:(if eA=true then(nV.j4 bu l2 aj (nL l1 aa) (((nL l1 aa).take (wrap64 (((nL l1 aa).length:Int) - 1)).toNat).drop 1) l1 (l1.length:Int) aa ag ai af 0) else(some false))=some r:=by rw[←cz]at H;exact H
            have bX:=dm cz;clear cz
            rcases pW H with⟨h_,H_⟩|⟨h_,H_⟩<;> (subst h_;clear H;have H:=H_;clear H_)
            ·have H':=dm H;clear H;obtain⟨iB,iC,fv⟩:=nY ae.out;subst fv;have a8:0<=((rd (nL l1 aa) 0):Int):=nC;have a9:(rd (nL l1 aa) 0)<(aj.length:Int):=nC;obtain⟨bY,ca,aX⟩:=wT (nM ae.out).2.2 (rd (nL l1 aa) 0) a8 a9;(try rw[←bP.out]at aX);(try rw[←bX.out]at aX);cases ca;replace a8:=eq_true a8;replace a9:=eq_true a9;have bv:0<=((rd (nL l1 aa) (au)):Int):=nC;have bw:(rd (nL l1 aa) (au))<(aj.length:Int):=nC;obtain⟨cA,dx,bc⟩:=wT (nM ae.out).2.2 (rd (nL l1 aa) (au)) bv bw;(try rw[←bP.out]at bc);(try rw[←bX.out]at bc);obtain rfl:bY=cA:=(by injection dx);replace bv:=eq_true bv;replace bw:=eq_true bw
             go_wp2
             go_meet
             case rel=>exact⟨_,(((nL l1 aa).take (wrap64 (((nL l1 aa).length:Int) - 1)).toNat).drop 1),gB,bJ - 1,(by first|rfl|(simp[List.length_drop,List.length_take];done)|(simp[List.length_drop,List.length_take,←aY];done)),e5,e6,H',⟨by have:=bj.out;have:=bk.out;have:=a_.out;have:=bf.out;first|omega|exact Nat.le_refl _⟩,⟨nH ae.out⟩,⟨nE ab.out⟩,⟨nE ac.out⟩,⟨ny HB.out⟩⟩
            obtain rfl:=Option.some.inj H;obtain⟨iD,iE,fw⟩:=nY ae.out;subst fw;have a8:0<=((rd (nL l1 aa) 0):Int):=nC;have a9:(rd (nL l1 aa) 0)<(aj.length:Int):=nC;obtain⟨bY,ca,aX⟩:=wT (nM ae.out).2.2 (rd (nL l1 aa) 0) a8 a9;(try rw[←bP.out]at aX);(try rw[←bX.out]at aX);cases ca;replace a8:=eq_true a8;replace a9:=eq_true a9;have bv:0<=((rd (nL l1 aa) (au)):Int):=nC;have bw:(rd (nL l1 aa) (au))<(aj.length:Int):=nC;obtain⟨cA,dx,bc⟩:=wT (nM ae.out).2.2 (rd (nL l1 aa) (au)) bv bw;(try rw[←bP.out]at bc);(try rw[←bX.out]at bc);obtain rfl:bY=cA:=(by injection dx);replace bv:=eq_true bv;replace bw:=eq_true bw
            go_wp2
            go_ret
            exact⟨Bf,ny HB.out⟩
           obtain rfl:=Option.some.inj H;obtain⟨iF,iG,fx⟩:=nY ae.out;subst fx;have a8:0<=((rd (nL l1 aa) 0):Int):=nC;have a9:(rd (nL l1 aa) 0)<(aj.length:Int):=nC;obtain⟨bY,ca,aX⟩:=wT (nM ae.out).2.2 (rd (nL l1 aa) 0) a8 a9;(try rw[←bP.out]at aX);cases ca;replace a8:=eq_true a8;replace a9:=eq_true a9
           go_wp2
           go_ret
           exact⟨Bf,ny HB.out⟩
          case rest=>
           clear dw;(try clear db eZ e2 e3 e4);obtain⟨kq,ak,A2,c2,rfl,d4,fo,HA,bq,ae,ab,ac,HB⟩:=hcut;cases kq with
           |zero=>exact absurd HA.out (by simp[nV.j4])
           |succ bU=>
            have H:=HA.out;clear HA;simp only [nV.j4]at H;obtain⟨co,fp,H⟩:=ow H;(try dsimp only at H)
            rcases pW H with⟨h_,H_⟩|⟨h_,H_⟩<;> (subst h_;clear H;have H:=H_;clear H_)
            ·have H':=dm H;clear H
             go_wp2_with (first|((with_reducible refine xg (f:=52) rfl ?_);refine wC (some 94) rfl rfl Try.func52 (oz) rfl #[.slice A2 ak.length c2] rfl (wS) ?_;refine(sD.calls (nS (oG d4.out HB.out)) fo.out fp.out).mono ?_;rintro e w' ⟨rfl,⟨nd,rfl⟩⟩;refine⟨_,rfl,?_⟩))
             go_loopg [98] bU (fun kq gF w'=>∃ (aE:Int),gF=.int .i64 aE/\lm (nV.l1 kq l2 aj (nL l1 aa) l1 (l1.length:Int) aa ak (ak.length:Int) aE ag ai af 0=some r)/\lm (kq<=bU)/\lm (Kd.R Kd.bool 4 w' w.heap.size (fun _=>True) a6 aj)/\lm (w'.heap[az]? =some (.cells #[.int .i64 ag,(.slice aM ai.length aN)] 31 (0,0)))/\lm (w'.heap[ax]? =some (qo af))/\lm (Below w.heap.size w w'))
             case atStart=>exact⟨(0),(nQ),H',⟨Nat.le_refl _⟩,⟨nH ae.out⟩,⟨nE ab.out⟩,⟨nE ac.out⟩,⟨ny HB.out⟩⟩
             case round=>
              clear H';(try clear c2 df);obtain⟨aE,rfl,HA,bZ,ae,ab,ac,HB⟩:=hrel;cases gk with
              |zero=>exact absurd HA.out (by simp[nV.l1])
              |succ k6=>
               have H:=HA.out;clear HA;simp only [nV.l1]at H
               replace H:=pU H;rcases H with⟨d5,H⟩|⟨d5,H⟩
               ·skip
                obtain⟨g9,H⟩:=oC H
                obtain⟨g_,H⟩:=oC H
                obtain⟨hD,H⟩:=oC H
                obtain⟨hJ,H⟩:=oC H;obtain⟨eB,cD⟩:∃b_:Bool,b_=(qp false aj (rd ak aE)):=⟨_,rfl⟩;replace H:(if eB=true then(some false) else(nV.l1 k6 l2 aj (nL l1 aa) l1 (l1.length:Int) aa ak (ak.length:Int) (wrap64 (aE+1)) ag ai af 0))=some r:=by rw[←cD]at H;exact H
                have d_:=dm cD;clear cD
                rcases pW H with⟨h_,H_⟩|⟨h_,H_⟩<;> (subst h_;clear H;have H:=H_;clear H_)
                ·obtain rfl:=Option.some.inj H;have bx:0<=(aE:Int):=nC;have bz:aE<(ak.length:Int):=nC;obtain⟨fa,dy,bd⟩:=oL d4.out aE bx bz;cases dy;replace bd:=nG HB bd;replace bx:=eq_true bx;replace bz:=eq_true bz;obtain⟨iH,iI,fy⟩:=nY ae.out;subst fy;have bA:0<=((rd ak aE):Int):=nC;have bB:(rd ak aE)<(aj.length:Int):=nC;obtain⟨fb,dz,bV⟩:=wT (nM ae.out).2.2 (rd ak aE) bA bB;(try rw[←d_.out]at bV);cases dz;replace bA:=eq_true bA;replace bB:=eq_true bB
                 go_wp2
                 go_ret
                 exact⟨Bf,ny HB.out⟩
                have H':=dm H;clear H;have bx:0<=(aE:Int):=nC;have bz:aE<(ak.length:Int):=nC;obtain⟨fa,dy,bd⟩:=oL d4.out aE bx bz;cases dy;replace bd:=nG HB bd;replace bx:=eq_true bx;replace bz:=eq_true bz;obtain⟨iJ,iK,fz⟩:=nY ae.out;subst fz;have bA:0<=((rd ak aE):Int):=nC;have bB:(rd ak aE)<(aj.length:Int):=nC;obtain⟨fb,dz,bV⟩:=wT (nM ae.out).2.2 (rd ak aE) bA bB;(try rw[←d_.out]at bV);cases dz;replace bA:=eq_true bA;replace bB:=eq_true bB
                go_wp2
                go_roundg k6
                case measure=>have:=bj.out;have:=bk.out;have:=a_.out;have:=bf.out;have:=bq.out;have:=bZ.out;omega
                case rel=>exact⟨(wrap64 (aE+1)),(nQ),H',⟨by have:=bj.out;have:=bk.out;have:=a_.out;have:=bf.out;have:=bq.out;have:=bZ.out;omega⟩,⟨nH ae.out⟩,⟨nE ab.out⟩,⟨nE ac.out⟩,⟨ny HB.out⟩⟩
               have H':=dm H;clear H
               go_wp2
               go_loopg [14] k6 (fun kq gG w'=>∃ (al:Int) (ao:List (S59)),gG=.int .i64 al/\lm (nV.l2 kq l2 aj (nL l1 aa) al l1 (l1.length:Int) aa ag ai ao 0=some r)/\lm (kq<=k6)/\lm (Kd.R Kd.bool 4 w' w.heap.size (fun _=>True) a6 aj)/\lm (w'.heap[az]? =some (.cells #[.int .i64 ag,(.slice aM ai.length aN)] 31 (0,0)))/\lm (w'.heap[ax]? =some (qo ao))/\lm (Below w.heap.size w w'))
               case atStart=>exact⟨(1),(af),(nQ),H',⟨Nat.le_refl _⟩,⟨nH ae.out⟩,⟨nE ab.out⟩,⟨nE ac.out⟩,⟨ny HB.out⟩⟩
               case round=>
                clear H';(try clear d5);obtain⟨al,ao,rfl,HA,cM,ae,ab,ac,HB⟩:=hrel;cases gk with
                |zero=>exact absurd HA.out (by simp[nV.l2])
                |succ k7=>
                 have H:=HA.out;clear HA;simp only [nV.l2]at H
                 replace H:=pU H;rcases H with⟨eb,H⟩|⟨eb,H⟩
                 ·obtain⟨aH,bH⟩:∃j_:Int,(wrap64 (al - 1))=j_:=⟨_,rfl⟩;replace H:(if 0<=(aH) then(if(aH)<((nL l1 aa).length:Int) then(if 0<=al then((vS.f (rd (nL l1 aa) (aH)) (rd (nL l1 aa) al)).bind fun a4=>(if rM ao a4.1 a4.2=true then(some false) else(nV.l2 k7 l2 aj (nL l1 aa) (wrap64 (al+1)) l1 (l1.length:Int) aa ag ai (ao++[⟨a4.1,a4.2⟩]) 0))) else(none)) else(none)) else(none))=some r:=by first|(rw[bH]at H;exact H)|(simp only [bH]at H⊢;exact H)
                  have gH:(IntKind.i64.wrap (al - 1))=aH:=(qP _).trans bH
                  obtain⟨hU,H⟩:=oC H
                  obtain⟨hV,H⟩:=oC H
                  obtain⟨hX,H⟩:=oC H;obtain⟨⟨aU,aV⟩,ef,H⟩:=ow H;(try dsimp only at H)
                  by_cases dg:rM ao aU aV=true
                  ·rw[if_pos dg]at H;obtain rfl:=Option.some.inj H;try go_wp2
                   replace ae:=dm (nP ae.out);replace ab:=dm (oq ab.out);replace ac:=dm (oq ac.out);replace HB:=dm (pI HB.out);have bC:0<=((aH):Int):=nC;have bD:(aH)<((nL l1 aa).length:Int):=nC;obtain⟨cE,dA,aR⟩:=oL aO.out (aH) bC bD;have av:=aR;obtain rfl:aJ=cE:=(by injection dA);replace aR:=nG HB aR;replace bC:=eq_true bC;replace bD:=eq_true bD;have bE:0<=(al:Int):=nC;have bF:al<((nL l1 aa).length:Int):=nC;obtain⟨cF,dB,aS⟩:=oL aO.out al bE bF;have aw:=aS;obtain rfl:aJ=cF:=(by injection dB);replace aS:=nG HB aS;replace bE:=eq_true bE;replace bF:=eq_true bF;refine zL (n:=12) (S:=fun w'=>w'.cell? (aJ.add ((aH)).toNat)=some (.int .i64 (rd (nL l1 aa) (aH)))/\w'.cell? (aJ.add (al).toNat)=some (.int .i64 (rd (nL l1 aa) al))) (ds:=[]) (pQ 12 0) (oz) rfl (oz) ⟨(nG HB av),(nG HB aw)⟩ (fun hHeld=>?_);refine DT nV.JW nV.GM (fun HT_ HW_=>?_);generalize wr.drew=iU at ae ab ac HB aR aS hHeld⊢;refine lq 0 113 1 ?_;refine lq 1 114 3 ?_;refine lq 2 115 7 ?_;refine lq 3 116 15 ?_;refine lq 5 118 47 ?_;refine lq 6 119 111 ?_;refine lq 7 120 239 ?_;refine nT 4 117 255 ?_;refine nT 8 121 511 ?_;refine yl (σ:=Nat) 1 (pQ 12 2047) (fun s_=>[(122,.agg #[.int .i64 aU,.int .i64 aV]),(15,.pointer (some ⟨s_,0,none⟩))]) (fun s_ w'=>(w'.cell? (aJ.add ((aH)).toNat)=some (.int .i64 (rd (nL l1 aa) (aH)))/\w'.cell? (aJ.add (al).toNat)=some (.int .i64 (rd (nL l1 aa) al)))/\(Kd.R Kd.bool 4 w' w.heap.size (fun _=>True) a6 aj)/\(w'.heap[az]? =some (.cells #[.int .i64 ag,.slice aM ai.length aN] 31 (0,0)))/\(w'.heap[ax]? =some (qo ao))/\(w'.heap[s_]? =some (.cells #[.int .i64 0,.int .i64 0] 59 (0,0)))/\(w.heap.size<=s_)/\(w.heap.size<=s_)/\(az≠s_)/\(s_≠az)/\(ax≠s_)/\(s_≠ax)/\(Below w.heap.size w w')) ?_ ?_;rotate_left
                   ·intro rW;refine vM (i:=9) (j:=10) (Ni:=some 122) (Nj:=some 15) (pQ 12 1023) (pQ 12 1535) rfl rfl rfl rfl (vN HT_.out (oz)) (by decide) (by decide) (fun K hK=>?_) (fun K hK=>?_)
                    ·skip;refine uw Try.func53 (oz) rfl #[.int .i64 (rd (nL l1 aa) (aH)),.int .i64 (rd (nL l1 aa) al)] (by rfl) rfl rfl (CO) ?_;refine(vS.calls ef.out).mono ?_;rintro e gI ⟨rfl,hb⟩;refine⟨_,rfl,?_⟩;replace ae:=oh ae hb;replace ab:=nA ab hb;replace ac:=nA ac hb;replace HB:=nI HB hb;(try clear hb hk);refine hK.out _ _ ⟨(nG HB av),(nG HB aw)⟩ (fun hHeld=>?_);clear hK K;refine nX 122 ?_;refine xk (i:=10) (N:=some 15) (pQ 12 2047) rfl rfl (ym HT_.out (oz)) (by decide) (fun K hK=>?_);refine tY ?hg (N:=15) ?hd (cs:= #[.int .i64 0,.int .i64 0]) (t:=59) ?hr ?_;(case hd=>rfl);(case hg=>rfl);(case hr=>first|(go_simp;done)|(go_simp;rfl));intro ah hg gJ nu hb;have n0:=oh ae hb;have n1:=nA ab hb;have n2:=nA ac hb;have n3:=nI HB hb;have n4:=dm (nu);have n5:=dm (nO:w.heap.size<=ah);have n6:=dm (nO:w.heap.size<=ah);have n7:=dm (Bg:az≠ah);have n8:=dm (Bh:ah≠az);have n9:=dm (CP:ax≠ah);have bm:=dm (CQ:ah≠ax);clear ae ab ac HB;revert n0 n1 n2 n3 n4 n5 n6 n7 n8 n9 bm;intro ae ab ac HB aI am a5 aB aF aq aG;clear hb nu hg;refine hK.out _ _ ⟨(nG HB av),(nG HB aw)⟩ (fun hHeld=>?_);clear hK K;refine nX 15 ?_;exact rP (by simp only [rE,Act.put,List.setIfInBounds_toArray,List.set_cons_zero,List.set_cons_succ]) (rW (ah) _ ⟨hHeld,(nH ae.out),(nE ab.out),(nE ac.out),(nE aI.out),am.out,a5.out,aB.out,aF.out,aq.out,aG.out,(ny HB.out)⟩)
                    skip;refine tY ?hg (N:=15) ?hd (cs:= #[.int .i64 0,.int .i64 0]) (t:=59) ?hr ?_;(case hd=>rfl);(case hg=>rfl);(case hr=>first|(go_simp;done)|(go_simp;rfl));intro ah hg gI nu hb;have n0:=oh ae hb;have n1:=nA ab hb;have n2:=nA ac hb;have n3:=nI HB hb;have n4:=dm (nu);have n5:=dm (nO:w.heap.size<=ah);have n6:=dm (nO:w.heap.size<=ah);have n7:=dm (Bg:az≠ah);have n8:=dm (Bh:ah≠az);have n9:=dm (CP:ax≠ah);have bm:=dm (CQ:ah≠ax);clear ae ab ac HB;revert n0 n1 n2 n3 n4 n5 n6 n7 n8 n9 bm;intro ae ab ac HB aI am a5 aB aF aq aG;clear hb nu hg;refine hK.out _ _ ⟨(nG HB av),(nG HB aw)⟩ (fun hHeld=>?_);clear hK K;refine nX 15 ?_;refine xk (i:=9) (N:=some 122) (pQ 12 2047) rfl rfl (ym HT_.out (oz)) (by decide) (fun K hK=>?_);refine uw Try.func53 (oz) rfl #[.int .i64 (rd (nL l1 aa) (aH)),.int .i64 (rd (nL l1 aa) al)] (by rfl) rfl rfl (CO) ?_;refine(vS.calls ef.out).mono ?_;rintro e gJ ⟨rfl,hb⟩;refine⟨_,rfl,?_⟩;replace ae:=oh ae hb;replace ab:=nA ab hb;replace ac:=nA ac hb;replace aI:=nA aI hb;replace HB:=nI HB hb;(try clear hb hk);refine hK.out _ _ ⟨(nG HB av),(nG HB aw)⟩ (fun hHeld=>?_);clear hK K;refine nX 122 ?_;exact rP (by simp only [rE,Act.put,List.setIfInBounds_toArray,List.set_cons_zero,List.set_cons_succ]) (rW (ah) _ ⟨hHeld,(nH ae.out),(nE ab.out),(nE ac.out),(nE aI.out),am.out,a5.out,aB.out,aF.out,aq.out,aG.out,(ny HB.out)⟩)
                   rintro ah bo ⟨hS_,dh,di,dj,dk,dl,dn,dp,dq,dr,dt,cd⟩;have n0:lm (Kd.R Kd.bool 4 bo w.heap.size (fun _=>True) a6 aj):=⟨dh⟩;have n1:lm (bo.heap[az]? =some (.cells #[.int .i64 ag,.slice aM ai.length aN] 31 (0,0))):=⟨di⟩;have n2:lm (bo.heap[ax]? =some (qo ao)):=⟨dj⟩;have n3:lm (bo.heap[ah]? =some (.cells #[.int .i64 0,.int .i64 0] 59 (0,0))):=⟨dk⟩;have n4:lm (w.heap.size<=ah):=⟨dl⟩;have n5:lm (w.heap.size<=ah):=⟨dn⟩;have n6:lm (az≠ah):=⟨dp⟩;have n7:lm (ah≠az):=⟨dq⟩;have n8:lm (ax≠ah):=⟨dr⟩;have n9:lm (ah≠ax):=⟨dt⟩;have bm:lm (Below w.heap.size w bo):=⟨cd⟩;clear ae ab ac HB;clear dh di dj dk dl dn dp dq dr dt cd;revert n0 n1 n2 n3 n4 n5 n6 n7 n8 n9 bm;intro ae ab ac aI am a5 aB aF aq aG HB;have hHeld:bo.cell? (aJ.add ((aH)).toNat)=some (.int .i64 (rd (nL l1 aa) (aH)))/\bo.cell? (aJ.add (al).toNat)=some (.int .i64 (rd (nL l1 aa) al)):=hS_;refine rP (a':= ?_) ?_ ?_;rotate_left
                   ·simp only [rE,Act.put,List.setIfInBounds_toArray,List.set_cons_zero,List.set_cons_succ];rfl
                   refine xk (i:=11) (N:=none) (pQ 12 4095) rfl rfl (ym HT_.out (oz)) (by decide) (fun K hK=>?_);have iL:bo.cell? ⟨ah,0,none⟩=some (.int .i64 0):=nz aI 0;have hY:=qI aI.out 0;have fT:=aB.out;have fU:=aq.out;have fV:=aF.out;have fW:=aG.out;have iM:bo.cell? ⟨ah,1,none⟩=some (.int .i64 0):=nz aI 1;have hZ:=qI aI.out 1;have fX:=aB.out;have fY:=aq.out;have fZ:=aF.out;have f0:=aG.out;refine tF (w1:= ?_) (by rfl) rfl ?_ ?_;rotate_left
                   ·go_simp
                    rfl
                   refine hK.out _ _ ⟨((cell_far (p:=⟨ah,_,none⟩) (uq av am.out) _).trans (((cell_far (p:=⟨ah,_,none⟩) (uq av am.out) _).trans (hHeld.1)))),((cell_far (p:=⟨ah,_,none⟩) (uq aw am.out) _).trans (((cell_far (p:=⟨ah,_,none⟩) (uq aw am.out) _).trans (hHeld.2))))⟩ (fun hHeld=>?_);clear hK K;refine pY (p8 HT_.out (oz)) ?_;have h_:=aT.out;have ia:=aQ.out;have ib:=aq.out;have ic:=aG.out;have ie:=aF.out;have ig:=aB.out;have⟨f1,f2,f3,f4⟩:=nJ (w:=bo) aI
                   go_wp2_with (first|(((with_reducible refine nU 125 rfl ?_);refine Ag 125 (g:=ax) (l:=ao) (x0:=aU) (x1:=aV) (b:=true) (uz (uz ac.out aq.out _) aq.out _) dg ?_)))
                   go_ret
                   exact⟨by first|rfl|(simp[rz,rA]<;>rfl)|(simp only [←aY,←bH];first|rfl|(simp[rz,rA]<;>rfl))|(simp[*,rz,rA]<;>rfl),ny HB.out⟩
                  rw[if_neg dg]at H;have H':=dm H;clear H;try go_wp2
                  replace ae:=dm (nP ae.out);replace ab:=dm (oq ab.out);replace ac:=dm (oq ac.out);replace HB:=dm (pI HB.out);have bC:0<=((aH):Int):=nC;have bD:(aH)<((nL l1 aa).length:Int):=nC;obtain⟨cE,dA,aR⟩:=oL aO.out (aH) bC bD;have av:=aR;obtain rfl:aJ=cE:=(by injection dA);replace aR:=nG HB aR;replace bC:=eq_true bC;replace bD:=eq_true bD;have bE:0<=(al:Int):=nC;have bF:al<((nL l1 aa).length:Int):=nC;obtain⟨cF,dB,aS⟩:=oL aO.out al bE bF;have aw:=aS;obtain rfl:aJ=cF:=(by injection dB);replace aS:=nG HB aS;replace bE:=eq_true bE;replace bF:=eq_true bF;refine zL (n:=12) (S:=fun w'=>w'.cell? (aJ.add ((aH)).toNat)=some (.int .i64 (rd (nL l1 aa) (aH)))/\w'.cell? (aJ.add (al).toNat)=some (.int .i64 (rd (nL l1 aa) al))) (ds:=[]) (pQ 12 0) (oz) rfl (oz) ⟨(nG HB av),(nG HB aw)⟩ (fun hHeld=>?_);refine DT nV.JW nV.GM (fun HT_ HW_=>?_);generalize wr.drew=iV at ae ab ac HB aR aS hHeld⊢;refine lq 0 113 1 ?_;refine lq 1 114 3 ?_;refine lq 2 115 7 ?_;refine lq 3 116 15 ?_;refine lq 5 118 47 ?_;refine lq 6 119 111 ?_;refine lq 7 120 239 ?_;refine nT 4 117 255 ?_;refine nT 8 121 511 ?_;refine yl (σ:=Nat) 1 (pQ 12 2047) (fun s_=>[(122,.agg #[.int .i64 aU,.int .i64 aV]),(15,.pointer (some ⟨s_,0,none⟩))]) (fun s_ w'=>(w'.cell? (aJ.add ((aH)).toNat)=some (.int .i64 (rd (nL l1 aa) (aH)))/\w'.cell? (aJ.add (al).toNat)=some (.int .i64 (rd (nL l1 aa) al)))/\(Kd.R Kd.bool 4 w' w.heap.size (fun _=>True) a6 aj)/\(w'.heap[az]? =some (.cells #[.int .i64 ag,.slice aM ai.length aN] 31 (0,0)))/\(w'.heap[ax]? =some (qo ao))/\(w'.heap[s_]? =some (.cells #[.int .i64 0,.int .i64 0] 59 (0,0)))/\(w.heap.size<=s_)/\(w.heap.size<=s_)/\(az≠s_)/\(s_≠az)/\(ax≠s_)/\(s_≠ax)/\(Below w.heap.size w w')) ?_ ?_;rotate_left
                  ·intro rW;refine vM (i:=9) (j:=10) (Ni:=some 122) (Nj:=some 15) (pQ 12 1023) (pQ 12 1535) rfl rfl rfl rfl (vN HT_.out (oz)) (by decide) (by decide) (fun K hK=>?_) (fun K hK=>?_)
                   ·skip;refine uw Try.func53 (oz) rfl #[.int .i64 (rd (nL l1 aa) (aH)),.int .i64 (rd (nL l1 aa) al)] (by rfl) rfl rfl (CO) ?_;refine(vS.calls ef.out).mono ?_;rintro e gK ⟨rfl,hb⟩;refine⟨_,rfl,?_⟩;replace ae:=oh ae hb;replace ab:=nA ab hb;replace ac:=nA ac hb;replace HB:=nI HB hb;(try clear hb hk);refine hK.out _ _ ⟨(nG HB av),(nG HB aw)⟩ (fun hHeld=>?_);clear hK K;refine nX 122 ?_;refine xk (i:=10) (N:=some 15) (pQ 12 2047) rfl rfl (ym HT_.out (oz)) (by decide) (fun K hK=>?_);refine tY ?hg (N:=15) ?hd (cs:= #[.int .i64 0,.int .i64 0]) (t:=59) ?hr ?_;(case hd=>rfl);(case hg=>rfl);(case hr=>first|(go_simp;done)|(go_simp;rfl));intro ah hg gL nu hb;have n0:=oh ae hb;have n1:=nA ab hb;have n2:=nA ac hb;have n3:=nI HB hb;have n4:=dm (nu);have n5:=dm (nO:w.heap.size<=ah);have n6:=dm (nO:w.heap.size<=ah);have n7:=dm (Bg:az≠ah);have n8:=dm (Bh:ah≠az);have n9:=dm (CP:ax≠ah);have bm:=dm (CQ:ah≠ax);clear ae ab ac HB;revert n0 n1 n2 n3 n4 n5 n6 n7 n8 n9 bm;intro ae ab ac HB aI am a5 aB aF aq aG;clear hb nu hg;refine hK.out _ _ ⟨(nG HB av),(nG HB aw)⟩ (fun hHeld=>?_);clear hK K;refine nX 15 ?_;exact rP (by simp only [rE,Act.put,List.setIfInBounds_toArray,List.set_cons_zero,List.set_cons_succ]) (rW (ah) _ ⟨hHeld,(nH ae.out),(nE ab.out),(nE ac.out),(nE aI.out),am.out,a5.out,aB.out,aF.out,aq.out,aG.out,(ny HB.out)⟩)
                   skip;refine tY ?hg (N:=15) ?hd (cs:= #[.int .i64 0,.int .i64 0]) (t:=59) ?hr ?_;(case hd=>rfl);(case hg=>rfl);(case hr=>first|(go_simp;done)|(go_simp;rfl));intro ah hg gK nu hb;have n0:=oh ae hb;have n1:=nA ab hb;have n2:=nA ac hb;have n3:=nI HB hb;have n4:=dm (nu);have n5:=dm (nO:w.heap.size<=ah);have n6:=dm (nO:w.heap.size<=ah);have n7:=dm (Bg:az≠ah);have n8:=dm (Bh:ah≠az);have n9:=dm (CP:ax≠ah);have bm:=dm (CQ:ah≠ax);clear ae ab ac HB;revert n0 n1 n2 n3 n4 n5 n6 n7 n8 n9 bm;intro ae ab ac HB aI am a5 aB aF aq aG;clear hb nu hg;refine hK.out _ _ ⟨(nG HB av),(nG HB aw)⟩ (fun hHeld=>?_);clear hK K;refine nX 15 ?_;refine xk (i:=9) (N:=some 122) (pQ 12 2047) rfl rfl (ym HT_.out (oz)) (by decide) (fun K hK=>?_);refine uw Try.func53 (oz) rfl #[.int .i64 (rd (nL l1 aa) (aH)),.int .i64 (rd (nL l1 aa) al)] (by rfl) rfl rfl (CO) ?_;refine(vS.calls ef.out).mono ?_;rintro e gL ⟨rfl,hb⟩;refine⟨_,rfl,?_⟩;replace ae:=oh ae hb;replace ab:=nA ab hb;replace ac:=nA ac hb;replace aI:=nA aI hb;replace HB:=nI HB hb;(try clear hb hk);refine hK.out _ _ ⟨(nG HB av),(nG HB aw)⟩ (fun hHeld=>?_);clear hK K;refine nX 122 ?_;exact rP (by simp only [rE,Act.put,List.setIfInBounds_toArray,List.set_cons_zero,List.set_cons_succ]) (rW (ah) _ ⟨hHeld,(nH ae.out),(nE ab.out),(nE ac.out),(nE aI.out),am.out,a5.out,aB.out,aF.out,aq.out,aG.out,(ny HB.out)⟩)
                  rintro ah bp ⟨hS_,dh,di,dj,dk,dl,dn,dp,dq,dr,dt,cd⟩;have n0:lm (Kd.R Kd.bool 4 bp w.heap.size (fun _=>True) a6 aj):=⟨dh⟩;have n1:lm (bp.heap[az]? =some (.cells #[.int .i64 ag,.slice aM ai.length aN] 31 (0,0))):=⟨di⟩;have n2:lm (bp.heap[ax]? =some (qo ao)):=⟨dj⟩;have n3:lm (bp.heap[ah]? =some (.cells #[.int .i64 0,.int .i64 0] 59 (0,0))):=⟨dk⟩;have n4:lm (w.heap.size<=ah):=⟨dl⟩;have n5:lm (w.heap.size<=ah):=⟨dn⟩;have n6:lm (az≠ah):=⟨dp⟩;have n7:lm (ah≠az):=⟨dq⟩;have n8:lm (ax≠ah):=⟨dr⟩;have n9:lm (ah≠ax):=⟨dt⟩;have bm:lm (Below w.heap.size w bp):=⟨cd⟩;clear ae ab ac HB;clear dh di dj dk dl dn dp dq dr dt cd;revert n0 n1 n2 n3 n4 n5 n6 n7 n8 n9 bm;intro ae ab ac aI am a5 aB aF aq aG HB;have hHeld:bp.cell? (aJ.add ((aH)).toNat)=some (.int .i64 (rd (nL l1 aa) (aH)))/\bp.cell? (aJ.add (al).toNat)=some (.int .i64 (rd (nL l1 aa) al)):=hS_;refine rP (a':= ?_) ?_ ?_;rotate_left
                  ·simp only [rE,Act.put,List.setIfInBounds_toArray,List.set_cons_zero,List.set_cons_succ];rfl
                  refine xk (i:=11) (N:=none) (pQ 12 4095) rfl rfl (ym HT_.out (oz)) (by decide) (fun K hK=>?_);have iN:bp.cell? ⟨ah,0,none⟩=some (.int .i64 0):=nz aI 0;have ii:=qI aI.out 0;have f5:=aB.out;have f6:=aq.out;have f7:=aF.out;have f8:=aG.out;have iO:bp.cell? ⟨ah,1,none⟩=some (.int .i64 0):=nz aI 1;have ij:=qI aI.out 1;have f9:=aB.out;have f_:=aq.out;have ga:=aF.out;have gb:=aG.out;refine tF (w1:= ?_) (by rfl) rfl ?_ ?_;rotate_left
                  ·go_simp
                   rfl
                  refine hK.out _ _ ⟨((cell_far (p:=⟨ah,_,none⟩) (uq av am.out) _).trans (((cell_far (p:=⟨ah,_,none⟩) (uq av am.out) _).trans (hHeld.1)))),((cell_far (p:=⟨ah,_,none⟩) (uq aw am.out) _).trans (((cell_far (p:=⟨ah,_,none⟩) (uq aw am.out) _).trans (hHeld.2))))⟩ (fun hHeld=>?_);clear hK K;refine pY (p8 HT_.out (oz)) ?_;have ik:=aT.out;have il:=aQ.out;have im:=aq.out;have io:=aG.out;have ip:=aF.out;have iq:=aB.out;have⟨gc,ge,gf,gg⟩:=nJ (w:=bp) aI
                  go_wp2_with (first|(((with_reducible refine nU 125 rfl ?_);refine Ag 125 (g:=ax) (l:=ao) (x0:=aU) (x1:=aV) (b:=false) (uz (uz ac.out aq.out _) aq.out _) (Bool.eq_false_iff.mpr dg) ?_))|((at_mapUpdate;refine NM (g:=ax) (l:=ao) (x0:=aU) (x1:=aV) (uz (uz ac.out aq.out _) aq.out _) (Bool.eq_false_iff.mpr dg) ?_;intro w_m hm_ hgm_;replace ae:=dm (nK (za (nR (p:=⟨ah,1,none⟩) (nR (p:=⟨ah,0,none⟩) (Dm (oO ae.out aI.out (by decide)) ac.out) (fun _ hk=>hk.1.2) (.int .i64 aU)) (fun _ hk=>hk.1.2) (.int .i64 aV)) hgm_ (fun k_ hk e_=>hk.2 (Option.some.inj e_))) (fun _ _=>trivial));replace ab:=dm (uY (wU (wU ab.out aB.out _) aB.out _) hgm_ (fun e_=>aQ.out (Option.some.inj e_)));replace ac:=dm hm_;replace HB:=dm (Dk (ny HB.out) hgm_ eI.out);clear hm_ hgm_)))
                  go_roundg k7
                  case measure=>have:=bj.out;have:=bk.out;have:=a_.out;have:=bf.out;have:=bq.out;have:=bZ.out;have:=cM.out;omega
                  case rel=>exact⟨(wrap64 (al+1)),(ao++[⟨aU,aV⟩]),(nQ),H',⟨by have:=bj.out;have:=bk.out;have:=a_.out;have:=bf.out;have:=bq.out;have:=bZ.out;have:=cM.out;omega⟩,⟨nH ae.out⟩,⟨nE ab.out⟩,⟨nE ac.out⟩,⟨ny HB.out⟩⟩
                 have H':=dm H;clear H
                 go_wp2
                 go_loopg [130] k7 (fun kq fA w'=>∃ (bh:List Bool) (aD:Int),fA=.int .i64 aD/\lm (nV.l3 kq l2 bh l1 (l1.length:Int) aa (nL l1 aa) ((nL l1 aa).length:Int) aD ag ai ao 0=some r)/\lm (kq<=k7)/\lm (Kd.R Kd.bool 4 w' w.heap.size (fun _=>True) a6 bh)/\lm (w'.heap[az]? =some (.cells #[.int .i64 ag,(.slice aM ai.length aN)] 31 (0,0)))/\lm (w'.heap[ax]? =some (qo ao))/\lm (Below w.heap.size w w'))
                 case atStart=>exact⟨(aj),(0),(nQ),H',⟨Nat.le_refl _⟩,⟨nH ae.out⟩,⟨nE ab.out⟩,⟨nE ac.out⟩,⟨ny HB.out⟩⟩
                 case round=>
                  clear H';(try clear eb);obtain⟨bh,aD,rfl,HA,eo,ae,ab,ac,HB⟩:=hrel;cases gk with
                  |zero=>exact absurd HA.out (by simp[nV.l3])
                  |succ k8=>
                   have H:=HA.out;clear HA;simp only [nV.l3]at H
                   replace H:=pU H;rcases H with⟨fc,H⟩|⟨fc,H⟩
                   ·skip
                    obtain⟨gM,H⟩:=oC H
                    obtain⟨gN,H⟩:=oC H
                    obtain⟨gO,H⟩:=oC H
                    obtain⟨gP,H⟩:=oC H;obtain⟨dC,bQ⟩:∃y_:List Bool,y_=(bh.set ((rd (nL l1 aa) aD):Int).toNat true):=⟨_,rfl⟩;replace H:(nV.l3 k8 l2 dC l1 (l1.length:Int) aa (nL l1 aa) ((nL l1 aa).length:Int) (wrap64 (aD+1)) ag ai ao 0)=some r:=pG bQ H
                    have fd:=dm bQ;clear bQ;have H':=dm H;clear H;have dD:0<=(aD:Int):=nC;have dE:aD<((nL l1 aa).length:Int):=nC;obtain⟨fe,fB,cm⟩:=oL aO.out aD dD dE;obtain rfl:aJ=fe:=(by injection fB);replace cm:=nG HB cm;replace dD:=eq_true dD;replace dE:=eq_true dE;have dF:0<=((rd (nL l1 aa) aD):Int):=nC;have dG:((rd (nL l1 aa) aD):Int)<((bh.length:Int):Int):=nC;obtain⟨cK,ff,eg,eh,fg,ir,ei⟩:=yZ ae.out (by omega);(first|cases eg|(injection eg with ea_ en_ ec_;(first|subst ea_|(injection ea_ with ea_;subst ea_));subst ec_;clear en_));have fh:=dm eh;have iu:=dm ei;clear eh fg ei;obtain⟨gh,gi⟩:=xY false ae.out ((rd (nL l1 aa) aD):Int) dF dG;replace dF:=eq_true dF;replace dG:=eq_true dG;have cL:=AO ae.out ((rd (nL l1 aa) aD):Int) true
                    go_wp2_with (first|((with_reducible refine zz (t:=4) (p:=136) rfl ?_);refine zM (t:=4) (p:=136) (v:= ?vo_w106) (w1:=(wr.setCell ⟨cK,((rd (nL l1 aa) aD):Int).toNat,none⟩ (.bool true))) ?hg ?ho ?hn ?hr ?_;(case ho=>rfl);(case hg=>rfl);(case hn=>rfl);(case hr=>first|(go_simp;done)|(go_simp;rfl));intro dH hw;have hg:wr.grownBy dH (some cK):=(by rw[hw];exact cL.2);have hp_:Kd.R Kd.bool 4 dH w.heap.size (fun _=>True) (.slice (some ⟨cK,0,none⟩) bh.length ff) dC:=(by rw[hw,fd.out];exact cL.1);clear cL;replace ab:=pF ab hg (pM ae.out ab.out (by decide));replace ac:=pF ac hg (mNe ae.out ac.out);replace ae:=dm (hp_);replace HB:=dm ((by rw[hw];exact rO (HB.out) fh.out:Below w.heap.size w dH));clear hg hw hp_))
                    go_roundg k8
                    case measure=>have:=bj.out;have:=bk.out;have:=a_.out;have:=bf.out;have:=bq.out;have:=bZ.out;have:=cM.out;have:=eo.out;omega
                    case rel=>exact⟨(dC),(wrap64 (aD+1)),(nQ),H',⟨Io⟩,⟨nH ae.out⟩,⟨nE ab.out⟩,⟨nE ac.out⟩,⟨ny HB.out⟩⟩
                   have H':=dm H;clear H
                   go_wp2
                   go_roundg k8
                   case measure=>have:=bj.out;have:=bk.out;have:=a_.out;have:=bf.out;have:=bq.out;have:=bZ.out;have:=cM.out;have:=eo.out;omega
                   case rel=>exact⟨(bh),(wrap64 (aa+1)),(ao),(nQ),H',⟨Io⟩,⟨nH ae.out⟩,⟨nE ab.out⟩,⟨nE ac.out⟩,⟨ny HB.out⟩⟩
            obtain rfl:=Option.some.inj H
            go_wp2_with (first|((with_reducible refine xg (f:=52) rfl ?_);refine wC (some 94) rfl rfl Try.func52 (oz) rfl #[.slice A2 ak.length c2] rfl (wS) ?_;refine(sD.calls (nS (oG d4.out HB.out)) fo.out fp.out).mono ?_;rintro e w' ⟨rfl,⟨nd,rfl⟩⟩;refine⟨_,rfl,?_⟩))
            go_ret
            exact⟨Bf,ny HB.out⟩
     skip
     by_cases bG:(af.length:Int)=(ai.length:Int)
     ·rw[if_pos bG]at H;have eC:=beq_iff_eq.mpr bG;have eD:=bne_eq_false_iff_eq.mpr bG;clear bG;obtain⟨cn,fC,H⟩:=ow H;(try dsimp only at H);obtain rfl:=Option.some.inj H;have gQ:=aT.out;have gR:=aQ.out;have⟨fD,fE,fF,fG⟩:=nJ (w:=wr) ab;obtain⟨iv,iw,fi⟩:=nY ae.out;subst fi
      go_wp2_with (first|((with_reducible refine nU 140 rfl ?_);refine Jm 140 (g:=ax) (l:=af) ac.out ?_)|(go_at_call 54;refine(wX.calls (nS (nM ae.out).2.2) ((nM ae.out).2.1) fC.out).mono ?_;rintro e w' ⟨rfl,⟨nd,rfl⟩⟩))
      go_ret
      exact⟨qM,ny HB.out⟩
     rw[if_neg bG]at H;have eC:=beq_eq_false_iff_ne.mpr bG;have eD:=bne_iff_ne.mpr bG;obtain rfl:=Option.some.inj H;have gS:=aT.out;have gT:=aQ.out;have⟨fH,fI,fJ,fK⟩:=nJ (w:=wr) ab
     go_wp2_with (first|((with_reducible refine nU 140 rfl ?_);refine Jm 140 (g:=ax) (l:=af) ac.out ?_))
     go_ret
     exact⟨qM,ny HB.out⟩
def Ae.f (k:Nat) (ab:Int) (aa:List (S59)) (l1:List (List Int)):Option (Bool):=nV.f k ab aa l1 []
theorem Ae.calls {k:Nat}{ab:Int}{ac:Option Addr}{ae:Nat}{aa:List (S59)}{A1:Option Addr}{c1:Nat}{l1:List (List Int)}{r:Bool}{w:World}(af:Kd.C k59 w ac aa.length aa)(ag:aa.length<=ae)(hr1:Kd.C (Kd.slice 3 (Kd.int .i64)) w A1 l1.length l1)(ah:l1.length<=c1)(h:Ae.f k ab aa l1=some r):
 Calls Try.prog 19 #[.agg #[.int .i64 ab,.slice ac aa.length ae],.slice A1 l1.length c1] w fun e w'=>e=.returned (.bool r)/\Below w.heap.size w w':=nV.calls k ab ac ae aa A1 c1 l1 [] r w af ag hr1 ah h
end Go.Proofs.Ytgeonpciodepgaa.P
