/- The proof's parts ahead of the row: of no condition of their own. -/
import Derived.Test.YtgeonpciodepgaaZFnEarBlock0
set_option linter.unusedVariables false
set_option linter.unusedSimpArgs false
namespace Go.Proofs.Ytgeonpciodepgaa.P
set_option maxHeartbeats 8000000
set_option maxRecDepth 100000
open Go.RowKit Go.Proofs.YtgeonpciodepgaaW.PrintWords Go.Proofs.YtgeonpciodepgaaW.PrintLast Go.Proofs.YtgeonpciodepgaaW.PrintMore Go.Proofs.YtgeonpciodepgaaW.PrintWords.Kd Go.Proofs.YtgeonpciodepgaaW.PrintMore.Kd
attribute [local go_sem] wC wE wJ wG wy ww wB wF
theorem CF {p:Prop}(h:p:=by exact oJ af.out):p:=h
theorem CB {p:Prop}(h:p:=by exact oJ ac.out):p:=h
theorem K3 {p:Prop}(h:p:=by(try simp only[List.map_toArray,List.map_cons,List.map_nil]);first|done|(simp only[aJ];rfl)|rfl|(simp only[List.length_drop,List.length_take];rfl)):p:=h
theorem CP {p:Prop}(h:p:=by rw[hg];exact Nat.ne_of_lt (oQ (g:=ah) (o:=.cells #[.int .i64 ag,.slice (some aj) aa.length az] 31 (0,0)) (nG ac.out))):p:=h
theorem CJ {p:Prop}(h:p:=by rw[hg];exact Nat.ne_of_gt (oQ (g:=ah) (o:=.cells #[.int .i64 ag,.slice (some aj) aa.length az] 31 (0,0)) (nG ac.out))):p:=h
theorem G6 {p:Prop}(h:p:=by rw[hg];exact Nat.ne_of_lt (oQ (g:=aq) (o:=.cells #[.int .i64 ag,.int .i64 aI] 59 (0,0)) (nG au.out))):p:=h
theorem GD {p:Prop}(h:p:=by rw[hg];exact Nat.ne_of_gt (oQ (g:=aq) (o:=.cells #[.int .i64 ag,.int .i64 aI] 59 (0,0)) (nG au.out))):p:=h
theorem Aw {p:Prop}(h:p:=by first|rfl|(simp[qa,qb]<;>rfl)|(simp[*,qa,qb]<;>rfl)):p:=h
theorem AL {p:Prop}(h:p:=by first|rfl|(simp;done)|(simp[*];done)):p:=h
theorem t_ {p:Prop}(h:p:=by rw[hg];exact(nX (nC HB.out))):p:=h
theorem Al {p:Prop}(h:p:=by kernel_rfl):p:=h
def uA.f (a0:Int) (a1:Int) (a2:Int):Option (Bool):=if a0>=a1 then(some (decide (a0<=a2))) else(some false)
theorem uA.calls (a0:Int) (a1:Int) (a2:Int) (r:Bool) (w:World) (h:uA.f a0 a1 a2=some r):
  Calls Try.prog 75 #[.int .i64 a0,.int .i64 a1,.int .i64 a2] w fun e w'=>e=.returned (.bool r)/\oM w w':=by
 unfold uA.f at h;have H:=h;clear h
 by_cases c4:a0>=a1
 ·rw[if_pos c4]at H;have bG:=decide_eq_true c4;clear c4;obtain rfl:=Option.some.inj H
  go_enter Try.func75,Try.ntmps75
  go_wp2
  go_ret
  exact⟨AL,by repeat(first|exact oM.refl _|apply oM.step)⟩
 ·rw[if_neg c4]at H;have bG:=decide_eq_false c4;clear c4;obtain rfl:=Option.some.inj H
  go_enter Try.func75,Try.ntmps75
  go_wp2
  go_ret
  exact⟨AL,by repeat(first|exact oM.refl _|apply oM.step)⟩
def w_.f (ag:Int) (aI:Int) (ax:Int) (aM:Int):Option (Bool):=if ag<ax then(some true) else(if ag=ax then(some (decide (aI<aM))) else(some false))
theorem w_.calls (ag:Int) (aI:Int) (ax:Int) (aM:Int) (r:Bool) (w:World) (h:w_.f ag aI ax aM=some r):
  Calls Try.prog 76 #[.agg #[.int .i64 ag,.int .i64 aI],.agg #[.int .i64 ax,.int .i64 aM]] w fun e w'=>e=.returned (.bool r)/\Below w.heap.size w w':=by
 have bH:=Try.underlying59;have HB:=dm (Below.refl w.heap.size w);unfold w_.f at h;have H:=h;clear h
 by_cases c3:ag<ax
 ·rw[if_pos c3]at H;have bI:=decide_eq_true c3;clear c3;obtain rfl:=Option.some.inj H
  go_enter Try.func76,Try.ntmps76
  go_wp2_with (first|((with_reducible refine nP 2 rfl ?_);refine om 2 #[.int .i64 ag,.int .i64 aI] 59 ?_;intro aq hg w4 nu hb;have au:=dm (nu);have bd:=dm (t_:w.heap.size<=aq);have bf:=dm (t_:w.heap.size<=aq);replace HB:=nJ HB hb;clear hb nu hg)|((with_reducible refine nP 3 rfl ?_);refine om 3 #[.int .i64 ax,.int .i64 aM] 59 ?_;intro ay hg w5 nu hb;have aQ:=dm (nu);have bh:=dm (t_:w.heap.size<=ay);have bj:=dm (t_:w.heap.size<=ay);replace HB:=nJ HB hb;have aF:=dm (G6:aq≠ay);have aG:=dm (GD:ay≠aq);replace au:=nA au hb;clear hb nu hg;have dC:=aF.out;have dD:=aG.out;have⟨bv,bw,bx,bz⟩:=nK (w:=w5) au;have⟨cO,cP,cQ,cS⟩:=nK (w:=w5) aQ))
  go_ret
  exact⟨Aw,nC HB.out⟩
 ·rw[if_neg c3]at H;have bI:=decide_eq_false c3;clear c3
  by_cases c9:ag=ax
  ·rw[if_pos c9]at H;have ba:=beq_iff_eq.mpr c9;have bJ:=bne_eq_false_iff_eq.mpr c9;clear c9;obtain rfl:=Option.some.inj H
   go_enter Try.func76,Try.ntmps76
   go_wp2_with (first|((with_reducible refine nP 2 rfl ?_);refine om 2 #[.int .i64 ag,.int .i64 aI] 59 ?_;intro aq hg dF nu hb;have au:=dm (nu);have bd:=dm (t_:w.heap.size<=aq);have bf:=dm (t_:w.heap.size<=aq);replace HB:=nJ HB hb;clear hb nu hg)|((with_reducible refine nP 3 rfl ?_);refine om 3 #[.int .i64 ax,.int .i64 aM] 59 ?_;intro ay hg bD nu hb;have aQ:=dm (nu);have bh:=dm (t_:w.heap.size<=ay);have bj:=dm (t_:w.heap.size<=ay);replace HB:=nJ HB hb;have aF:=dm (G6:aq≠ay);have aG:=dm (GD:ay≠aq);replace au:=nA au hb;clear hb nu hg;have df:=aF.out;have dg:=aG.out;have⟨bK,bL,bM,bN⟩:=nK (w:=bD) au;have⟨bO,bP,bQ,bR⟩:=nK (w:=bD) aQ))
   go_ret
   exact⟨Aw,nC HB.out⟩
  ·rw[if_neg c9]at H;have ba:=beq_eq_false_iff_ne.mpr c9;have bJ:=bne_iff_ne.mpr c9;obtain rfl:=Option.some.inj H
   go_enter Try.func76,Try.ntmps76
   go_wp2_with (first|((with_reducible refine nP 2 rfl ?_);refine om 2 #[.int .i64 ag,.int .i64 aI] 59 ?_;intro aq hg dG nu hb;have au:=dm (nu);have bd:=dm (t_:w.heap.size<=aq);have bf:=dm (t_:w.heap.size<=aq);replace HB:=nJ HB hb;clear hb nu hg)|((with_reducible refine nP 3 rfl ?_);refine om 3 #[.int .i64 ax,.int .i64 aM] 59 ?_;intro ay hg bE nu hb;have aQ:=dm (nu);have bh:=dm (t_:w.heap.size<=ay);have bj:=dm (t_:w.heap.size<=ay);replace HB:=nJ HB hb;have aF:=dm (G6:aq≠ay);have aG:=dm (GD:ay≠aq);replace au:=nA au hb;clear hb nu hg;have dh:=aF.out;have di:=aG.out;have⟨bS,bT,bU,bV⟩:=nK (w:=bE) au;have⟨bW,bX,bY,bZ⟩:=nK (w:=bE) aQ))
   go_ret
   exact⟨Aw,nC HB.out⟩
mutual
def pO.j0:Nat->Bool->Int->List (S59)->Option (Bool)
 |0,_,_,_=>none
 |k+1,cT,aH,ao=>if cT=true then(some false) else(pO.l0 k 0 aH ao)
def pO.l0:Nat->Int->Int->List (S59)->Option (Bool)
 |0,_,_,_=>none
 |k+1,x3,aH,ao=>if x3<(ao.length:Int) then(if 0<=x3 then((uA.f ((ny ao x3).f0) 0 (wrap64 (aH - 1))).bind fun aY=>(if aY=true then((uA.f ((ny ao x3).f1) (wrap64 (((ny ao x3).f0)+1)) (wrap64 (aH - 1))).bind fun aN=>(if aN=true then(if x3>0 then(if 0<=(wrap64 (x3 - 1)) then(if(wrap64 (x3 - 1))<(ao.length:Int) then((w_.f ((ny ao (wrap64 (x3 - 1))).f0) ((ny ao (wrap64 (x3 - 1))).f1) ((ny ao x3).f0) ((ny ao x3).f1)).bind fun aE=>(if aE=true then(pO.l0 k (wrap64 (x3+1)) aH ao) else(some false))) else(none)) else(none)) else(pO.l0 k (wrap64 (x3+1)) aH ao)) else(some false))) else(some false))) else(none)) else(some true)
end
def pO.f (k:Nat) (ag:Int) (aa:List (S59)):Option (Bool):=(uA.f ag 0 8).bind fun aR=>(if aR=true then(pO.j0 k (decide ((aa.length:Int)>64)) ag aa) else(pO.j0 k true ag aa))
def pO.T7:Bool×List (List Nat×List Nat):=(true,[([],[]),([0],[0]),([],[]),([2],[2]),([3],[3]),([1,4],[1,4]),([5],[5]),([6,5],[6]),([7],[7]),([8,7],[7,8]),([7],[7]),([10,7],[7,10]),([11,7],[7,11]),([7],[7]),([13,7],[7,13]),([14,7],[7,14]),([9,12,15,7,7],[7,9,12,15]),([16,7],[7,16]),([7,17],[7,17]),([18,16],[18]),([19],[19]),([20,19],[19,20]),([21,19,19],[19,21]),([22],[22]),([23,22],[22,23]),([22],[22]),([25,22],[22,25]),([24,26,22],[22,24,26]),([27,22],[22,27]),([22],[22]),([28,29,22,22],[22,28,29]),([30,22],[22,30]),([22,31,19],[19,22,31]),([19,32],[19,32])])
def pO.B7:List Nat:=[0,1,0,4,12,31,63,127,255,511,255,1279,3327,255,8447,24831,65535,131071,262143,524287,1048575,2097151,4194303,8388607,16777215,8388607,41943039,134217727,268435455,8388607,1073741823,2147483647,4294967295,8589934591]
theorem pO.uT:p_ .any (opsOf Try.f32 7)=pO.T7:=by kernel_rfl
theorem pO.uO:qQ pO.T7.2 pO.B7=true:=by kernel_rfl
theorem pO.calls (k:Nat) (ag:Int) (aV:Option Addr) (az:Nat) (aa:List (S59)) (r:Bool) (w:World) (bk:Kd.C k59 w aV aa.length aa) (bl:aa.length<=az) (h:pO.f k ag aa=some r):
  Calls Try.prog 32 #[.agg #[.int .i64 ag,.slice aV aa.length az]] w fun e w'=>e=.returned (.bool r)/\Below w.heap.size w w':=by
 have dE:=Try.underlying31;have bH:=Try.underlying59;have aK:=dm bk;have dj:=dm bl;clear bk bl;have HB:=dm (Below.refl w.heap.size w);unfold pO.f at h;have H:=h;clear h;have bA:=dm H;clear H
 go_enter Try.func32,Try.ntmps32
 go_upto_region 1 with(first|((with_reducible refine nP 1 rfl ?_);(try(refine rM (by rfl) ?_;dsimp only));refine om 1 #[.int .i64 ag,.slice aV aa.length az] 31 ?_;intro ah hg w3 nu hb;have ac:=dm (nu);have dk:=dm (t_:w.heap.size<=ah);have dl:=dm (t_:w.heap.size<=ah);replace HB:=nJ HB hb;clear hb nu hg))
 (try simp only[Act.put,List.setIfInBounds_toArray,List.set_cons_zero,List.set_cons_succ])
 go_cut [14] (fun cU wc=>∃ (kq:Nat) (aS:Bool),cU=.bool aS/\lm (pO.j0 kq aS ag aa=some r)/\lm (kq<=k)/\lm (wc.heap[ah]? =some (.cells #[.int .i64 ag,(.slice aV aa.length az)] 31 (0,0)))/\lm (Below w.heap.size w wc))
 case first=>
  have H:=bA.out;clear bA;obtain⟨aR,A4,H⟩:=ol H;(try dsimp only at H)
  rcases pJ H with⟨h_,H_⟩|⟨h_,H_⟩<;> (subst h_;clear H;have H:=H_;clear H_)
  ·have H':=dm H;clear H;have⟨cW,cX,cY,cZ⟩:=nK (w:=w3) ac
   go_wp2_with (first|((with_reducible refine oh 75 rfl ?_);refine og 7 Try.func75 #[.int .i64 ag,.int .i64 0,.int .i64 8] ?_;(with_reducible refine(uA.calls ag 0 8 true _ A4.out).mono ?_);rintro e w' ⟨rfl,⟨nd,rfl⟩⟩;refine⟨_,rfl,?_⟩))
   go_meet
   case rel=>exact⟨_,(decide ((aa.length:Int)>64)),(AL),H',⟨by first|omega|exact Nat.le_refl _⟩,⟨nG ac.out⟩,⟨nC HB.out⟩⟩
  ·have H':=dm H;clear H;have⟨bv,bw,bx,bz⟩:=nK (w:=w3) ac
   go_wp2_with (first|((with_reducible refine oh 75 rfl ?_);refine og 7 Try.func75 #[.int .i64 ag,.int .i64 0,.int .i64 8] ?_;(with_reducible refine(uA.calls ag 0 8 false _ A4.out).mono ?_);rintro e w' ⟨rfl,⟨nd,rfl⟩⟩;refine⟨_,rfl,?_⟩))
   go_meet
   case rel=>exact⟨_,(true),(AL),H',⟨by first|omega|exact Nat.le_refl _⟩,⟨nG ac.out⟩,⟨nC HB.out⟩⟩
 case rest=>
  clear bA;obtain⟨kq,aS,rfl,HA,bm,ac,HB⟩:=hcut;cases kq with
  |zero=>exact absurd HA.out (by simp[pO.j0])
  |succ bB=>
   have H:=HA.out;clear HA;simp only[pO.j0]at H
   rcases pJ H with⟨h_,H_⟩|⟨h_,H_⟩<;> (subst h_;clear H;have H:=H_;clear H_)
   ·obtain rfl:=Option.some.inj H
    go_wp2
    go_ret
    exact⟨Aw,nC HB.out⟩
   ·have H':=dm H;clear H
    go_wp2
    go_loopg [3] bB (fun kq v3 w'=>∃ (ab:Int),v3=.int .i64 ab/\lm (pO.l0 kq ab ag aa=some r)/\lm (kq<=bB)/\lm (w'.heap[ah]? =some (.cells #[.int .i64 ag,(.slice aV aa.length az)] 31 (0,0)))/\lm (Below w.heap.size w w'))
    case atStart=>exact⟨(0),(AL),H',⟨Nat.le_refl _⟩,⟨nG ac.out⟩,⟨nC HB.out⟩⟩
    case round=>
     clear H';(try clear c8);obtain⟨ab,rfl,HA,bn,ac,HB⟩:=hrel;cases gk with
     |zero=>exact absurd HA.out (by simp[pO.l0])
     |succ k2=>
      have H:=HA.out;clear HA;simp only[pO.l0]at H
      by_cases c9:ab<(aa.length:Int)
      ·rw[if_pos c9]at H;have ba:=decide_eq_true c9;clear c9
       obtain⟨dn,H⟩:=oz H;obtain⟨aY,aW,H⟩:=ol H;(try dsimp only at H)
       rcases pJ H with⟨h_,H_⟩|⟨h_,H_⟩<;> (subst h_;clear H;have H:=H_;clear H_)
       ·obtain⟨aN,a5,H⟩:=ol H;(try dsimp only at H)
        rcases pJ H with⟨h_,H_⟩|⟨h_,H_⟩<;> (subst h_;clear H;have H:=H_;clear H_)
        ·skip
         by_cases aX:ab>0
         ·rw[if_pos aX]at H;have bC:=decide_eq_true aX;clear aX;obtain⟨ai,aJ⟩:∃j_:Int,(wrap64 (ab - 1))=j_:=⟨_,rfl⟩;replace H:(if 0<=(ai) then(if(ai)<(aa.length:Int) then((w_.f ((ny aa (ai)).f0) ((ny aa (ai)).f1) ((ny aa ab).f0) ((ny aa ab).f1)).bind fun aE=>(if aE=true then(pO.l0 k2 (wrap64 (ab+1)) ag aa) else(some false))) else(none)) else(none))=some r:=by first|(rw[aJ]at H;exact H)|(simp only[aJ]at H⊢;exact H)
          (try rw[aJ]at aW);(try rw[aJ]at a5);have c_:(IntKind.i64.wrap (ab - 1))=ai:=(qA _).trans aJ
          obtain⟨dp,H⟩:=oz H
          obtain⟨dq,H⟩:=oz H;obtain⟨aE,bF,H⟩:=ol H;(try dsimp only at H)
          rcases pJ H with⟨h_,H_⟩|⟨h_,H_⟩<;> (subst h_;clear H;have H:=H_;clear H_)
          ·have H':=dm H;clear H;have⟨b1,b2,b3,b4⟩:=nK (w:=wr) ac;have av:0<=(ab:Int):=nD;have aw:ab<(aa.length:Int):=nD;obtain⟨aj,aL,al,am⟩:=qC aK.out ab av aw;cases aL;replace al:=nE HB al;replace am:=nE HB am;replace av:=eq_true av;replace aw:=eq_true aw;try go_wp2_with (first|((with_reducible refine nP 4 rfl ?_);(try(refine rM (by rfl) ?_;dsimp only));refine om 4 #[.int .i64 0,.int .i64 0] 59 ?_;intro ae hg a6 nu hb;have af:=dm (nu);have aT:=dm (t_:w.heap.size<=ae);have aU:=dm (t_:w.heap.size<=ae);replace HB:=nJ HB hb;have ak:=dm (CP:ah≠ae);have ap:=dm (CJ:ae≠ah);replace ac:=nA ac hb;clear hb nu hg;have dr:=ap.out;have dt:=ak.out;have⟨b5,b6,b7,b8⟩:=nK (w:=a6) af))
           have n0:lm (((a6.setCell ⟨ae,0,none⟩ (.int .i64 ((ny aa ab).f0))).setCell ⟨ae,1,none⟩ (.int .i64 ((ny aa ab).f1))).heap[ah]? =some (.cells #[.int .i64 ag,.slice (some aj) aa.length az] 31 (0,0))):=⟨CB⟩;have n1:lm (((a6.setCell ⟨ae,0,none⟩ (.int .i64 ((ny aa ab).f0))).setCell ⟨ae,1,none⟩ (.int .i64 ((ny aa ab).f1))).heap[ae]? =some (.cells #[.int .i64 ((ny aa ab).f0),.int .i64 ((ny aa ab).f1)] 59 (0,0))):=⟨CF⟩;have n2:lm (Below w.heap.size w ((a6.setCell ⟨ae,0,none⟩ (.int .i64 ((ny aa ab).f0))).setCell ⟨ae,1,none⟩ (.int .i64 ((ny aa ab).f1)))):=⟨nC HB.out⟩;(try clear ac af HB);generalize((a6.setCell ⟨ae,0,none⟩ (.int .i64 ((ny aa ab).f0))).setCell ⟨ae,1,none⟩ (.int .i64 ((ny aa ab).f1)))=da at n0 n1 n2⊢;revert n0 n1 n2;intro ac af HB;replace ac:=dm (nV ac.out);replace af:=dm (nV af.out);replace HB:=dm (o9 HB.out);have aO:0<=((ai):Int):=nD;have aP:(ai)<(aa.length:Int):=nD;obtain⟨aZ,bc,aA,aB⟩:=qC aK.out (ai) aO aP;have aC:=aB;have aD:=aA;obtain rfl:aj=aZ:=(by injection bc);replace aA:=nE HB aA;replace aB:=nE HB aB;replace aO:=eq_true aO;replace aP:=eq_true aP;refine pU 34 (S:=fun w'=>w'.cell? ⟨ae,0,none⟩=some (.int .i64 ((ny aa ab).f0))/\w'.cell? ⟨ae,1,none⟩=some (.int .i64 ((ny aa ab).f1))/\w'.cell? ⟨ah,0,none⟩=some (.int .i64 ag)/\w'.cell? ⟨ah,1,none⟩=some (.slice (some aj) aa.length az)/\w'.cell? (aj.add (((ai)).toNat*2))=some (.int .i64 ((ny aa (ai)).f0))/\w'.cell? ⟨(aj.add (((ai)).toNat*2)).block,(aj.add (((ai)).toNat*2)).off+1,none⟩=some (.int .i64 ((ny aa (ai)).f1))) [] ⟨nk af 0,nk af 1,nk ac 0,nk ac 1,(nE HB aD),(nE HB aC)⟩ pO.uT pO.uO (fun hHeld HT_ HW_=>?_);generalize da.drew=dH at ac af HB aA aB hHeld⊢;refine lq 0 27 1 ?_;refine lq 2 29 5 ?_;refine pX 1 28 7 ?_;refine pX 3 30 15 ?_;refine lq 4 31 31 ?_;refine oD 5 32 63 (fun K hK=>?_);refine oO Try.func75 #[.int .i64 ((ny aa ab).f0),.int .i64 0,.int .i64 (wrap64 (ag - 1))] ?_;with_reducible refine(uA.calls ((ny aa ab).f0) 0 (wrap64 (ag - 1)) true _ aW.out).mono ?_
           rintro e w' ⟨rfl,⟨nd,rfl⟩⟩;refine⟨_,rfl,?_⟩;refine hK.out _ _ ⟨nk af 0,nk af 1,nk ac 0,nk ac 1,(nE HB aD),(nE HB aC)⟩ (fun hHeld=>?_);clear hK K;refine nQ 32 ?_;refine lq 6 33 127 ?_;refine lq 7 34 255 ?_;refine lq 8 35 511 ?_;refine lq 10 37 1535 ?_;refine lq 13 40 9727 ?_;refine pX 9 36 10239 ?_;refine pX 11 38 12287 ?_;refine lq 12 39 16383 ?_;refine pX 14 41 32767 ?_;refine lq 15 42 65535 ?_;refine oD 16 43 131071 (fun K hK=>?_);refine oO Try.func75 #[.int .i64 ((ny aa ab).f1),.int .i64 (wrap64 (((ny aa ab).f0)+1)),.int .i64 (wrap64 (ag - 1))] ?_;with_reducible refine(uA.calls ((ny aa ab).f1) (wrap64 (((ny aa ab).f0)+1)) (wrap64 (ag - 1)) true _ a5.out).mono ?_
           rintro e w' ⟨rfl,⟨nd,rfl⟩⟩;refine⟨_,rfl,?_⟩;refine hK.out _ _ ⟨nk af 0,nk af 1,nk ac 0,nk ac 1,(nE HB aD),(nE HB aC)⟩ (fun hHeld=>?_);clear hK K;refine nQ 43 ?_;refine lq 17 44 262143 ?_;refine lq 18 45 524287 ?_;refine lq 19 46 1048575 ?_;refine lq 20 47 2097151 ?_;refine lq 21 48 4194303 ?_;refine lq 22 49 8388607 ?_;refine lq 23 50 16777215 ?_;refine lq 25 52 50331647 ?_;refine lq 26 53 117440511 ?_;refine pX 24 51 134217727 ?_;refine lq 27 54 268435455 ?_;refine pX 28 55 536870911 ?_;refine pX 29 56 1073741823 ?_;refine oD 30 57 2147483647 (fun K hK=>?_);refine ug Try.func76 (Al) rfl #[.agg #[.int .i64 ((ny aa (ai)).f0),.int .i64 ((ny aa (ai)).f1)],.agg #[.int .i64 ((ny aa ab).f0),.int .i64 ((ny aa ab).f1)]] (by rfl) rfl rfl (K3) ?_;with_reducible refine(w_.calls ((ny aa (ai)).f0) ((ny aa (ai)).f1) ((ny aa ab).f0) ((ny aa ab).f1) true _ bF.out).mono ?_
           rintro e dI ⟨rfl,hb⟩;refine⟨_,rfl,?_⟩;replace ac:=nA ac hb;replace af:=nA af hb;replace HB:=nJ HB hb;(try clear hb);refine hK.out _ _ ⟨nk af 0,nk af 1,nk ac 0,nk ac 1,(nE HB aD),(nE HB aC)⟩ (fun hHeld=>?_);clear hK K;refine nQ 57 ?_;refine lq 31 58 4294967295 ?_;refine lq 32 59 8589934591 ?_;refine lq 33 60 17179869183 ?_;refine pM (pQ HT_.out (Al)) ?_;try go_wp2
           go_roundg k2
           case measure=>have:=bm.out;have:=bn.out;omega
           case rel=>exact⟨(wrap64 (ab+1)),(AL),H',⟨by have:=bm.out;have:=bn.out;omega⟩,⟨nG ac.out⟩,⟨nC HB.out⟩⟩
          ·obtain rfl:=Option.some.inj H;have⟨b9,b_,ca,cd⟩:=nK (w:=wr) ac;have av:0<=(ab:Int):=nD;have aw:ab<(aa.length:Int):=nD;obtain⟨aj,aL,al,am⟩:=qC aK.out ab av aw;cases aL;replace al:=nE HB al;replace am:=nE HB am;replace av:=eq_true av;replace aw:=eq_true aw;try go_wp2_with (first|((with_reducible refine nP 4 rfl ?_);(try(refine rM (by rfl) ?_;dsimp only));refine om 4 #[.int .i64 0,.int .i64 0] 59 ?_;intro ae hg a7 nu hb;have af:=dm (nu);have aT:=dm (t_:w.heap.size<=ae);have aU:=dm (t_:w.heap.size<=ae);replace HB:=nJ HB hb;have ak:=dm (CP:ah≠ae);have ap:=dm (CJ:ae≠ah);replace ac:=nA ac hb;clear hb nu hg;have du:=ap.out;have dv:=ak.out;have⟨ce,cf,cg,ch⟩:=nK (w:=a7) af))
           have n0:lm (((a7.setCell ⟨ae,0,none⟩ (.int .i64 ((ny aa ab).f0))).setCell ⟨ae,1,none⟩ (.int .i64 ((ny aa ab).f1))).heap[ah]? =some (.cells #[.int .i64 ag,.slice (some aj) aa.length az] 31 (0,0))):=⟨CB⟩;have n1:lm (((a7.setCell ⟨ae,0,none⟩ (.int .i64 ((ny aa ab).f0))).setCell ⟨ae,1,none⟩ (.int .i64 ((ny aa ab).f1))).heap[ae]? =some (.cells #[.int .i64 ((ny aa ab).f0),.int .i64 ((ny aa ab).f1)] 59 (0,0))):=⟨CF⟩;have n2:lm (Below w.heap.size w ((a7.setCell ⟨ae,0,none⟩ (.int .i64 ((ny aa ab).f0))).setCell ⟨ae,1,none⟩ (.int .i64 ((ny aa ab).f1)))):=⟨nC HB.out⟩;(try clear ac af HB);generalize((a7.setCell ⟨ae,0,none⟩ (.int .i64 ((ny aa ab).f0))).setCell ⟨ae,1,none⟩ (.int .i64 ((ny aa ab).f1)))=db at n0 n1 n2⊢;revert n0 n1 n2;intro ac af HB;replace ac:=dm (nV ac.out);replace af:=dm (nV af.out);replace HB:=dm (o9 HB.out);have aO:0<=((ai):Int):=nD;have aP:(ai)<(aa.length:Int):=nD;obtain⟨aZ,bc,aA,aB⟩:=qC aK.out (ai) aO aP;have aC:=aB;have aD:=aA;obtain rfl:aj=aZ:=(by injection bc);replace aA:=nE HB aA;replace aB:=nE HB aB;replace aO:=eq_true aO;replace aP:=eq_true aP;refine pU 34 (S:=fun w'=>w'.cell? ⟨ae,0,none⟩=some (.int .i64 ((ny aa ab).f0))/\w'.cell? ⟨ae,1,none⟩=some (.int .i64 ((ny aa ab).f1))/\w'.cell? ⟨ah,0,none⟩=some (.int .i64 ag)/\w'.cell? ⟨ah,1,none⟩=some (.slice (some aj) aa.length az)/\w'.cell? (aj.add (((ai)).toNat*2))=some (.int .i64 ((ny aa (ai)).f0))/\w'.cell? ⟨(aj.add (((ai)).toNat*2)).block,(aj.add (((ai)).toNat*2)).off+1,none⟩=some (.int .i64 ((ny aa (ai)).f1))) [] ⟨nk af 0,nk af 1,nk ac 0,nk ac 1,(nE HB aD),(nE HB aC)⟩ pO.uT pO.uO (fun hHeld HT_ HW_=>?_);generalize db.drew=dJ at ac af HB aA aB hHeld⊢;refine lq 0 27 1 ?_;refine lq 2 29 5 ?_;refine pX 1 28 7 ?_;refine pX 3 30 15 ?_;refine lq 4 31 31 ?_;refine oD 5 32 63 (fun K hK=>?_);refine oO Try.func75 #[.int .i64 ((ny aa ab).f0),.int .i64 0,.int .i64 (wrap64 (ag - 1))] ?_;with_reducible refine(uA.calls ((ny aa ab).f0) 0 (wrap64 (ag - 1)) true _ aW.out).mono ?_
           rintro e w' ⟨rfl,⟨nd,rfl⟩⟩;refine⟨_,rfl,?_⟩;refine hK.out _ _ ⟨nk af 0,nk af 1,nk ac 0,nk ac 1,(nE HB aD),(nE HB aC)⟩ (fun hHeld=>?_);clear hK K;refine nQ 32 ?_;refine lq 6 33 127 ?_;refine lq 7 34 255 ?_;refine lq 8 35 511 ?_;refine lq 10 37 1535 ?_;refine lq 13 40 9727 ?_;refine pX 9 36 10239 ?_;refine pX 11 38 12287 ?_;refine lq 12 39 16383 ?_;refine pX 14 41 32767 ?_;refine lq 15 42 65535 ?_;refine oD 16 43 131071 (fun K hK=>?_);refine oO Try.func75 #[.int .i64 ((ny aa ab).f1),.int .i64 (wrap64 (((ny aa ab).f0)+1)),.int .i64 (wrap64 (ag - 1))] ?_;with_reducible refine(uA.calls ((ny aa ab).f1) (wrap64 (((ny aa ab).f0)+1)) (wrap64 (ag - 1)) true _ a5.out).mono ?_
           rintro e w' ⟨rfl,⟨nd,rfl⟩⟩;refine⟨_,rfl,?_⟩;refine hK.out _ _ ⟨nk af 0,nk af 1,nk ac 0,nk ac 1,(nE HB aD),(nE HB aC)⟩ (fun hHeld=>?_);clear hK K;refine nQ 43 ?_;refine lq 17 44 262143 ?_;refine lq 18 45 524287 ?_;refine lq 19 46 1048575 ?_;refine lq 20 47 2097151 ?_;refine lq 21 48 4194303 ?_;refine lq 22 49 8388607 ?_;refine lq 23 50 16777215 ?_;refine lq 25 52 50331647 ?_;refine lq 26 53 117440511 ?_;refine pX 24 51 134217727 ?_;refine lq 27 54 268435455 ?_;refine pX 28 55 536870911 ?_;refine pX 29 56 1073741823 ?_;refine oD 30 57 2147483647 (fun K hK=>?_);refine ug Try.func76 (Al) rfl #[.agg #[.int .i64 ((ny aa (ai)).f0),.int .i64 ((ny aa (ai)).f1)],.agg #[.int .i64 ((ny aa ab).f0),.int .i64 ((ny aa ab).f1)]] (by rfl) rfl rfl (K3) ?_;with_reducible refine(w_.calls ((ny aa (ai)).f0) ((ny aa (ai)).f1) ((ny aa ab).f0) ((ny aa ab).f1) false _ bF.out).mono ?_
           rintro e dK ⟨rfl,hb⟩;refine⟨_,rfl,?_⟩;replace ac:=nA ac hb;replace af:=nA af hb;replace HB:=nJ HB hb;(try clear hb);refine hK.out _ _ ⟨nk af 0,nk af 1,nk ac 0,nk ac 1,(nE HB aD),(nE HB aC)⟩ (fun hHeld=>?_);clear hK K;refine nQ 57 ?_;refine lq 31 58 4294967295 ?_;refine lq 32 59 8589934591 ?_;refine lq 33 60 17179869183 ?_;refine pM (pQ HT_.out (Al)) ?_;try go_wp2
           go_ret
           exact⟨by first|rfl|(simp[qa,qb]<;>rfl)|(simp only[←aJ];first|rfl|(simp[qa,qb]<;>rfl))|(simp[*,qa,qb]<;>rfl),nC HB.out⟩
         ·rw[if_neg aX]at H;have bC:=decide_eq_false aX;clear aX;have H':=dm H;clear H;have⟨ci,cj,ck,cl⟩:=nK (w:=wr) ac;have av:0<=(ab:Int):=nD;have aw:ab<(aa.length:Int):=nD;obtain⟨aj,aL,al,am⟩:=qC aK.out ab av aw;cases aL;replace al:=nE HB al;replace am:=nE HB am;replace av:=eq_true av;replace aw:=eq_true aw;try go_wp2_with (first|((with_reducible refine nP 4 rfl ?_);(try(refine rM (by rfl) ?_;dsimp only));refine om 4 #[.int .i64 0,.int .i64 0] 59 ?_;intro ae hg a8 nu hb;have af:=dm (nu);have aT:=dm (t_:w.heap.size<=ae);have aU:=dm (t_:w.heap.size<=ae);replace HB:=nJ HB hb;have ak:=dm (CP:ah≠ae);have ap:=dm (CJ:ae≠ah);replace ac:=nA ac hb;clear hb nu hg;have dw:=ap.out;have dx:=ak.out;have⟨cm,cn,co,cp⟩:=nK (w:=a8) af))
          have n0:lm (((a8.setCell ⟨ae,0,none⟩ (.int .i64 ((ny aa ab).f0))).setCell ⟨ae,1,none⟩ (.int .i64 ((ny aa ab).f1))).heap[ah]? =some (.cells #[.int .i64 ag,.slice (some aj) aa.length az] 31 (0,0))):=⟨CB⟩;have n1:lm (((a8.setCell ⟨ae,0,none⟩ (.int .i64 ((ny aa ab).f0))).setCell ⟨ae,1,none⟩ (.int .i64 ((ny aa ab).f1))).heap[ae]? =some (.cells #[.int .i64 ((ny aa ab).f0),.int .i64 ((ny aa ab).f1)] 59 (0,0))):=⟨CF⟩;have n2:lm (Below w.heap.size w ((a8.setCell ⟨ae,0,none⟩ (.int .i64 ((ny aa ab).f0))).setCell ⟨ae,1,none⟩ (.int .i64 ((ny aa ab).f1)))):=⟨nC HB.out⟩;(try clear ac af HB);generalize((a8.setCell ⟨ae,0,none⟩ (.int .i64 ((ny aa ab).f0))).setCell ⟨ae,1,none⟩ (.int .i64 ((ny aa ab).f1)))=dc at n0 n1 n2⊢;revert n0 n1 n2;intro ac af HB;replace ac:=dm (nV ac.out);replace af:=dm (nV af.out);replace HB:=dm (o9 HB.out);refine pU 34 (S:=fun w'=>w'.cell? ⟨ae,0,none⟩=some (.int .i64 ((ny aa ab).f0))/\w'.cell? ⟨ae,1,none⟩=some (.int .i64 ((ny aa ab).f1))/\w'.cell? ⟨ah,0,none⟩=some (.int .i64 ag)/\w'.cell? ⟨ah,1,none⟩=some (.slice (some aj) aa.length az)) [] ⟨nk af 0,nk af 1,nk ac 0,nk ac 1⟩ pO.uT pO.uO (fun hHeld HT_ HW_=>?_);generalize dc.drew=dL at ac af HB hHeld⊢;refine lq 0 27 1 ?_;refine lq 2 29 5 ?_;refine p8 1 28 7 ?_;refine p8 3 30 15 ?_;refine lq 4 31 31 ?_;refine oD 5 32 63 (fun K hK=>?_);refine oO Try.func75 #[.int .i64 ((ny aa ab).f0),.int .i64 0,.int .i64 (wrap64 (ag - 1))] ?_;with_reducible refine(uA.calls ((ny aa ab).f0) 0 (wrap64 (ag - 1)) true _ aW.out).mono ?_
          rintro e w' ⟨rfl,⟨nd,rfl⟩⟩;refine⟨_,rfl,?_⟩;refine hK.out _ _ ⟨nk af 0,nk af 1,nk ac 0,nk ac 1⟩ (fun hHeld=>?_);clear hK K;refine nQ 32 ?_;refine lq 6 33 127 ?_;refine lq 7 34 255 ?_;refine lq 8 35 511 ?_;refine lq 10 37 1535 ?_;refine lq 13 40 9727 ?_;refine p8 9 36 10239 ?_;refine p8 11 38 12287 ?_;refine lq 12 39 16383 ?_;refine p8 14 41 32767 ?_;refine lq 15 42 65535 ?_;refine oD 16 43 131071 (fun K hK=>?_);refine oO Try.func75 #[.int .i64 ((ny aa ab).f1),.int .i64 (wrap64 (((ny aa ab).f0)+1)),.int .i64 (wrap64 (ag - 1))] ?_;with_reducible refine(uA.calls ((ny aa ab).f1) (wrap64 (((ny aa ab).f0)+1)) (wrap64 (ag - 1)) true _ a5.out).mono ?_
          rintro e w' ⟨rfl,⟨nd,rfl⟩⟩;refine⟨_,rfl,?_⟩;refine hK.out _ _ ⟨nk af 0,nk af 1,nk ac 0,nk ac 1⟩ (fun hHeld=>?_);clear hK K;refine nQ 43 ?_;refine lq 17 44 262143 ?_;refine lq 18 45 524287 ?_;refine lq 19 46 1048575 ?_;refine lq 20 47 2097151 ?_;refine lq 21 48 4194303 ?_;refine lq 22 49 8388607 ?_;refine oC 23 50 16777215 ?_;refine oC 24 51 33554431 ?_;refine oC 25 52 67108863 ?_;refine oC 26 53 134217727 ?_;refine oC 27 54 268435455 ?_;refine oC 28 55 536870911 ?_;refine oC 29 56 1073741823 ?_;refine oC 30 57 2147483647 ?_;refine oC 31 58 4294967295 ?_;refine lq 32 59 8589934591 ?_;refine lq 33 60 17179869183 ?_;refine pM (pQ HT_.out (Al)) ?_;try go_wp2
          go_roundg k2
          case measure=>have:=bm.out;have:=bn.out;omega
          case rel=>exact⟨(wrap64 (ab+1)),(AL),H',⟨by have:=bm.out;have:=bn.out;omega⟩,⟨nG ac.out⟩,⟨nC HB.out⟩⟩
        ·obtain rfl:=Option.some.inj H;have⟨cq,cr,ct,cu⟩:=nK (w:=wr) ac;have av:0<=(ab:Int):=nD;have aw:ab<(aa.length:Int):=nD;obtain⟨aj,aL,al,am⟩:=qC aK.out ab av aw;cases aL;replace al:=nE HB al;replace am:=nE HB am;replace av:=eq_true av;replace aw:=eq_true aw;try go_wp2_with (first|((with_reducible refine nP 4 rfl ?_);(try(refine rM (by rfl) ?_;dsimp only));refine om 4 #[.int .i64 0,.int .i64 0] 59 ?_;intro ae hg a9 nu hb;have af:=dm (nu);have aT:=dm (t_:w.heap.size<=ae);have aU:=dm (t_:w.heap.size<=ae);replace HB:=nJ HB hb;have ak:=dm (CP:ah≠ae);have ap:=dm (CJ:ae≠ah);replace ac:=nA ac hb;clear hb nu hg;have dy:=ap.out;have dz:=ak.out;have⟨cv,cw,cx,cy⟩:=nK (w:=a9) af))
         have n0:lm (((a9.setCell ⟨ae,0,none⟩ (.int .i64 ((ny aa ab).f0))).setCell ⟨ae,1,none⟩ (.int .i64 ((ny aa ab).f1))).heap[ah]? =some (.cells #[.int .i64 ag,.slice (some aj) aa.length az] 31 (0,0))):=⟨CB⟩;have n1:lm (((a9.setCell ⟨ae,0,none⟩ (.int .i64 ((ny aa ab).f0))).setCell ⟨ae,1,none⟩ (.int .i64 ((ny aa ab).f1))).heap[ae]? =some (.cells #[.int .i64 ((ny aa ab).f0),.int .i64 ((ny aa ab).f1)] 59 (0,0))):=⟨CF⟩;have n2:lm (Below w.heap.size w ((a9.setCell ⟨ae,0,none⟩ (.int .i64 ((ny aa ab).f0))).setCell ⟨ae,1,none⟩ (.int .i64 ((ny aa ab).f1)))):=⟨nC HB.out⟩;(try clear ac af HB);generalize((a9.setCell ⟨ae,0,none⟩ (.int .i64 ((ny aa ab).f0))).setCell ⟨ae,1,none⟩ (.int .i64 ((ny aa ab).f1)))=dd at n0 n1 n2⊢;revert n0 n1 n2;intro ac af HB;replace ac:=dm (nV ac.out);replace af:=dm (nV af.out);replace HB:=dm (o9 HB.out);refine pU 34 (S:=fun w'=>w'.cell? ⟨ae,0,none⟩=some (.int .i64 ((ny aa ab).f0))/\w'.cell? ⟨ae,1,none⟩=some (.int .i64 ((ny aa ab).f1))/\w'.cell? ⟨ah,0,none⟩=some (.int .i64 ag)/\w'.cell? ⟨ah,1,none⟩=some (.slice (some aj) aa.length az)) [] ⟨nk af 0,nk af 1,nk ac 0,nk ac 1⟩ pO.uT pO.uO (fun hHeld HT_ HW_=>?_);generalize dd.drew=dM at ac af HB hHeld⊢;refine lq 0 27 1 ?_;refine lq 2 29 5 ?_;refine p8 1 28 7 ?_;refine p8 3 30 15 ?_;refine lq 4 31 31 ?_;refine oD 5 32 63 (fun K hK=>?_);refine oO Try.func75 #[.int .i64 ((ny aa ab).f0),.int .i64 0,.int .i64 (wrap64 (ag - 1))] ?_;with_reducible refine(uA.calls ((ny aa ab).f0) 0 (wrap64 (ag - 1)) true _ aW.out).mono ?_
         rintro e w' ⟨rfl,⟨nd,rfl⟩⟩;refine⟨_,rfl,?_⟩;refine hK.out _ _ ⟨nk af 0,nk af 1,nk ac 0,nk ac 1⟩ (fun hHeld=>?_);clear hK K;refine nQ 32 ?_;refine lq 6 33 127 ?_;refine lq 7 34 255 ?_;refine lq 8 35 511 ?_;refine lq 10 37 1535 ?_;refine lq 13 40 9727 ?_;refine p8 9 36 10239 ?_;refine p8 11 38 12287 ?_;refine lq 12 39 16383 ?_;refine p8 14 41 32767 ?_;refine lq 15 42 65535 ?_;refine oD 16 43 131071 (fun K hK=>?_);refine oO Try.func75 #[.int .i64 ((ny aa ab).f1),.int .i64 (wrap64 (((ny aa ab).f0)+1)),.int .i64 (wrap64 (ag - 1))] ?_;with_reducible refine(uA.calls ((ny aa ab).f1) (wrap64 (((ny aa ab).f0)+1)) (wrap64 (ag - 1)) false _ a5.out).mono ?_
         rintro e w' ⟨rfl,⟨nd,rfl⟩⟩;refine⟨_,rfl,?_⟩;refine hK.out _ _ ⟨nk af 0,nk af 1,nk ac 0,nk ac 1⟩ (fun hHeld=>?_);clear hK K;refine nQ 43 ?_;refine lq 17 44 262143 ?_;refine lq 18 45 524287 ?_;refine lq 19 46 1048575 ?_;refine oC 20 47 2097151 ?_;refine oC 21 48 4194303 ?_;refine oC 22 49 8388607 ?_;refine oC 23 50 16777215 ?_;refine oC 24 51 33554431 ?_;refine oC 25 52 67108863 ?_;refine oC 26 53 134217727 ?_;refine oC 27 54 268435455 ?_;refine oC 28 55 536870911 ?_;refine oC 29 56 1073741823 ?_;refine oC 30 57 2147483647 ?_;refine oC 31 58 4294967295 ?_;refine oC 32 59 8589934591 ?_;refine lq 33 60 17179869183 ?_;refine pM (pQ HT_.out (Al)) ?_;try go_wp2
         go_ret
         exact⟨Aw,nC HB.out⟩
       ·obtain rfl:=Option.some.inj H;have⟨cz,cA,cD,cE⟩:=nK (w:=wr) ac;have av:0<=(ab:Int):=nD;have aw:ab<(aa.length:Int):=nD;obtain⟨aj,aL,al,am⟩:=qC aK.out ab av aw;cases aL;replace al:=nE HB al;replace am:=nE HB am;replace av:=eq_true av;replace aw:=eq_true aw;try go_wp2_with (first|((with_reducible refine nP 4 rfl ?_);(try(refine rM (by rfl) ?_;dsimp only));refine om 4 #[.int .i64 0,.int .i64 0] 59 ?_;intro ae hg a_ nu hb;have af:=dm (nu);have aT:=dm (t_:w.heap.size<=ae);have aU:=dm (t_:w.heap.size<=ae);replace HB:=nJ HB hb;have ak:=dm (CP:ah≠ae);have ap:=dm (CJ:ae≠ah);replace ac:=nA ac hb;clear hb nu hg;have dA:=ap.out;have dB:=ak.out;have⟨cF,cG,cH,cI⟩:=nK (w:=a_) af))
        have n0:lm (((a_.setCell ⟨ae,0,none⟩ (.int .i64 ((ny aa ab).f0))).setCell ⟨ae,1,none⟩ (.int .i64 ((ny aa ab).f1))).heap[ah]? =some (.cells #[.int .i64 ag,.slice (some aj) aa.length az] 31 (0,0))):=⟨CB⟩;have n1:lm (((a_.setCell ⟨ae,0,none⟩ (.int .i64 ((ny aa ab).f0))).setCell ⟨ae,1,none⟩ (.int .i64 ((ny aa ab).f1))).heap[ae]? =some (.cells #[.int .i64 ((ny aa ab).f0),.int .i64 ((ny aa ab).f1)] 59 (0,0))):=⟨CF⟩;have n2:lm (Below w.heap.size w ((a_.setCell ⟨ae,0,none⟩ (.int .i64 ((ny aa ab).f0))).setCell ⟨ae,1,none⟩ (.int .i64 ((ny aa ab).f1)))):=⟨nC HB.out⟩;(try clear ac af HB);generalize((a_.setCell ⟨ae,0,none⟩ (.int .i64 ((ny aa ab).f0))).setCell ⟨ae,1,none⟩ (.int .i64 ((ny aa ab).f1)))=de at n0 n1 n2⊢;revert n0 n1 n2;intro ac af HB;replace ac:=dm (nV ac.out);replace af:=dm (nV af.out);replace HB:=dm (o9 HB.out);refine pU 34 (S:=fun w'=>w'.cell? ⟨ae,0,none⟩=some (.int .i64 ((ny aa ab).f0))/\w'.cell? ⟨ae,1,none⟩=some (.int .i64 ((ny aa ab).f1))/\w'.cell? ⟨ah,0,none⟩=some (.int .i64 ag)/\w'.cell? ⟨ah,1,none⟩=some (.slice (some aj) aa.length az)) [] ⟨nk af 0,nk af 1,nk ac 0,nk ac 1⟩ pO.uT pO.uO (fun hHeld HT_ HW_=>?_);generalize de.drew=dN at ac af HB hHeld⊢;refine lq 0 27 1 ?_;refine lq 2 29 5 ?_;refine p8 1 28 7 ?_;refine p8 3 30 15 ?_;refine lq 4 31 31 ?_;refine oD 5 32 63 (fun K hK=>?_);refine oO Try.func75 #[.int .i64 ((ny aa ab).f0),.int .i64 0,.int .i64 (wrap64 (ag - 1))] ?_;with_reducible refine(uA.calls ((ny aa ab).f0) 0 (wrap64 (ag - 1)) false _ aW.out).mono ?_
        rintro e w' ⟨rfl,⟨nd,rfl⟩⟩;refine⟨_,rfl,?_⟩;refine hK.out _ _ ⟨nk af 0,nk af 1,nk ac 0,nk ac 1⟩ (fun hHeld=>?_);clear hK K;refine nQ 32 ?_;refine lq 6 33 127 ?_;refine lq 7 34 255 ?_;refine oC 8 35 511 ?_;refine oC 9 36 1023 ?_;refine oC 10 37 2047 ?_;refine oC 11 38 4095 ?_;refine oC 12 39 8191 ?_;refine oC 13 40 16383 ?_;refine oC 14 41 32767 ?_;refine oC 15 42 65535 ?_;refine oC 16 43 131071 ?_;refine oC 17 44 262143 ?_;refine lq 18 45 524287 ?_;refine lq 19 46 1048575 ?_;refine oC 20 47 2097151 ?_;refine oC 21 48 4194303 ?_;refine oC 22 49 8388607 ?_;refine oC 23 50 16777215 ?_;refine oC 24 51 33554431 ?_;refine oC 25 52 67108863 ?_;refine oC 26 53 134217727 ?_;refine oC 27 54 268435455 ?_;refine oC 28 55 536870911 ?_;refine oC 29 56 1073741823 ?_;refine oC 30 57 2147483647 ?_;refine oC 31 58 4294967295 ?_;refine oC 32 59 8589934591 ?_;refine lq 33 60 17179869183 ?_;refine pM (pQ HT_.out (Al)) ?_;try go_wp2
        go_ret
        exact⟨Aw,nC HB.out⟩
      ·rw[if_neg c9]at H;have ba:=decide_eq_false c9;clear c9;obtain rfl:=Option.some.inj H;have⟨cJ,cL,cM,cN⟩:=nK (w:=wr) ac
       go_wp2
       go_ret
       exact⟨Aw,nC HB.out⟩
theorem KG {p:Prop}(h:p:=by(try simp only[List.map_toArray,List.map_cons,List.map_nil]);first|done|(simp only[bz];rfl)|rfl|(simp only[List.length_drop,List.length_take];rfl)):p:=h
theorem yn {p:Prop}(h:p:=by first|rfl|(simp[qa,qb]<;>rfl)|(simp[*,qa,qb]<;>rfl)):p:=h
theorem vk {p:Prop}(h:p:=by first|rfl|(simp;done)|(simp[*];done)):p:=h
theorem vG {p:Prop}(h:p:=by rw[hg];exact(nX (nC HB.out))):p:=h
theorem yJ {p:Prop}(h:p:=by kernel_rfl):p:=h
attribute [local go_sem high] Ef
def tK.f (a0:Int) (a1:Int):Option (Int×Int):=if a0<a1 then(some (a0,a1)) else(some (a1,a0))
theorem tK.calls (a0:Int) (a1:Int) (r1:Int) (r2:Int) (w:World) (h:tK.f a0 a1=some (r1,r2)):
  Calls Try.prog 46 #[.int .i64 a0,.int .i64 a1] w fun e w'=>e=.returned (.agg #[.int .i64 r1,.int .i64 r2])/\Below w.heap.size w w':=by
 have bF:=Try.underlying59;have HB:=dm (Below.refl w.heap.size w);unfold tK.f at h;have H:=h;clear h
 by_cases c3:a0<a1
 ·rw[if_pos c3]at H;have bC:=decide_eq_true c3;clear c3;simp only[Option.some.injEq,Prod.mk.injEq]at H;obtain⟨rfl,rfl⟩:=H
  go_enter Try.func46,Try.ntmps46
  go_wp2_with (first|((with_reducible refine nP 4 rfl ?_);refine om 4 #[.int .i64 0,.int .i64 0] 59 ?_;intro aX hg w4 nu hb;have bn:=dm (nu);have b8:=dm (vG:w.heap.size<=aX);have b9:=dm (vG:w.heap.size<=aX);replace HB:=nJ HB hb;clear hb nu hg;have⟨cS,cT,cU,cW⟩:=nK (w:=w4) bn))
  refine bodyPost_ret (results_cell_row rfl _ _ aX 59 #[.int .i64 a0,.int .i64 a1] (0,0) _ rfl (oJ bn.out) Try.underlying59 rfl (yJ)) rfl ?_;exact⟨yn,nC HB.out⟩
 ·rw[if_neg c3]at H;have bC:=decide_eq_false c3;clear c3;simp only[Option.some.injEq,Prod.mk.injEq]at H;obtain⟨rfl,rfl⟩:=H
  go_enter Try.func46,Try.ntmps46
  go_wp2_with (first|((with_reducible refine nP 4 rfl ?_);refine om 4 #[.int .i64 0,.int .i64 0] 59 ?_;intro aX hg w6 nu hb;have bn:=dm (nu);have b8:=dm (vG:w.heap.size<=aX);have b9:=dm (vG:w.heap.size<=aX);replace HB:=nJ HB hb;clear hb nu hg;have⟨bT,bU,bV,bW⟩:=nK (w:=w6) bn))
  refine bodyPost_ret (results_cell_row rfl _ _ aX 59 #[.int .i64 a1,.int .i64 a0] (0,0) _ rfl (oJ bn.out) Try.underlying59 rfl (yJ)) rfl ?_;exact⟨yn,nC HB.out⟩
def qj.l0:Nat->List Int->Int->Int->Option (Bool)
 |0,_,_,_=>none
 |k+1,x0,x1,x5=>if x5<(x0.length:Int) then(if 0<=x5 then(if(rd x0 x5)=x1 then(some true) else(qj.l0 k x0 x1 (wrap64 (x5+1)))) else(none)) else(some false)
def qj.f (k:Nat) (l0:List Int) (a1:Int):Option (Bool):=qj.l0 k l0 a1 0
theorem qj.calls (k:Nat) (A0:Option Addr) (c0:Nat) (l0:List Int) (a1:Int) (r:Bool) (w:World) (bw:Kd.C (Kd.int .i64) w A0 l0.length l0) (bx:l0.length<=c0) (h:qj.f k l0 a1=some r):
  Calls Try.prog 47 #[.slice A0 l0.length c0,.int .i64 a1] w fun e w'=>e=.returned (.bool r)/\oM w w':=by
 have a8:=dm bw;have ch:=dm bx;clear bw bx;unfold qj.f at h;have H:=h;clear h;have H':=dm H;clear H
 go_enter Try.func47,Try.ntmps47
 go_wp2
 go_loopg [5] k (fun kq v5 w'=>∃ (ak:Int),v5=.int .i64 ak/\lm (qj.l0 kq l0 a1 ak=some r)/\lm (kq<=k)/\oM w w')
 case atStart=>exact⟨(0),(vk),H',⟨Nat.le_refl _⟩,by repeat(first|exact oM.refl _|apply oM.step)⟩
 case round=>
  clear H';try clear p2
  obtain⟨ak,rfl,HA,a5,⟨m1,rfl⟩⟩:=hrel;cases gk with
  |zero=>exact absurd HA.out (by simp[qj.l0])
  |succ k1=>
   have H:=HA.out;clear HA;simp only[qj.l0]at H
   by_cases c3:ak<(l0.length:Int)
   ·rw[if_pos c3]at H;have bC:=decide_eq_true c3;clear c3
    obtain⟨bX,H⟩:=oz H
    by_cases c5:(rd l0 ak)=a1
    ·rw[if_pos c5]at H;have br:=beq_iff_eq.mpr c5;have bG:=bne_eq_false_iff_eq.mpr c5;clear c5;obtain rfl:=Option.some.inj H;have a9:0<=(ak:Int):=nD;have a_:ak<(l0.length:Int):=nD;obtain⟨b_,bH,bQ⟩:=oG a8.out ak a9 a_;cases bH;replace a9:=eq_true a9;replace a_:=eq_true a_
     go_wp2
     go_ret
     exact⟨vk,by repeat(first|exact oM.refl _|apply oM.step)⟩
    ·rw[if_neg c5]at H;have br:=beq_eq_false_iff_ne.mpr c5;have bG:=bne_iff_ne.mpr c5;have H':=dm H;clear H;have a9:0<=(ak:Int):=nD;have a_:ak<(l0.length:Int):=nD;obtain⟨b_,bH,bQ⟩:=oG a8.out ak a9 a_;cases bH;replace a9:=eq_true a9;replace a_:=eq_true a_
     go_wp2
     go_roundg k1
     case measure=>have:=a5.out;omega
     case rel=>exact⟨(wrap64 (ak+1)),(vk),H',⟨by have:=a5.out;omega⟩,by repeat(first|exact oM.refl _|apply oM.step)⟩
   ·rw[if_neg c3]at H;have bC:=decide_eq_false c3;clear c3;obtain rfl:=Option.some.inj H
    go_wp2
    go_ret
    exact⟨vk,by repeat(first|exact oM.refl _|apply oM.step)⟩
def rf.f (k:Nat) (ab:Int) (aa:List (S59)) (a1:Int):Option (Bool):=(pO.f k ab aa).bind fun bu=>(if bu=true then((uA.f a1 0 (wrap64 (ab - 1))).bind fun aN=>(some aN)) else(some false))
theorem rf.calls (k:Nat) (ab:Int) (ao:Option Addr) (al:Nat) (aa:List (S59)) (a1:Int) (r:Bool) (w:World) (aK:Kd.C k59 w ao aa.length aa) (aL:aa.length<=al) (h:rf.f k ab aa a1=some r):
  Calls Try.prog 85 #[.agg #[.int .i64 ab,.slice ao aa.length al],.int .i64 a1] w fun e w'=>e=.returned (.bool r)/\Below w.heap.size w w':=by
 have bY:=Try.underlying31;have aG:=dm aK;have aY:=dm aL;clear aK aL;have HB:=dm (Below.refl w.heap.size w);unfold rf.f at h;have H:=h;clear h;obtain⟨bu,A3,H⟩:=ol H;(try dsimp only at H)
 rcases pJ H with⟨h_,H_⟩|⟨h_,H_⟩<;> (subst h_;clear H;have H:=H_;clear H_)
 ·obtain⟨aN,A5,H⟩:=ol H;(try dsimp only at H);obtain rfl:=Option.some.inj H
  go_enter Try.func85,Try.ntmps85
  go_wp2_with (first|((with_reducible refine nP 2 rfl ?_);refine om 2 #[.int .i64 ab,.slice ao aa.length al] 31 ?_;intro bo hg w6 nu hb;have aC:=dm (nu);have ca:=dm (vG:w.heap.size<=bo);have cd:=dm (vG:w.heap.size<=bo);replace HB:=nJ HB hb;clear hb nu hg;have⟨bT,bU,bV,bW⟩:=nK (w:=w6) aC)|((with_reducible refine oh 32 rfl ?_);refine og 6 Try.func32 #[.agg #[.int .i64 ab,.slice ao aa.length al]] ?_;(with_reducible refine(pO.calls k ab _ _ aa true _ ?ng ?ni A3.out).mono ?_);(case ng=>exact nO (nT aG.out HB.out));(case ni=>exact aY.out);rintro e w8 ⟨rfl,hb⟩;refine⟨_,rfl,?_⟩;replace aC:=nA aC hb;replace HB:=nJ HB hb;(try clear hb);have⟨bZ,b1,b2,b3⟩:=nK (w:=w8) aC)|(go_at_call 75;(with_reducible refine(uA.calls a1 0 (wrap64 (ab - 1)) aN _ A5.out).mono ?_);rintro e w' ⟨rfl,⟨nd,rfl⟩⟩))
  go_ret
  exact⟨yn,nC HB.out⟩
 ·obtain rfl:=Option.some.inj H
  go_enter Try.func85,Try.ntmps85
  go_wp2_with (first|((with_reducible refine nP 2 rfl ?_);refine om 2 #[.int .i64 ab,.slice ao aa.length al] 31 ?_;intro bo hg b4 nu hb;have aC:=dm (nu);have ca:=dm (vG:w.heap.size<=bo);have cd:=dm (vG:w.heap.size<=bo);replace HB:=nJ HB hb;clear hb nu hg;have⟨cu,cv,cw,cx⟩:=nK (w:=b4) aC)|((with_reducible refine oh 32 rfl ?_);refine og 6 Try.func32 #[.agg #[.int .i64 ab,.slice ao aa.length al]] ?_;(with_reducible refine(pO.calls k ab _ _ aa false _ ?ng ?ni A3.out).mono ?_);(case ng=>exact nO (nT aG.out HB.out));(case ni=>exact aY.out);rintro e b5 ⟨rfl,hb⟩;refine⟨_,rfl,?_⟩;replace aC:=nA aC hb;replace HB:=nJ HB hb;(try clear hb)))
  go_ret
  exact⟨yn,nC HB.out⟩
def sJ.l0:Nat->Int->Int->Int->Int->List (S59)->Option (Bool)
 |0,_,_,_,_,_=>none
 |k+1,x1,x2,x7,bR,a6=>if x7<(a6.length:Int) then(if 0<=x7 then((tK.f x1 x2).bind fun bO=>(if(((ny a6 x7).f0)==bO.1&&(((ny a6 x7).f1)==bO.2))=true then(some true) else(sJ.l0 k x1 x2 (wrap64 (x7+1)) bR a6))) else(none)) else(some false)
def sJ.f (k:Nat) (ab:Int) (aa:List (S59)) (a1:Int) (a2:Int):Option (Bool):=sJ.l0 k a1 a2 0 ab aa
def sJ.T4:Bool×List (List Nat×List Nat):=(true,[([],[]),([0],[0]),([],[]),([1,2],[1,2]),([3],[3]),([],[]),([],[]),([5,6],[5,6]),([4,7],[4,7])])
def sJ.B4:List Nat:=[0,1,0,7,15,0,0,96,255]
theorem sJ.yh:p_ .any (opsOf Try.f113 4)=sJ.T4:=by kernel_rfl
theorem sJ.yc:qQ sJ.T4.2 sJ.B4=true:=by kernel_rfl
theorem sJ.calls (k:Nat) (ab:Int) (ao:Option Addr) (al:Nat) (aa:List (S59)) (a1:Int) (a2:Int) (r:Bool) (w:World) (aK:Kd.C k59 w ao aa.length aa) (aL:aa.length<=al) (h:sJ.f k ab aa a1 a2=some r):
  Calls Try.prog 113 #[.agg #[.int .i64 ab,.slice ao aa.length al],.int .i64 a1,.int .i64 a2] w fun e w'=>e=.returned (.bool r)/\Below w.heap.size w w':=by
 have bY:=Try.underlying31;have bF:=Try.underlying59;have aG:=dm aK;have aY:=dm aL;clear aK aL;have HB:=dm (Below.refl w.heap.size w);unfold sJ.f at h;have H:=h;clear h;have H':=dm H;clear H
 go_enter Try.func113,Try.ntmps113
 go_wp2_with (first|((with_reducible refine nP 3 rfl ?_);refine om 3 #[.int .i64 ab,.slice ao aa.length al] 31 ?_;intro aZ hg w4 nu hb;have af:=dm (nu);have de:=dm (vG:w.heap.size<=aZ);have df:=dm (vG:w.heap.size<=aZ);replace HB:=nJ HB hb;clear hb nu hg))
 go_loopg [7] k (fun kq v7 w'=>∃ (ac:Int),v7=.int .i64 ac/\lm (sJ.l0 kq a1 a2 ac ab aa=some r)/\lm (kq<=k)/\lm (w'.heap[aZ]? =some (.cells #[.int .i64 ab,(.slice ao aa.length al)] 31 (0,0)))/\lm (Below w.heap.size w w'))
 case atStart=>exact⟨(0),(vk),H',⟨Nat.le_refl _⟩,⟨nG af.out⟩,⟨nC HB.out⟩⟩
 case round=>
  clear H';obtain⟨ac,rfl,HA,a5,af,HB⟩:=hrel;cases gk with
  |zero=>exact absurd HA.out (by simp[sJ.l0])
  |succ k1=>
   have H:=HA.out;clear HA;simp only[sJ.l0]at H
   by_cases c5:ac<(aa.length:Int)
   ·rw[if_pos c5]at H;have br:=decide_eq_true c5;clear c5
    obtain⟨cn,H⟩:=oz H;obtain⟨⟨aI,aJ⟩,A7,H⟩:=ol H;(try dsimp only at H)
    by_cases c8:(((ny aa ac).f0)==aI&&(((ny aa ac).f1)==aJ))=true
    ·rw[if_pos c8]at H;have bA:(((ny aa ac).f0)==aI&&(((ny aa ac).f1)==aJ))=true:=c8;(try(have co:decide (((ny aa ac).f0)=aI&&(((ny aa ac).f1)==aJ))=true:=by simpa using c8));(try(have cp:(((ny aa ac).f0)==aI&&(((ny aa ac).f1)==aJ))=true:=by simpa using c8));clear c8;obtain rfl:=Option.some.inj H;have⟨bZ,b1,b2,b3⟩:=nK (w:=wr) af;try go_wp2
     replace af:=dm (nV af.out);replace HB:=dm (o9 HB.out);have ba:0<=(ac:Int):=nD;have bc:ac<(aa.length:Int):=nD;obtain⟨aH,bI,aq,au⟩:=qC aG.out ac ba bc;have aR:=au;have aS:=aq;cases bI;replace aq:=nE HB aq;replace au:=nE HB au;replace ba:=eq_true ba;replace bc:=eq_true bc;refine pU 9 (S:=fun w'=>w'.cell? ⟨aZ,0,none⟩=some (.int .i64 ab)/\w'.cell? ⟨aZ,1,none⟩=some (.slice (some aH) aa.length al)/\w'.cell? (aH.add ((ac).toNat*2))=some (.int .i64 ((ny aa ac).f0))/\w'.cell? ⟨(aH.add ((ac).toNat*2)).block,(aH.add ((ac).toNat*2)).off+1,none⟩=some (.int .i64 ((ny aa ac).f1))) [] ⟨nk af 0,nk af 1,(nE HB aS),(nE HB aR)⟩ sJ.yh sJ.yc (fun hHeld HT_ HW_=>?_);generalize wr.drew=b4 at af HB aq au hHeld⊢;refine lq 0 15 1 ?_;refine lq 2 17 5 ?_;refine lq 5 20 37 ?_;refine lq 6 21 101 ?_;refine p8 1 16 103 ?_;refine lq 3 18 111 ?_;refine p8 4 19 127 ?_;refine oD 7 22 255 (fun K hK=>?_);refine oO Try.func46 #[.int .i64 a1,.int .i64 a2] ?_;with_reducible refine(tK.calls a1 a2 aI aJ _ A7.out).mono ?_
     rintro e ci ⟨rfl,hb⟩;refine⟨_,rfl,?_⟩;replace af:=nA af hb;replace HB:=nJ HB hb;(try clear hb);refine hK.out _ _ ⟨nk af 0,nk af 1,(nE HB aS),(nE HB aR)⟩ (fun hHeld=>?_);clear hK K;refine nQ 22 ?_;refine lq 8 23 511 ?_;refine pM (pQ HT_.out (yJ)) ?_;try go_wp2
     go_ret
     exact⟨yn,nC HB.out⟩
    ·rw[if_neg c8]at H;have bA:(((ny aa ac).f0)==aI&&(((ny aa ac).f1)==aJ))=false:=by simpa using c8
     (try(have co:decide (((ny aa ac).f0)=aI&&(((ny aa ac).f1)==aJ))=false:=by simpa using c8));(try(have cp:(((ny aa ac).f0)==aI&&(((ny aa ac).f1)==aJ))=false:=by simpa using c8));(try(have dl:¬ (((ny aa ac).f0)=aI&&(((ny aa ac).f1)==aJ)):=by simpa using c8));clear c8;have H':=dm H;clear H;have⟨cy,cz,cA,cD⟩:=nK (w:=wr) af;try go_wp2
     replace af:=dm (nV af.out);replace HB:=dm (o9 HB.out);have ba:0<=(ac:Int):=nD;have bc:ac<(aa.length:Int):=nD;obtain⟨aH,bI,aq,au⟩:=qC aG.out ac ba bc;have aR:=au;have aS:=aq;cases bI;replace aq:=nE HB aq;replace au:=nE HB au;replace ba:=eq_true ba;replace bc:=eq_true bc;refine pU 9 (S:=fun w'=>w'.cell? ⟨aZ,0,none⟩=some (.int .i64 ab)/\w'.cell? ⟨aZ,1,none⟩=some (.slice (some aH) aa.length al)/\w'.cell? (aH.add ((ac).toNat*2))=some (.int .i64 ((ny aa ac).f0))/\w'.cell? ⟨(aH.add ((ac).toNat*2)).block,(aH.add ((ac).toNat*2)).off+1,none⟩=some (.int .i64 ((ny aa ac).f1))) [] ⟨nk af 0,nk af 1,(nE HB aS),(nE HB aR)⟩ sJ.yh sJ.yc (fun hHeld HT_ HW_=>?_);generalize wr.drew=dp at af HB aq au hHeld⊢;refine lq 0 15 1 ?_;refine lq 2 17 5 ?_;refine lq 5 20 37 ?_;refine lq 6 21 101 ?_;refine p8 1 16 103 ?_;refine lq 3 18 111 ?_;refine p8 4 19 127 ?_;refine oD 7 22 255 (fun K hK=>?_);refine oO Try.func46 #[.int .i64 a1,.int .i64 a2] ?_;with_reducible refine(tK.calls a1 a2 aI aJ _ A7.out).mono ?_
     rintro e cX ⟨rfl,hb⟩;refine⟨_,rfl,?_⟩;replace af:=nA af hb;replace HB:=nJ HB hb;(try clear hb);refine hK.out _ _ ⟨nk af 0,nk af 1,(nE HB aS),(nE HB aR)⟩ (fun hHeld=>?_);clear hK K;refine nQ 22 ?_;refine lq 8 23 511 ?_;refine pM (pQ HT_.out (yJ)) ?_;try go_wp2
     go_roundg k1
     case measure=>have:=a5.out;omega
     case rel=>exact⟨(wrap64 (ac+1)),(vk),H',⟨by have:=a5.out;omega⟩,⟨nG af.out⟩,⟨nC HB.out⟩⟩
   ·rw[if_neg c5]at H;have br:=decide_eq_false c5;clear c5;obtain rfl:=Option.some.inj H;have⟨cE,cF,cG,cH⟩:=nK (w:=wr) af
    go_wp2
    go_ret
    exact⟨yn,nC HB.out⟩
def v_.f (k:Nat) (ab:Int) (aa:List (S59)) (a1:Int) (a2:Int):Option (Bool):=(pO.f k ab aa).bind fun bv=>(if bv=true then((sJ.f k ab aa a1 a2).bind fun aO=>(some aO)) else(some false))
theorem v_.calls (k:Nat) (ab:Int) (ao:Option Addr) (al:Nat) (aa:List (S59)) (a1:Int) (a2:Int) (r:Bool) (w:World) (aK:Kd.C k59 w ao aa.length aa) (aL:aa.length<=al) (h:v_.f k ab aa a1 a2=some r):
  Calls Try.prog 86 #[.agg #[.int .i64 ab,.slice ao aa.length al],.int .i64 a1,.int .i64 a2] w fun e w'=>e=.returned (.bool r)/\Below w.heap.size w w':=by
 have bY:=Try.underlying31;have aG:=dm aK;have aY:=dm aL;clear aK aL;have HB:=dm (Below.refl w.heap.size w);unfold v_.f at h;have H:=h;clear h;obtain⟨bv,A4,H⟩:=ol H;(try dsimp only at H)
 rcases pJ H with⟨h_,H_⟩|⟨h_,H_⟩<;> (subst h_;clear H;have H:=H_;clear H_)
 ·obtain⟨aO,A6,H⟩:=ol H;(try dsimp only at H);obtain rfl:=Option.some.inj H
  go_enter Try.func86,Try.ntmps86
  go_wp2_with (first|((with_reducible refine nP 3 rfl ?_);refine om 3 #[.int .i64 ab,.slice ao aa.length al] 31 ?_;intro bp hg w7 nu hb;have av:=dm (nu);have ce:=dm (vG:w.heap.size<=bp);have cf:=dm (vG:w.heap.size<=bp);replace HB:=nJ HB hb;clear hb nu hg;have⟨cY,cZ,c_,da⟩:=nK (w:=w7) av)|((with_reducible refine oh 32 rfl ?_);refine og 8 Try.func32 #[.agg #[.int .i64 ab,.slice ao aa.length al]] ?_;(with_reducible refine(pO.calls k ab _ _ aa true _ ?ng ?ni A4.out).mono ?_);(case ng=>exact nO (nT aG.out HB.out));(case ni=>exact aY.out);rintro e w9 ⟨rfl,hb⟩;refine⟨_,rfl,?_⟩;replace av:=nA av hb;replace HB:=nJ HB hb;(try clear hb);have⟨cI,cJ,cL,cM⟩:=nK (w:=w9) av)|(go_at_call 113;(with_reducible refine(sJ.calls k ab _ _ aa a1 a2 aO _ ?ng ?ni A6.out).mono ?_);(case ng=>exact nO (nT aG.out HB.out));(case ni=>exact aY.out);rintro e ci ⟨rfl,hb⟩;replace av:=nA av hb;replace HB:=nJ HB hb;(try clear hb)))
  go_ret
  exact⟨yn,nC HB.out⟩
 ·obtain rfl:=Option.some.inj H
  go_enter Try.func86,Try.ntmps86
  go_wp2_with (first|((with_reducible refine nP 3 rfl ?_);refine om 3 #[.int .i64 ab,.slice ao aa.length al] 31 ?_;intro bp hg b5 nu hb;have av:=dm (nu);have ce:=dm (vG:w.heap.size<=bp);have cf:=dm (vG:w.heap.size<=bp);replace HB:=nJ HB hb;clear hb nu hg;have⟨cN,cO,cP,cQ⟩:=nK (w:=b5) av)|((with_reducible refine oh 32 rfl ?_);refine og 8 Try.func32 #[.agg #[.int .i64 ab,.slice ao aa.length al]] ?_;(with_reducible refine(pO.calls k ab _ _ aa false _ ?ng ?ni A4.out).mono ?_);(case ng=>exact nO (nT aG.out HB.out));(case ni=>exact aY.out);rintro e cX ⟨rfl,hb⟩;refine⟨_,rfl,?_⟩;replace av:=nA av hb;replace HB:=nJ HB hb;(try clear hb)))
  go_ret
  exact⟨yn,nC HB.out⟩
def sI.l0:Nat->Int->List Int->Int->Int->Option (Int)
 |0,_,_,_,_=>none
 |k+1,x3,x6,x7,x8=>if x8<x7 then(if 0<=x8 then(if x8<(x6.length:Int) then(if(rd x6 x8)=x3 then(sI.l0 k x3 x6 x7 (wrap64 (x8+1))) else(some (rd x6 x8))) else(none)) else(none)) else(some x3)
def sI.f (k:Nat) (l0:List Int):Option (Int):=sI.l0 k 0 l0 (l0.length:Int) 0
theorem sI.tC:∀k,(∀y0 y1 y2 y3,LeO (sI.l0 k y0 y1 y2 y3) (sI.l0 (k+1) y0 y1 y2 y3))
 |0=>fun _ _ _ _ r h=>by simp[sI.l0]at h
 |k+1=>by
  have ap:=sI.tC k
  ·intro y0 y1 y2 y3;unfold sI.l0
   repeat' first
   |(with_reducible exact ap _ _ _ _)
   |(with_reducible exact LeO.refl _)
   |(with_reducible exact LeO.none _)
   |(with_reducible refine LeO.ite ?_ ?_)
   |(with_reducible refine LeO.bind ?_ (fun _=>?_))
   |exact ap _ _ _ _
   |exact LeO.none _
   |refine LeO.ite ?_ ?_
   |refine LeO.bind ?_ (fun _=>?_)
theorem sI.mono:∀a0 k,LeO (sI.f k a0) (sI.f (k+1) a0):=by
 intro a0 k;have ap:=sI.tC k;unfold sI.f
 repeat' with_reducible first|exact ap _ _ _ _|exact LeO.refl _|exact LeO.none _|refine LeO.ite ?_ ?_|refine LeO.bind ?_ (fun _=>?_)
theorem sI.calls (k:Nat) (A0:Option Addr) (c0:Nat) (l0:List Int) (r:Int) (w:World) (bw:Kd.C (Kd.int .i64) w A0 l0.length l0) (bx:l0.length<=c0) (h:sI.f k l0=some r):
  Calls Try.prog 109 #[.slice A0 l0.length c0] w fun e w'=>e=.returned (.int .i64 r)/\oM w w':=by
 have a8:=dm bw;have ch:=dm bx;clear bw bx;unfold sI.f at h;have H:=h;clear h;have H':=dm H;clear H
 go_enter Try.func109,Try.ntmps109
 go_wp2
 go_loopg [8] k (fun kq v8 w'=>∃ (ai:Int),v8=.int .i64 ai/\lm (sI.l0 kq 0 l0 (l0.length:Int) ai=some r)/\lm (kq<=k)/\oM w w')
 case atStart=>exact⟨(0),(vk),H',⟨Nat.le_refl _⟩,by repeat(first|exact oM.refl _|apply oM.step)⟩
 case round=>
  clear H';try clear c1
  obtain⟨ai,rfl,HA,a5,⟨m1,rfl⟩⟩:=hrel;cases gk with
  |zero=>exact absurd HA.out (by simp[sI.l0])
  |succ k1=>
   have H:=HA.out;clear HA;simp only[sI.l0]at H
   by_cases c2:ai<(l0.length:Int)
   ·rw[if_pos c2]at H;have bJ:=decide_eq_true c2;clear c2
    obtain⟨bC,H⟩:=oz H
    obtain⟨bX,H⟩:=oz H
    by_cases c5:(rd l0 ai)=0
    ·rw[if_pos c5]at H;have br:=beq_iff_eq.mpr c5;have bG:=bne_eq_false_iff_eq.mpr c5;clear c5;have H':=dm H;clear H;have bd:0<=(ai:Int):=nD;have bf:ai<(l0.length:Int):=nD;obtain⟨cg,bK,bS⟩:=oG a8.out ai bd bf;cases bK;replace bd:=eq_true bd;replace bf:=eq_true bf
     go_wp2
     go_roundg k1
     case measure=>have:=a5.out;omega
     case rel=>exact⟨(wrap64 (ai+1)),(vk),H',⟨by have:=a5.out;omega⟩,by repeat(first|exact oM.refl _|apply oM.step)⟩
    ·rw[if_neg c5]at H;have br:=beq_eq_false_iff_ne.mpr c5;have bG:=bne_iff_ne.mpr c5;obtain rfl:=Option.some.inj H;have bd:0<=(ai:Int):=nD;have bf:ai<(l0.length:Int):=nD;obtain⟨cg,bK,bS⟩:=oG a8.out ai bd bf;cases bK;replace bd:=eq_true bd;replace bf:=eq_true bf
     go_wp2
     go_ret
     exact⟨vk,by repeat(first|exact oM.refl _|apply oM.step)⟩
   ·rw[if_neg c2]at H;have bJ:=decide_eq_false c2;clear c2;obtain rfl:=Option.some.inj H
    go_wp2
    go_ret
    exact⟨vk,by repeat(first|exact oM.refl _|apply oM.step)⟩
def cmp_isNaN_int.f (a0:Int):Option (Bool):=some (a0 !=a0)
theorem cmp_isNaN_int.calls (a0:Int) (r:Bool) (w:World) (h:cmp_isNaN_int.f a0=some r):
  Calls Try.prog 129 #[.int .i64 a0] w fun e w'=>e=.returned (.bool r)/\oM w w':=by
 unfold cmp_isNaN_int.f at h;have H:=h;clear h;obtain rfl:=Option.some.inj H
 go_enter Try.func129,Try.ntmps129
 go_wp2
 go_ret
 exact⟨vk,by repeat(first|exact oM.refl _|apply oM.step)⟩
def cmp_Compare_int.f (a0:Int) (a1:Int):Option (Int):=(cmp_isNaN_int.f a0).bind fun bh=>((cmp_isNaN_int.f a1).bind fun aA=>(if bh=true then(if aA=true then(some 0) else(some (-1))) else(if aA=true then(some 1) else(if a0<a1 then(some (-1)) else(if a0>a1 then(some 1) else(some 0))))))
theorem cmp_Compare_int.calls (a0:Int) (a1:Int) (r:Int) (w:World) (h:cmp_Compare_int.f a0 a1=some r):
  Calls Try.prog 110 #[.int .i64 a0,.int .i64 a1] w fun e w'=>e=.returned (.int .i64 r)/\oM w w':=by
 unfold cmp_Compare_int.f at h;have H:=h;clear h;obtain⟨bh,A3,H⟩:=ol H;(try dsimp only at H);obtain⟨aA,A4,H⟩:=ol H;(try dsimp only at H)
 rcases pJ H with⟨h_,H_⟩|⟨h_,H_⟩<;> (subst h_;clear H;have H:=H_;clear H_)
 ·skip
  rcases pJ H with⟨h_,H_⟩|⟨h_,H_⟩<;> (subst h_;clear H;have H:=H_;clear H_)
  ·obtain rfl:=Option.some.inj H
   go_enter Try.func110,Try.ntmps110
   go_wp2_with (first|((with_reducible refine oh 129 rfl ?_);refine og 8 Try.func129 #[.int .i64 a0] ?_;(with_reducible refine(cmp_isNaN_int.calls a0 true _ A3.out).mono ?_);rintro e w' ⟨rfl,⟨nd,rfl⟩⟩;refine⟨_,rfl,?_⟩)|((with_reducible refine oh 129 rfl ?_);refine og 10 Try.func129 #[.int .i64 a1] ?_;(with_reducible refine(cmp_isNaN_int.calls a1 true _ A4.out).mono ?_);rintro e w' ⟨rfl,⟨nd,rfl⟩⟩;refine⟨_,rfl,?_⟩))
   go_ret
   exact⟨vk,by repeat(first|exact oM.refl _|apply oM.step)⟩
  ·obtain rfl:=Option.some.inj H
   go_enter Try.func110,Try.ntmps110
   go_wp2_with (first|((with_reducible refine oh 129 rfl ?_);refine og 8 Try.func129 #[.int .i64 a0] ?_;(with_reducible refine(cmp_isNaN_int.calls a0 true _ A3.out).mono ?_);rintro e w' ⟨rfl,⟨nd,rfl⟩⟩;refine⟨_,rfl,?_⟩)|((with_reducible refine oh 129 rfl ?_);refine og 10 Try.func129 #[.int .i64 a1] ?_;(with_reducible refine(cmp_isNaN_int.calls a1 false _ A4.out).mono ?_);rintro e w' ⟨rfl,⟨nd,rfl⟩⟩;refine⟨_,rfl,?_⟩))
   go_ret
   exact⟨vk,by repeat(first|exact oM.refl _|apply oM.step)⟩
 ·skip
  rcases pJ H with⟨h_,H_⟩|⟨h_,H_⟩<;> (subst h_;clear H;have H:=H_;clear H_)
  ·obtain rfl:=Option.some.inj H
   go_enter Try.func110,Try.ntmps110
   go_wp2_with (first|((with_reducible refine oh 129 rfl ?_);refine og 8 Try.func129 #[.int .i64 a0] ?_;(with_reducible refine(cmp_isNaN_int.calls a0 false _ A3.out).mono ?_);rintro e w' ⟨rfl,⟨nd,rfl⟩⟩;refine⟨_,rfl,?_⟩)|((with_reducible refine oh 129 rfl ?_);refine og 10 Try.func129 #[.int .i64 a1] ?_;(with_reducible refine(cmp_isNaN_int.calls a1 true _ A4.out).mono ?_);rintro e w' ⟨rfl,⟨nd,rfl⟩⟩;refine⟨_,rfl,?_⟩))
   go_ret
   exact⟨vk,by repeat(first|exact oM.refl _|apply oM.step)⟩
  ·skip
   by_cases c8:a0<a1
   ·rw[if_pos c8]at H;have bA:=decide_eq_true c8;clear c8;obtain rfl:=Option.some.inj H
    go_enter Try.func110,Try.ntmps110
    go_wp2_with (first|((with_reducible refine oh 129 rfl ?_);refine og 8 Try.func129 #[.int .i64 a0] ?_;(with_reducible refine(cmp_isNaN_int.calls a0 false _ A3.out).mono ?_);rintro e w' ⟨rfl,⟨nd,rfl⟩⟩;refine⟨_,rfl,?_⟩)|((with_reducible refine oh 129 rfl ?_);refine og 10 Try.func129 #[.int .i64 a1] ?_;(with_reducible refine(cmp_isNaN_int.calls a1 false _ A4.out).mono ?_);rintro e w' ⟨rfl,⟨nd,rfl⟩⟩;refine⟨_,rfl,?_⟩))
    go_ret
    exact⟨vk,by repeat(first|exact oM.refl _|apply oM.step)⟩
   ·rw[if_neg c8]at H;have bA:=decide_eq_false c8;clear c8
    by_cases c9:a0>a1
    ·rw[if_pos c9]at H;have cq:=decide_eq_true c9;clear c9;obtain rfl:=Option.some.inj H
     go_enter Try.func110,Try.ntmps110
     go_wp2_with (first|((with_reducible refine oh 129 rfl ?_);refine og 8 Try.func129 #[.int .i64 a0] ?_;(with_reducible refine(cmp_isNaN_int.calls a0 false _ A3.out).mono ?_);rintro e w' ⟨rfl,⟨nd,rfl⟩⟩;refine⟨_,rfl,?_⟩)|((with_reducible refine oh 129 rfl ?_);refine og 10 Try.func129 #[.int .i64 a1] ?_;(with_reducible refine(cmp_isNaN_int.calls a1 false _ A4.out).mono ?_);rintro e w' ⟨rfl,⟨nd,rfl⟩⟩;refine⟨_,rfl,?_⟩))
     go_ret
     exact⟨vk,by repeat(first|exact oM.refl _|apply oM.step)⟩
    ·rw[if_neg c9]at H;have cq:=decide_eq_false c9;clear c9;obtain rfl:=Option.some.inj H
     go_enter Try.func110,Try.ntmps110
     go_wp2_with (first|((with_reducible refine oh 129 rfl ?_);refine og 8 Try.func129 #[.int .i64 a0] ?_;(with_reducible refine(cmp_isNaN_int.calls a0 false _ A3.out).mono ?_);rintro e w' ⟨rfl,⟨nd,rfl⟩⟩;refine⟨_,rfl,?_⟩)|((with_reducible refine oh 129 rfl ?_);refine og 10 Try.func129 #[.int .i64 a1] ?_;(with_reducible refine(cmp_isNaN_int.calls a1 false _ A4.out).mono ?_);rintro e w' ⟨rfl,⟨nd,rfl⟩⟩;refine⟨_,rfl,?_⟩))
     go_ret
     exact⟨vk,by repeat(first|exact oM.refl _|apply oM.step)⟩
def tJ.f (k:Nat) (ab:Int) (aD:Int) (a4:Int) (aP:Int):Option (Int):=(cmp_Compare_int.f ab a4).bind fun aE=>((cmp_Compare_int.f aD aP).bind fun aB=>((sI.f k (([aE,aB]:List Int))).bind fun aF=>(some aF)))
theorem tJ.mono:∀a0 a1 a2 a3 k,LeO (tJ.f k a0 a1 a2 a3) (tJ.f (k+1) a0 a1 a2 a3):=by
 intro a0 a1 a2 a3 k;unfold tJ.f
 repeat' with_reducible first|exact sI.mono _ _|exact LeO.refl _|exact LeO.none _|refine LeO.ite ?_ ?_|refine LeO.bind ?_ (fun _=>?_)
def tJ.T1:Bool×List (List Nat×List Nat):=(true,[([],[]),([0],[0]),([],[]),([2],[2]),([1,3],[1,3]),([],[]),([5],[5]),([],[]),([7],[7]),([6,8,4],[6,8]),([4,9],[4,9]),([10,9],[10]),([11,11,0,1,2,3,4,5,6,7,8,9,10,11],[11])])
def tJ.B1:List Nat:=[0,1,0,4,15,0,32,0,128,511,1023,2047,4095]
theorem tJ.AB:p_ .any (opsOf Try.f80 1)=tJ.T1:=by kernel_rfl
theorem tJ.Ag:qQ tJ.T1.2 tJ.B1=true:=by kernel_rfl
theorem tJ.calls (k:Nat) (ab:Int) (aD:Int) (a4:Int) (aP:Int) (r:Int) (w:World) (h:tJ.f k ab aD a4 aP=some r):
  Calls Try.prog 80 #[.agg #[.int .i64 ab,.int .i64 aD],.agg #[.int .i64 a4,.int .i64 aP]] w fun e w'=>e=.returned (.int .i64 r)/\Below w.heap.size w w':=by
 have bF:=Try.underlying59;have HB:=dm (Below.refl w.heap.size w);unfold tJ.f at h;have H:=h;clear h;obtain⟨aE,A3,H⟩:=ol H;(try dsimp only at H);obtain⟨aB,A4,H⟩:=ol H;(try dsimp only at H);obtain⟨bL,bq⟩:∃y_:List Int,y_=(([aE,aB]:List Int)):=⟨_,rfl⟩;replace H:((sI.f k bL).bind fun aF=>(some aF))=some r:=pE bq H
 have bP:=dm bq;clear bq;obtain⟨aF,A5,H⟩:=ol H;(try dsimp only at H);obtain rfl:=Option.some.inj H
 go_enter Try.func80,Try.ntmps80;try go_wp2_with (first|((with_reducible refine nP 2 rfl ?_);refine om 2 #[.int .i64 ab,.int .i64 aD] 59 ?_;intro aM hg w6 nu hb;have ag:=dm (nu);have dg:=dm (vG:w.heap.size<=aM);have dh:=dm (vG:w.heap.size<=aM);replace HB:=nJ HB hb;clear hb nu hg)|((with_reducible refine nP 3 rfl ?_);refine om 3 #[.int .i64 a4,.int .i64 aP] 59 ?_;intro a7 hg w7 nu hb;have aj:=dm (nu);have di:=dm (vG:w.heap.size<=a7);have dj:=dm (vG:w.heap.size<=a7);replace HB:=nJ HB hb;have cj:=dm ((by rw[hg];exact Nat.ne_of_lt (oQ (g:=aM) (o:=.cells #[.int .i64 ab,.int .i64 aD] 59 (0,0)) (nG ag.out)):aM≠a7));have ck:=dm ((by rw[hg];exact Nat.ne_of_gt (oQ (g:=aM) (o:=.cells #[.int .i64 ab,.int .i64 aD] 59 (0,0)) (nG ag.out)):a7≠aM));replace ag:=nA ag hb;clear hb nu hg))
 replace ag:=dm (nV ag.out);replace aj:=dm (nV aj.out);replace HB:=dm (o9 HB.out);refine pU 13 (S:=fun w'=>w'.cell? ⟨aM,0,none⟩=some (.int .i64 ab)/\w'.cell? ⟨aM,1,none⟩=some (.int .i64 aD)/\w'.cell? ⟨a7,0,none⟩=some (.int .i64 a4)/\w'.cell? ⟨a7,1,none⟩=some (.int .i64 aP)) [] ⟨nk ag 0,nk ag 1,nk aj 0,nk aj 1⟩ tJ.AB tJ.Ag (fun hHeld HT_ HW_=>?_);generalize w7.drew=w8 at ag aj HB hHeld⊢;refine lq 0 5 1 ?_;refine lq 2 7 5 ?_;refine lq 5 10 37 ?_;refine lq 7 12 165 ?_;refine p8 1 6 167 ?_;refine p8 3 8 175 ?_;refine p8 6 11 239 ?_;refine p8 8 13 495 ?_;refine oD 4 9 511 (fun K hK=>?_);refine oO Try.func110 #[.int .i64 ab,.int .i64 a4] ?_;with_reducible refine(cmp_Compare_int.calls ab a4 aE _ A3.out).mono ?_
 rintro e w' ⟨rfl,⟨nd,rfl⟩⟩;refine⟨_,rfl,?_⟩;refine hK.out _ _ ⟨nk ag 0,nk ag 1,nk aj 0,nk aj 1⟩ (fun hHeld=>?_);clear hK K;refine nQ 9 ?_;refine oD 9 14 1023 (fun K hK=>?_);refine oO Try.func110 #[.int .i64 aD,.int .i64 aP] ?_;with_reducible refine(cmp_Compare_int.calls aD aP aB _ A4.out).mono ?_
 rintro e w' ⟨rfl,⟨nd,rfl⟩⟩;refine⟨_,rfl,?_⟩;refine hK.out _ _ ⟨nk ag 0,nk ag 1,nk aj 0,nk aj 1⟩ (fun hHeld=>?_);clear hK K;refine nQ 14 ?_;refine oD 10 15 2047 (fun K hK=>?_);refine AR (Kd.int .i64) _ 3 ?hg (N:=15) ?hd (xs:=([aE,aB]:List Int)) (inner:=[.int .i64 aE,.int .i64 aB]) (ok:=fun _=>True) (okp:=fun _=>True) ?hr ?hp (fun _ hk=>hk) trivial (Below.refl _ _) (Nat.le_refl _) (by simp) ?_;(case hd=>rfl);(case hg=>rfl);(case hr=>first|(go_simp;done)|(go_simp;rfl));(case hp=>exact(oq.one (show Kd.M (Kd.int .i64) _ _ _ aE [.int .i64 aE] from rfl) (oq.one (show Kd.M (Kd.int .i64) _ _ _ aB [.int .i64 aB] from rfl) (oq.none _ _))));intro dn w9 bB hb hg_ pq;clear hg_ pq;(first|rw[←bP.out]at bB|(simp only[Int.reduceToNat]at bB;rw[←bP.out]at bB));have bD:=dm (oF bB (nX (nC HB.out)));replace ag:=nA ag hb;replace aj:=nA aj hb;replace HB:=nJ HB hb;clear hb bB;obtain⟨cr,ct,b7⟩:=nW bD.out;(first|subst b7|(injection b7 with cl db cm;have dc:=cl.symm;have dd:=cm.symm;clear cl db cm;subst dc;subst dd));refine hK.out _ _ ⟨nk ag 0,nk ag 1,nk aj 0,nk aj 1⟩ (fun hHeld=>?_);clear hK K;refine nQ 15 ?_;refine oD 11 16 4095 (fun K hK=>?_);refine oO Try.func109 #[.slice cr bL.length ct] ?_;with_reducible refine(sI.calls k _ _ bL aF _ ?ng ?ni A5.out).mono ?_
 (case ng=>exact nO (nM bD.out).2.2);(case ni=>exact(nM bD.out).2.1);rintro e w' ⟨rfl,⟨nd,rfl⟩⟩;refine⟨_,rfl,?_⟩;refine hK.out _ _ ⟨nk ag 0,nk ag 1,nk aj 0,nk aj 1⟩ (fun hHeld=>?_);clear hK K;refine nQ 16 ?_;refine lq 12 4 8191 ?_;refine pM (pQ HT_.out (yJ)) ?_;try go_wp2
 go_ret
 exact⟨yn,nC HB.out⟩
def qU.l0:Nat->List (S59)->Int->Option (Bool)
 |0,_,_=>none
 |k+1,x0,x3=>if x3<(x0.length:Int) then(if 0<=(wrap64 (x3 - 1)) then(if(wrap64 (x3 - 1))<(x0.length:Int) then(if 0<=x3 then((tJ.f k ((ny x0 (wrap64 (x3 - 1))).f0) ((ny x0 (wrap64 (x3 - 1))).f1) ((ny x0 x3).f0) ((ny x0 x3).f1)).bind fun aQ=>(if aQ>=0 then(some false) else(qU.l0 k x0 (wrap64 (x3+1))))) else(none)) else(none)) else(none)) else(some true)
def qU.f (k:Nat) (l0:List (S59)):Option (Bool):=qU.l0 k l0 1
theorem qU.tC:∀k,(∀y0 y1,LeO (qU.l0 k y0 y1) (qU.l0 (k+1) y0 y1))
 |0=>fun _ _ r h=>by simp[qU.l0]at h
 |k+1=>by
  have ap:=qU.tC k
  ·intro y0 y1;unfold qU.l0
   repeat' first
   |(with_reducible exact ap _ _)
   |(with_reducible exact tJ.mono _ _ _ _ _)
   |(with_reducible exact LeO.refl _)
   |(with_reducible exact LeO.none _)
   |(with_reducible refine LeO.ite ?_ ?_)
   |(with_reducible refine LeO.bind ?_ (fun _=>?_))
   |exact ap _ _
   |exact tJ.mono _ _ _ _ _
   |exact LeO.none _
   |refine LeO.ite ?_ ?_
   |refine LeO.bind ?_ (fun _=>?_)
theorem qU.mono:∀a0 k,LeO (qU.f k a0) (qU.f (k+1) a0):=by
 intro a0 k;have ap:=qU.tC k;unfold qU.f
 repeat' with_reducible first|exact ap _ _|exact tJ.mono _ _ _ _ _|exact LeO.refl _|exact LeO.none _|refine LeO.ite ?_ ?_|refine LeO.bind ?_ (fun _=>?_)
def qU.T4:Bool×List (List Nat×List Nat):=(true,[([],[]),([],[]),([1],[1]),([0,2],[0,2]),([3],[3]),([],[]),([],[]),([5,6],[5,6]),([7],[7]),([4,8],[4,8]),([9],[9])])
def qU.B4:List Nat:=[0,0,2,7,15,0,0,96,224,511,1023]
theorem qU.yh:p_ .any (opsOf Try.f88 4)=qU.T4:=by kernel_rfl
theorem qU.yc:qQ qU.T4.2 qU.B4=true:=by kernel_rfl
theorem qU.calls (k:Nat) (A0:Option Addr) (c0:Nat) (l0:List (S59)) (r:Bool) (w:World) (bw:Kd.C k59 w A0 l0.length l0) (bx:l0.length<=c0) (h:qU.f k l0=some r):
  Calls Try.prog 88 #[.slice A0 l0.length c0] w fun e w'=>e=.returned (.bool r)/\Below w.heap.size w w':=by
 have bF:=Try.underlying59;have a8:=dm bw;have ch:=dm bx;clear bw bx;have HB:=dm (Below.refl w.heap.size w);unfold qU.f at h;have H:=h;clear h;have H':=dm H;clear H
 go_enter Try.func88,Try.ntmps88
 go_wp2
 go_loopg [3] k (fun kq v3 w'=>∃ (ae:Int),v3=.int .i64 ae/\lm (qU.l0 kq l0 ae=some r)/\lm (kq<=k)/\lm (Below w.heap.size w w'))
 case atStart=>exact⟨(1),(vk),H',⟨Nat.le_refl _⟩,⟨nC HB.out⟩⟩
 case round=>
  clear H';obtain⟨ae,rfl,HA,a5,HB⟩:=hrel;cases gk with
  |zero=>exact absurd HA.out (by simp[qU.l0])
  |succ k1=>
   have H:=HA.out;clear HA;simp only[qU.l0]at H
   by_cases c2:ae<(l0.length:Int)
   ·rw[if_pos c2]at H;have bJ:=decide_eq_true c2;clear c2;obtain⟨ah,bz⟩:∃j_:Int,(wrap64 (ae - 1))=j_:=⟨_,rfl⟩;replace H:(if 0<=(ah) then(if(ah)<(l0.length:Int) then(if 0<=ae then((tJ.f k1 ((ny l0 (ah)).f0) ((ny l0 (ah)).f1) ((ny l0 ae).f0) ((ny l0 ae).f1)).bind fun aQ=>(if aQ>=0 then(some false) else(qU.l0 k1 l0 (wrap64 (ae+1))))) else(none)) else(none)) else(none))=some r:=by first|(rw[bz]at H;exact H)|(simp only[bz]at H⊢;exact H)
    have dk:(IntKind.i64.wrap (ae - 1))=ah:=(qA _).trans bz
    obtain⟨bX,H⟩:=oz H
    obtain⟨br,H⟩:=oz H
    obtain⟨cn,H⟩:=oz H;obtain⟨aQ,A7,H⟩:=ol H;(try dsimp only at H)
    by_cases c8:aQ>=0
    ·rw[if_pos c8]at H;have bA:=decide_eq_true c8;clear c8;obtain rfl:=Option.some.inj H;try go_wp2
     replace HB:=dm (o9 HB.out);have bj:0<=((ah):Int):=nD;have bk:(ah)<(l0.length:Int):=nD;obtain⟨am,bM,aw,ax⟩:=qC a8.out (ah) bj bk;have aT:=ax;have aU:=aw;cases bM;replace aw:=nE HB aw;replace ax:=nE HB ax;replace bj:=eq_true bj;replace bk:=eq_true bk;have bl:0<=(ae:Int):=nD;have bm:ae<(l0.length:Int):=nD;obtain⟨bE,bN,ay,az⟩:=qC a8.out ae bl bm;have aV:=az;have aW:=ay;obtain rfl:am=bE:=(by injection bN);replace ay:=nE HB ay;replace az:=nE HB az;replace bl:=eq_true bl;replace bm:=eq_true bm;refine pU 11 (S:=fun w'=>w'.cell? (am.add (((ah)).toNat*2))=some (.int .i64 ((ny l0 (ah)).f0))/\w'.cell? ⟨(am.add (((ah)).toNat*2)).block,(am.add (((ah)).toNat*2)).off+1,none⟩=some (.int .i64 ((ny l0 (ah)).f1))/\w'.cell? (am.add ((ae).toNat*2))=some (.int .i64 ((ny l0 ae).f0))/\w'.cell? ⟨(am.add ((ae).toNat*2)).block,(am.add ((ae).toNat*2)).off+1,none⟩=some (.int .i64 ((ny l0 ae).f1))) [] ⟨(nE HB aU),(nE HB aT),(nE HB aW),(nE HB aV)⟩ qU.yh qU.yc (fun hHeld HT_ HW_=>?_);generalize wr.drew=w9 at HB aw ax ay az hHeld⊢;refine lq 0 10 1 ?_;refine lq 1 11 3 ?_;refine lq 2 12 7 ?_;refine lq 3 13 15 ?_;refine lq 5 15 47 ?_;refine lq 6 16 111 ?_;refine lq 7 17 239 ?_;refine p8 4 14 255 ?_;refine p8 8 18 511 ?_;refine oD 9 19 1023 (fun K hK=>?_);refine ug Try.func80 (yJ) rfl #[.agg #[.int .i64 ((ny l0 (ah)).f0),.int .i64 ((ny l0 (ah)).f1)],.agg #[.int .i64 ((ny l0 ae).f0),.int .i64 ((ny l0 ae).f1)]] (by rfl) rfl rfl (KG) ?_;with_reducible refine(tJ.calls k1 ((ny l0 (ah)).f0) ((ny l0 (ah)).f1) ((ny l0 ae).f0) ((ny l0 ae).f1) aQ _ A7.out).mono ?_
     rintro e b4 ⟨rfl,hb⟩;refine⟨_,rfl,?_⟩;replace HB:=nJ HB hb;(try clear hb);refine hK.out _ _ ⟨(nE HB aU),(nE HB aT),(nE HB aW),(nE HB aV)⟩ (fun hHeld=>?_);clear hK K;refine nQ 19 ?_;refine lq 10 20 2047 ?_;refine pM (pQ HT_.out (yJ)) ?_;try go_wp2
     go_ret
     exact⟨by first|rfl|(simp[qa,qb]<;>rfl)|(simp only[←bz];first|rfl|(simp[qa,qb]<;>rfl))|(simp[*,qa,qb]<;>rfl),nC HB.out⟩
    ·rw[if_neg c8]at H;have bA:=decide_eq_false c8;clear c8;have H':=dm H;clear H;try go_wp2
     replace HB:=dm (o9 HB.out);have bj:0<=((ah):Int):=nD;have bk:(ah)<(l0.length:Int):=nD;obtain⟨am,bM,aw,ax⟩:=qC a8.out (ah) bj bk;have aT:=ax;have aU:=aw;cases bM;replace aw:=nE HB aw;replace ax:=nE HB ax;replace bj:=eq_true bj;replace bk:=eq_true bk;have bl:0<=(ae:Int):=nD;have bm:ae<(l0.length:Int):=nD;obtain⟨bE,bN,ay,az⟩:=qC a8.out ae bl bm;have aV:=az;have aW:=ay;obtain rfl:am=bE:=(by injection bN);replace ay:=nE HB ay;replace az:=nE HB az;replace bl:=eq_true bl;replace bm:=eq_true bm;refine pU 11 (S:=fun w'=>w'.cell? (am.add (((ah)).toNat*2))=some (.int .i64 ((ny l0 (ah)).f0))/\w'.cell? ⟨(am.add (((ah)).toNat*2)).block,(am.add (((ah)).toNat*2)).off+1,none⟩=some (.int .i64 ((ny l0 (ah)).f1))/\w'.cell? (am.add ((ae).toNat*2))=some (.int .i64 ((ny l0 ae).f0))/\w'.cell? ⟨(am.add ((ae).toNat*2)).block,(am.add ((ae).toNat*2)).off+1,none⟩=some (.int .i64 ((ny l0 ae).f1))) [] ⟨(nE HB aU),(nE HB aT),(nE HB aW),(nE HB aV)⟩ qU.yh qU.yc (fun hHeld HT_ HW_=>?_);generalize wr.drew=ci at HB aw ax ay az hHeld⊢;refine lq 0 10 1 ?_;refine lq 1 11 3 ?_;refine lq 2 12 7 ?_;refine lq 3 13 15 ?_;refine lq 5 15 47 ?_;refine lq 6 16 111 ?_;refine lq 7 17 239 ?_;refine p8 4 14 255 ?_;refine p8 8 18 511 ?_;refine oD 9 19 1023 (fun K hK=>?_);refine ug Try.func80 (yJ) rfl #[.agg #[.int .i64 ((ny l0 (ah)).f0),.int .i64 ((ny l0 (ah)).f1)],.agg #[.int .i64 ((ny l0 ae).f0),.int .i64 ((ny l0 ae).f1)]] (by rfl) rfl rfl (KG) ?_;with_reducible refine(tJ.calls k1 ((ny l0 (ah)).f0) ((ny l0 (ah)).f1) ((ny l0 ae).f0) ((ny l0 ae).f1) aQ _ A7.out).mono ?_
     rintro e b5 ⟨rfl,hb⟩;refine⟨_,rfl,?_⟩;replace HB:=nJ HB hb;(try clear hb);refine hK.out _ _ ⟨(nE HB aU),(nE HB aT),(nE HB aW),(nE HB aV)⟩ (fun hHeld=>?_);clear hK K;refine nQ 19 ?_;refine lq 10 20 2047 ?_;refine pM (pQ HT_.out (yJ)) ?_;try go_wp2
     go_roundg k1
     case measure=>have:=a5.out;omega
     case rel=>exact⟨(wrap64 (ae+1)),(vk),H',⟨by have:=a5.out;omega⟩,⟨nC HB.out⟩⟩
   ·rw[if_neg c2]at H;have bJ:=decide_eq_false c2;clear c2;obtain rfl:=Option.some.inj H
    go_wp2
    go_ret
    exact⟨yn,nC HB.out⟩
theorem EO {p:Prop}(h:p:=by rw[hg];exact Nat.ne_of_lt (oQ (g:=ao) (o:=.cells #[.int .i64 af,.slice (some aL) aa.length av] 31 (0,0)) (nG ac.out))):p:=h
theorem EG {p:Prop}(h:p:=by rw[hg];exact Nat.ne_of_gt (oQ (g:=ao) (o:=.cells #[.int .i64 af,.slice (some aL) aa.length av] 31 (0,0)) (nG ac.out))):p:=h
theorem yL {p:Prop}(h:p:=by first|rfl|(simp[qa,qb]<;>rfl)|(simp[*,qa,qb]<;>rfl)):p:=h
theorem BJ {p:Prop}(h:p:=by first|rfl|(simp;done)|(simp[*];done)):p:=h
theorem ut {p:Prop}(h:p:=by rw[hg];exact(nX (nC HB.out))):p:=h
attribute [local go_sem high] Ef
mutual
def qI.j0:Nat->Bool->Int->List (S59)->Option (Bool)
 |0,_,_,_=>none
 |k+1,cv,aG,ay=>if cv=true then(some false) else(qI.l0 k ay (ay.length:Int) 0 aG ay)
def qI.l0:Nat->List (S59)->Int->Int->Int->List (S59)->Option (Bool)
 |0,_,_,_,_,_=>none
 |k+1,aU,bO,aQ,aG,ay=>if aQ<bO then(if 0<=aQ then(if aQ<(aU.length:Int) then(if((ny aU aQ).f0)<0 then(some false) else(if((ny aU aQ).f0)>=((ny aU aQ).f1) then(some false) else(if((ny aU aQ).f1)>=aG then(some false) else(qI.l0 k aU bO (wrap64 (aQ+1)) aG ay)))) else(none)) else(none)) else((qU.f k ay).bind fun a4=>(some a4))
end
def qI.f (k:Nat) (af:Int) (aa:List (S59)):Option (Bool):=if af<0 then(qI.j0 k true af aa) else(qI.j0 k (decide (af>8)) af aa)
theorem qI.tC:∀k,(∀y0 y1 y2,LeO (qI.j0 k y0 y1 y2) (qI.j0 (k+1) y0 y1 y2))/\(∀y0 y1 y2 y3 y4,LeO (qI.l0 k y0 y1 y2 y3 y4) (qI.l0 (k+1) y0 y1 y2 y3 y4))
 |0=>⟨fun _ _ _ r h=>by simp[qI.j0]at h,fun _ _ _ _ _ r h=>by simp[qI.l0]at h⟩
 |k+1=>by
  obtain⟨aE,bd⟩:=qI.tC k;refine⟨?_,?_⟩<;>intros
  all_goals first|unfold qI.j0|unfold qI.l0
  repeat' with_reducible first|exact aE _ _ _|exact bd _ _ _ _ _|exact qU.mono _ _|exact LeO.refl _|exact LeO.none _|refine LeO.ite ?_ ?_|refine LeO.bind ?_ (fun _=>?_)
theorem qI.mono:∀a0 a1 k,LeO (qI.f k a0 a1) (qI.f (k+1) a0 a1):=by
 intro a0 a1 k;obtain⟨aE,bd⟩:=qI.tC k;unfold qI.f
 repeat' with_reducible first|exact aE _ _ _|exact bd _ _ _ _ _|exact qU.mono _ _|exact LeO.refl _|exact LeO.none _|refine LeO.ite ?_ ?_|refine LeO.bind ?_ (fun _=>?_)
theorem qI.calls (k:Nat) (af:Int) (aw:Option Addr) (av:Nat) (aa:List (S59)) (r:Bool) (w:World) (aM:Kd.C k59 w aw aa.length aa) (aN:aa.length<=av) (h:qI.f k af aa=some r):
  Calls Try.prog 50 #[.agg #[.int .i64 af,.slice aw aa.length av]] w fun e w'=>e=.returned (.bool r)/\Below w.heap.size w w':=by
 have bV:=Try.underlying31;have bo:=Try.underlying59;have aB:=dm aM;have a5:=dm aN;clear aM aN;have HB:=dm (Below.refl w.heap.size w);unfold qI.f at h;have H:=h;clear h;have bz:=dm H;clear H
 go_enter Try.func50,Try.ntmps50
 go_upto_region 1 with(first|((with_reducible refine nP 1 rfl ?_);refine om 1 #[.int .i64 af,.slice aw aa.length av] 31 ?_;intro ao hg w3 nu hb;have ac:=dm (nu);have cH:=dm (ut:w.heap.size<=ao);have cI:=dm (ut:w.heap.size<=ao);replace HB:=nJ HB hb;clear hb nu hg))
 (try simp only[Act.put,List.setIfInBounds_toArray,List.set_cons_zero,List.set_cons_succ])
 go_cut [12] (fun cw wc=>∃ (kq:Nat) (aR:Bool),cw=.bool aR/\lm (qI.j0 kq aR af aa=some r)/\lm (kq<=k)/\lm (wc.heap[ao]? =some (.cells #[.int .i64 af,(.slice aw aa.length av)] 31 (0,0)))/\lm (Below w.heap.size w wc))
 case first=>
  have H:=bz.out;clear bz
  by_cases c4:af<0
  ·rw[if_pos c4]at H;have aH:=decide_eq_true c4;clear c4;(first|rw[aH]|(simp only[qA,rz];rw[aH])|skip);have H':=dm H;clear H;have⟨bA,bB,bC,bD⟩:=nK (w:=w3) ac
   go_wp2
   go_meet
   case rel=>exact⟨_,(true),(BJ),H',⟨by first|omega|exact Nat.le_refl _⟩,⟨nG ac.out⟩,⟨nC HB.out⟩⟩
  ·rw[if_neg c4]at H;have aH:=decide_eq_false c4;clear c4;(first|rw[aH]|(simp only[qA,rz];rw[aH])|skip);have H':=dm H;clear H;have⟨bE,bF,bG,bH⟩:=nK (w:=w3) ac
   go_wp2
   go_meet
   case rel=>exact⟨_,(decide (af>8)),(BJ),H',⟨by first|omega|exact Nat.le_refl _⟩,⟨nG ac.out⟩,⟨nC HB.out⟩⟩
 case rest=>
  clear bz;obtain⟨kq,aR,rfl,HA,bP,ac,HB⟩:=hcut;cases kq with
  |zero=>exact absurd HA.out (by simp[qI.j0])
  |succ bI=>
   have H:=HA.out;clear HA;simp only[qI.j0]at H
   rcases pJ H with⟨h_,H_⟩|⟨h_,H_⟩<;> (subst h_;clear H;have H:=H_;clear H_)
   ·obtain rfl:=Option.some.inj H
    go_wp2
    go_ret
    exact⟨yL,nC HB.out⟩
   ·have H':=dm H;clear H;have⟨bf,bh,bj,bk⟩:=nK (w:=wc) ac
    go_wp2
    go_loopg [16] bI (fun kq cx w'=>∃ (ab:Int),cx=.int .i64 ab/\lm (qI.l0 kq aa (aa.length:Int) ab af aa=some r)/\lm (kq<=bI)/\lm (w'.heap[ao]? =some (.cells #[.int .i64 af,(.slice aw aa.length av)] 31 (0,0)))/\lm (Below w.heap.size w w'))
    case atStart=>exact⟨(0),(BJ),H',⟨Nat.le_refl _⟩,⟨nG ac.out⟩,⟨nC HB.out⟩⟩
    case round=>
     clear H';(try clear c7 bf bh bj bk);obtain⟨ab,rfl,HA,bQ,ac,HB⟩:=hrel;cases gk with
     |zero=>exact absurd HA.out (by simp[qI.l0])
     |succ k2=>
      have H:=HA.out;clear HA;simp only[qI.l0]at H
      by_cases c9:ab<(aa.length:Int)
      ·rw[if_pos c9]at H;have bW:=decide_eq_true c9;clear c9
       obtain⟨cJ,H⟩:=oz H
       obtain⟨cL,H⟩:=oz H
       by_cases aV:((ny aa ab).f0)<0
       ·rw[if_pos aV]at H;have bK:=decide_eq_true aV;clear aV;obtain rfl:=Option.some.inj H;have aq:0<=(ab:Int):=nD;have au:ab<(aa.length:Int):=nD;obtain⟨aL,aI,al,am⟩:=qC aB.out ab aq au;cases aI;replace al:=nE HB al;replace am:=nE HB am;replace aq:=eq_true aq;replace au:=eq_true au
        go_wp2_with (first|((with_reducible refine nP 4 rfl ?_);refine om 4 #[.int .i64 0,.int .i64 0] 59 ?_;intro ai hg cy nu hb;have aC:=dm (nu);have a6:=dm (ut:w.heap.size<=ai);have a7:=dm (ut:w.heap.size<=ai);replace HB:=nJ HB hb;have aj:=dm (EO:ao≠ai);have ap:=dm (EG:ai≠ao);replace ac:=nA ac hb;clear hb nu hg;have cM:=ap.out;have cN:=aj.out;have⟨b1,b2,b3,b4⟩:=nK (w:=cy) aC))
        go_ret
        exact⟨yL,nC HB.out⟩
       ·rw[if_neg aV]at H;have bK:=decide_eq_false aV;clear aV
        by_cases aW:((ny aa ab).f0)>=((ny aa ab).f1)
        ·rw[if_pos aW]at H;have bL:=decide_eq_true aW;clear aW;obtain rfl:=Option.some.inj H;have aq:0<=(ab:Int):=nD;have au:ab<(aa.length:Int):=nD;obtain⟨aL,aI,al,am⟩:=qC aB.out ab aq au;cases aI;replace al:=nE HB al;replace am:=nE HB am;replace aq:=eq_true aq;replace au:=eq_true au
         go_wp2_with (first|((with_reducible refine nP 4 rfl ?_);refine om 4 #[.int .i64 0,.int .i64 0] 59 ?_;intro ai hg cz nu hb;have aC:=dm (nu);have a6:=dm (ut:w.heap.size<=ai);have a7:=dm (ut:w.heap.size<=ai);replace HB:=nJ HB hb;have aj:=dm (EO:ao≠ai);have ap:=dm (EG:ai≠ao);replace ac:=nA ac hb;clear hb nu hg;have cO:=ap.out;have cP:=aj.out;have⟨b5,b6,b7,b8⟩:=nK (w:=cz) aC))
         go_ret
         exact⟨yL,nC HB.out⟩
        ·rw[if_neg aW]at H;have bL:=decide_eq_false aW;clear aW
         by_cases aX:((ny aa ab).f1)>=af
         ·rw[if_pos aX]at H;have bM:=decide_eq_true aX;clear aX;obtain rfl:=Option.some.inj H;have aq:0<=(ab:Int):=nD;have au:ab<(aa.length:Int):=nD;obtain⟨aL,aI,al,am⟩:=qC aB.out ab aq au;cases aI;replace al:=nE HB al;replace am:=nE HB am;replace aq:=eq_true aq;replace au:=eq_true au
          go_wp2_with (first|((with_reducible refine nP 4 rfl ?_);refine om 4 #[.int .i64 0,.int .i64 0] 59 ?_;intro ai hg bR nu hb;have aC:=dm (nu);have a6:=dm (ut:w.heap.size<=ai);have a7:=dm (ut:w.heap.size<=ai);replace HB:=nJ HB hb;have aj:=dm (EO:ao≠ai);have ap:=dm (EG:ai≠ao);replace ac:=nA ac hb;clear hb nu hg;have cQ:=ap.out;have cS:=aj.out;have⟨b9,b_,ca,cd⟩:=nK (w:=bR) aC;have⟨ce,cf,cg,ch⟩:=nK (w:=bR) ac))
          go_ret
          exact⟨yL,nC HB.out⟩
         ·rw[if_neg aX]at H;have bM:=decide_eq_false aX;clear aX;have H':=dm H;clear H;have aq:0<=(ab:Int):=nD;have au:ab<(aa.length:Int):=nD;obtain⟨aL,aI,al,am⟩:=qC aB.out ab aq au;cases aI;replace al:=nE HB al;replace am:=nE HB am;replace aq:=eq_true aq;replace au:=eq_true au
          go_wp2_with (first|((with_reducible refine nP 4 rfl ?_);refine om 4 #[.int .i64 0,.int .i64 0] 59 ?_;intro ai hg bS nu hb;have aC:=dm (nu);have a6:=dm (ut:w.heap.size<=ai);have a7:=dm (ut:w.heap.size<=ai);replace HB:=nJ HB hb;have aj:=dm (EO:ao≠ai);have ap:=dm (EG:ai≠ao);replace ac:=nA ac hb;clear hb nu hg;have cT:=ap.out;have cU:=aj.out;have⟨ci,cj,ck,cl⟩:=nK (w:=bS) aC;have⟨cm,cn,co,cp⟩:=nK (w:=bS) ac))
          go_roundg k2
          case measure=>have:=bP.out;have:=bQ.out;omega
          case rel=>exact⟨(wrap64 (ab+1)),(BJ),H',⟨by have:=bP.out;have:=bQ.out;omega⟩,⟨oJ ac.out⟩,⟨nC HB.out⟩⟩
      ·rw[if_neg c9]at H;have bW:=decide_eq_false c9;clear c9;obtain⟨a4,cA,H⟩:=ol H;(try dsimp only at H);obtain rfl:=Option.some.inj H;have⟨cq,cr,ct,cu⟩:=nK (w:=wr) ac
       go_wp2_with (first|((with_reducible refine oh 88 rfl ?_);refine og 40 Try.func88 #[.slice aw aa.length av] ?_;(with_reducible refine(qU.calls k2 _ _ aa a4 _ ?ng ?ni cA.out).mono ?_);(case ng=>exact nO (nT aB.out HB.out));(case ni=>exact a5.out);rintro e dg ⟨rfl,hb⟩;refine⟨_,rfl,?_⟩;replace ac:=nA ac hb;replace HB:=nJ HB hb;(try clear hb)))
       go_ret
       exact⟨yL,nC HB.out⟩
def vW.f (a0:Int) (a1:Int):Option (Int×Int):=some (mn a0 a1,mx a0 a1)
theorem vW.calls (a0:Int) (a1:Int) (r1:Int) (r2:Int) (w:World) (h:vW.f a0 a1=some (r1,r2)):
  Calls Try.prog 53 #[.int .i64 a0,.int .i64 a1] w fun e w'=>e=.returned (.agg #[.int .i64 r1,.int .i64 r2])/\Below w.heap.size w w':=by
 have bo:=Try.underlying59;have HB:=dm (Below.refl w.heap.size w);unfold vW.f at h;have H:=h;clear h;obtain⟨bl,a8⟩:∃j_:Int,(mn a0 a1)=j_:=⟨_,rfl⟩;replace H:(some (bl,mx a0 a1))=some (r1,r2):=by first|(rw[a8]at H;exact H)|(simp only[a8]at H⊢;exact H)
 have cW:(if a1<a0 then a1 else a0)=bl:=a8;obtain⟨bJ,a9⟩:∃j_:Int,(mx a0 a1)=j_:=⟨_,rfl⟩;replace H:(some (bl,bJ))=some (r1,r2):=by first|(rw[a9]at H;exact H)|(simp only[a9]at H⊢;exact H)
 have cX:(if a0<a1 then a1 else a0)=bJ:=a9;simp only[Option.some.injEq,Prod.mk.injEq]at H;obtain⟨rfl,rfl⟩:=H
 go_enter Try.func53,Try.ntmps53
 go_wp2_with (first|((with_reducible refine nP 4 rfl ?_);refine om 4 #[.int .i64 0,.int .i64 0] 59 ?_;intro a_ hg w5 nu hb;have br:=dm (nu);have cY:=dm (ut:w.heap.size<=a_);have cZ:=dm (ut:w.heap.size<=a_);replace HB:=nJ HB hb;clear hb nu hg;have⟨bE,bF,bG,bH⟩:=nK (w:=w5) br))
 refine bodyPost_ret (results_cell_row rfl _ _ a_ 59 #[.int .i64 bl,.int .i64 bJ] (0,0) _ rfl (oJ br.out) Try.underlying59 rfl (by kernel_rfl)) rfl ?_;exact⟨by first|rfl|(simp[qa,qb]<;>rfl)|(simp only[←a8,←a9];first|rfl|(simp[qa,qb]<;>rfl))|(simp[*,qa,qb]<;>rfl),nC HB.out⟩
def sO.l0:Nat->List (S59)->Int->Int->Int->Int->Option (Int)
 |0,_,_,_,_,_=>none
 |k+1,x0,x7,x8,aY,aZ=>if x8<x7 then(if 0<=x8 then(if x8<(x0.length:Int) then(if(aY==((ny x0 x8).f0)&&(aZ==((ny x0 x8).f1)))=true then(some x8) else(sO.l0 k x0 x7 (wrap64 (x8+1)) aY aZ)) else(none)) else(none)) else(some (-1))
def sO.f (k:Nat) (l0:List (S59)) (ag:Int) (ah:Int):Option (Int):=sO.l0 k l0 (l0.length:Int) 0 ag ah
theorem sO.tC:∀k,(∀y0 y1 y2 y3 y4,LeO (sO.l0 k y0 y1 y2 y3 y4) (sO.l0 (k+1) y0 y1 y2 y3 y4))
 |0=>fun _ _ _ _ _ r h=>by simp[sO.l0]at h
 |k+1=>by
  have aE:=sO.tC k
  ·intro y0 y1 y2 y3 y4;unfold sO.l0
   repeat' first
   |(with_reducible exact aE _ _ _ _ _)
   |(with_reducible exact LeO.refl _)
   |(with_reducible exact LeO.none _)
   |(with_reducible refine LeO.ite ?_ ?_)
   |(with_reducible refine LeO.bind ?_ (fun _=>?_))
   |exact aE _ _ _ _ _
   |exact LeO.none _
   |refine LeO.ite ?_ ?_
   |refine LeO.bind ?_ (fun _=>?_)
theorem sO.mono:∀a0 a1 a2 k,LeO (sO.f k a0 a1 a2) (sO.f (k+1) a0 a1 a2):=by
 intro a0 a1 a2 k;have aE:=sO.tC k;unfold sO.f
 repeat' with_reducible first|exact aE _ _ _ _ _|exact LeO.refl _|exact LeO.none _|refine LeO.ite ?_ ?_|refine LeO.bind ?_ (fun _=>?_)
theorem sO.calls (k:Nat) (A0:Option Addr) (c0:Nat) (l0:List (S59)) (ag:Int) (ah:Int) (r:Int) (w:World) (bm:Kd.C k59 w A0 l0.length l0) (bn:l0.length<=c0) (h:sO.f k l0 ag ah=some r):
  Calls Try.prog 111 #[.slice A0 l0.length c0,.agg #[.int .i64 ag,.int .i64 ah]] w fun e w'=>e=.returned (.int .i64 r)/\Below w.heap.size w w':=by
 have bo:=Try.underlying59;have bu:=dm bm;have bT:=dm bn;clear bm bn;have HB:=dm (Below.refl w.heap.size w);unfold sO.f at h;have H:=h;clear h;have H':=dm H;clear H
 go_enter Try.func111,Try.ntmps111
 go_wp2_with (first|((with_reducible refine nP 3 rfl ?_);refine om 3 #[.int .i64 ag,.int .i64 ah] 59 ?_;intro ax hg w3 nu hb;have aD:=dm (nu);have bv:=dm (ut:w.heap.size<=ax);have bw:=dm (ut:w.heap.size<=ax);replace HB:=nJ HB hb;clear hb nu hg))
 repeat(go_quiet (first|((with_reducible refine nP 3 rfl ?_);refine om 3 #[.int .i64 ag,.int .i64 ah] 59 ?_;intro ax hg w3 nu hb;have aD:=dm (nu);have bv:=dm (ut:w.heap.size<=ax);have bw:=dm (ut:w.heap.size<=ax);replace HB:=nJ HB hb;clear hb nu hg));try go_wp2_with (first|((with_reducible refine nP 3 rfl ?_);refine om 3 #[.int .i64 ag,.int .i64 ah] 59 ?_;intro ax hg w3 nu hb;have aD:=dm (nu);have bv:=dm (ut:w.heap.size<=ax);have bw:=dm (ut:w.heap.size<=ax);replace HB:=nJ HB hb;clear hb nu hg)))
 go_loopg [8] k (fun kq v8 w'=>∃ (ae:Int),v8=.int .i64 ae/\lm (sO.l0 kq l0 (l0.length:Int) ae ag ah=some r)/\lm (kq<=k)/\lm (w'.heap[ax]? =some (.cells #[.int .i64 ag,.int .i64 ah] 59 (0,0)))/\lm (Below w.heap.size w w'))
 case atStart=>exact⟨(0),(BJ),H',⟨Nat.le_refl _⟩,⟨nG aD.out⟩,⟨nC HB.out⟩⟩
 case round=>
  clear H';obtain⟨ae,rfl,HA,bU,aD,HB⟩:=hrel;cases gk with
  |zero=>exact absurd HA.out (by simp[sO.l0])
  |succ k1=>
   have H:=HA.out;clear HA;simp only[sO.l0]at H
   by_cases c4:ae<(l0.length:Int)
   ·rw[if_pos c4]at H;have aH:=decide_eq_true c4;clear c4
    obtain⟨dd,H⟩:=oz H
    obtain⟨de,H⟩:=oz H
    by_cases c7:(ag==((ny l0 ae).f0)&&(ah==((ny l0 ae).f1)))=true
    ·rw[if_pos c7]at H;have bX:(ag==((ny l0 ae).f0)&&(ah==((ny l0 ae).f1)))=true:=c7;(try(have bY:decide (ag=((ny l0 ae).f0)&&(ah==((ny l0 ae).f1)))=true:=by simpa using c7));(try(have bZ:(ag==((ny l0 ae).f0)&&(ah==((ny l0 ae).f1)))=true:=by simpa using c7));clear c7;obtain rfl:=Option.some.inj H;have⟨bf,bh,bj,bk⟩:=nK (w:=wr) aD;have aJ:0<=(ae:Int):=nD;have aK:ae<(l0.length:Int):=nD;obtain⟨bN,bp,az,aA⟩:=qC bu.out ae aJ aK;cases bp;replace az:=nE HB az;replace aA:=nE HB aA;replace aJ:=eq_true aJ;replace aK:=eq_true aK
     go_wp2
     repeat(go_quiet (fail);try go_wp2)
     go_ret
     exact⟨yL,nC HB.out⟩
    ·rw[if_neg c7]at H;have bX:(ag==((ny l0 ae).f0)&&(ah==((ny l0 ae).f1)))=false:=by simpa using c7
     (try(have bY:decide (ag=((ny l0 ae).f0)&&(ah==((ny l0 ae).f1)))=false:=by simpa using c7));(try(have bZ:(ag==((ny l0 ae).f0)&&(ah==((ny l0 ae).f1)))=false:=by simpa using c7));(try(have df:¬ (ag=((ny l0 ae).f0)&&(ah==((ny l0 ae).f1))):=by simpa using c7));clear c7;have H':=dm H;clear H;have⟨cD,cE,cF,cG⟩:=nK (w:=wr) aD;have aJ:0<=(ae:Int):=nD;have aK:ae<(l0.length:Int):=nD;obtain⟨bN,bp,az,aA⟩:=qC bu.out ae aJ aK;cases bp;replace az:=nE HB az;replace aA:=nE HB aA;replace aJ:=eq_true aJ;replace aK:=eq_true aK
     go_wp2
     repeat(go_quiet (fail);try go_wp2)
     go_roundg k1
     case measure=>have:=bU.out;omega
     case rel=>exact⟨(wrap64 (ae+1)),(BJ),H',⟨by have:=bU.out;omega⟩,⟨nG aD.out⟩,⟨nC HB.out⟩⟩
   ·rw[if_neg c4]at H;have aH:=decide_eq_false c4;clear c4;obtain rfl:=Option.some.inj H
    go_wp2
    repeat(go_quiet (fail);try go_wp2)
    go_ret
    exact⟨yL,nC HB.out⟩
def uF.f (k:Nat) (l0:List (S59)) (ag:Int) (ah:Int):Option (Bool):=(sO.f k l0 ag ah).bind fun aP=>(some (decide (aP>=0)))
theorem uF.mono:∀a0 a1 a2 k,LeO (uF.f k a0 a1 a2) (uF.f (k+1) a0 a1 a2):=by
 intro a0 a1 a2 k;unfold uF.f
 repeat' with_reducible first|exact sO.mono _ _ _ _|exact LeO.refl _|exact LeO.none _|refine LeO.ite ?_ ?_|refine LeO.bind ?_ (fun _=>?_)
theorem uF.calls (k:Nat) (A0:Option Addr) (c0:Nat) (l0:List (S59)) (ag:Int) (ah:Int) (r:Bool) (w:World) (bm:Kd.C k59 w A0 l0.length l0) (bn:l0.length<=c0) (h:uF.f k l0 ag ah=some r):
  Calls Try.prog 81 #[.slice A0 l0.length c0,.agg #[.int .i64 ag,.int .i64 ah]] w fun e w'=>e=.returned (.bool r)/\Below w.heap.size w w':=by
 have bo:=Try.underlying59;have bu:=dm bm;have bT:=dm bn;clear bm bn;have HB:=dm (Below.refl w.heap.size w);unfold uF.f at h;have H:=h;clear h;obtain⟨aP,A3,H⟩:=ol H;(try dsimp only at H);obtain rfl:=Option.some.inj H
 go_enter Try.func81,Try.ntmps81
 go_wp2_with (first|((with_reducible refine nP 3 rfl ?_);refine om 3 #[.int .i64 ag,.int .i64 ah] 59 ?_;intro bx hg w4 nu hb;have aS:=dm (nu);have c_:=dm (ut:w.heap.size<=bx);have da:=dm (ut:w.heap.size<=bx);replace HB:=nJ HB hb;clear hb nu hg;have⟨bA,bB,bC,bD⟩:=nK (w:=w4) aS)|((with_reducible refine oh 111 rfl ?_);refine og 7 Try.func111 #[.slice A0 l0.length c0,.agg #[.int .i64 ag,.int .i64 ah]] ?_;(with_reducible refine(sO.calls k _ _ l0 ag ah aP _ ?ng ?ni A3.out).mono ?_);(case ng=>exact nO (nT bu.out HB.out));(case ni=>exact bT.out);rintro e w6 ⟨rfl,hb⟩;refine⟨_,rfl,?_⟩;replace aS:=nA aS hb;replace HB:=nJ HB hb;(try clear hb)))
 go_ret
 exact⟨yL,nC HB.out⟩
def uW.f (k:Nat) (af:Int) (aa:List (S59)) (a1:Int) (a2:Int):Option (Bool):=(vW.f a1 a2).bind fun aO=>((uF.f k aa aO.1 aO.2).bind fun aF=>(some aF))
theorem uW.mono:∀a0 a1 a2 a3 k,LeO (uW.f k a0 a1 a2 a3) (uW.f (k+1) a0 a1 a2 a3):=by
 intro a0 a1 a2 a3 k;unfold uW.f
 repeat' with_reducible first|exact uF.mono _ _ _ _|exact LeO.refl _|exact LeO.none _|refine LeO.ite ?_ ?_|refine LeO.bind ?_ (fun _=>?_)
theorem uW.calls (k:Nat) (af:Int) (aw:Option Addr) (av:Nat) (aa:List (S59)) (a1:Int) (a2:Int) (r:Bool) (w:World) (aM:Kd.C k59 w aw aa.length aa) (aN:aa.length<=av) (h:uW.f k af aa a1 a2=some r):
  Calls Try.prog 65 #[.agg #[.int .i64 af,.slice aw aa.length av],.int .i64 a1,.int .i64 a2] w fun e w'=>e=.returned (.bool r)/\Below w.heap.size w w':=by
 have bV:=Try.underlying31;have aB:=dm aM;have a5:=dm aN;clear aM aN;have HB:=dm (Below.refl w.heap.size w);unfold uW.f at h;have H:=h;clear h;obtain⟨⟨ba,bc⟩,A4,H⟩:=ol H;(try dsimp only at H);obtain⟨aF,A5,H⟩:=ol H;(try dsimp only at H);obtain rfl:=Option.some.inj H
 go_enter Try.func65,Try.ntmps65;try go_wp2_with (first|((with_reducible refine nP 3 rfl ?_);refine om 3 #[.int .i64 af,.slice aw aa.length av] 31 ?_;intro aT hg w6 nu hb;have ak:=dm (nu);have db:=dm (ut:w.heap.size<=aT);have dc:=dm (ut:w.heap.size<=aT);replace HB:=nJ HB hb;clear hb nu hg))
 replace ak:=dm (nV ak.out);replace HB:=dm (o9 HB.out);refine Ab (n:=7) (S:=fun w'=>w'.cell? ⟨aT,0,none⟩=some (.int .i64 af)/\w'.cell? ⟨aT,1,none⟩=some (.slice aw aa.length av)) (ds:=[]) (pg 7 0) (by kernel_rfl) rfl (by kernel_rfl) ⟨nk ak 0,nk ak 1⟩ (fun hHeld=>?_);generalize w6.drew=w7 at ak HB hHeld⊢;refine lq 0 7 1 ?_;refine lq 2 9 5 ?_;refine lq 3 10 13 ?_;refine qZ 1 8 15 ?_;refine xA (i:=4) (N:=some 11) (pg 7 31) rfl rfl (by kernel_rfl) (by decide) (fun K hK=>?_);refine oO Try.func53 #[.int .i64 a1,.int .i64 a2] ?_;with_reducible refine(vW.calls a1 a2 ba bc _ A4.out).mono ?_
 rintro e w8 ⟨rfl,hb⟩;refine⟨_,rfl,?_⟩;replace ak:=nA ak hb;replace HB:=nJ HB hb;(try clear hb);refine hK.out _ _ ⟨nk ak 0,nk ak 1⟩ (fun hHeld=>?_);clear hK K;refine nQ 11 ?_;refine xA (i:=5) (N:=some 12) (pg 7 63) rfl rfl (by kernel_rfl) (by decide) (fun K hK=>?_);refine oO Try.func81 #[.slice aw aa.length av,.agg #[.int .i64 ba,.int .i64 bc]] ?_;with_reducible refine(uF.calls k _ _ aa ba bc aF _ ?ng ?ni A5.out).mono ?_
 (case ng=>exact nO (nT aB.out HB.out));(case ni=>exact a5.out);rintro e w9 ⟨rfl,hb⟩;refine⟨_,rfl,?_⟩;replace ak:=nA ak hb;replace HB:=nJ HB hb;(try clear hb);refine hK.out _ _ ⟨nk ak 0,nk ak 1⟩ (fun hHeld=>?_);clear hK K;refine nQ 12 ?_;refine lq 6 6 127 ?_;refine pM (by kernel_rfl) ?_;try go_wp2
 go_ret
 exact⟨yL,nC HB.out⟩
theorem Lb {p:Prop}(h:p:=by(try simp only[List.map_toArray,List.map_cons,List.map_nil]);first|done|(rw[show(l0.take (af:Int).toNat).length=af.toNat from(by rw[List.length_take];have h_:(af:Int)<=(l0.length:Int):=nD;omega)]<;>rfl)|rfl|(simp only[List.length_drop,List.length_take];rfl)):p:=h
theorem Lc {p:Prop}(h:p:=by(try simp only[List.map_toArray,List.map_cons,List.map_nil]);first|done|(simp only[az];rfl)|rfl|(simp only[List.length_drop,List.length_take];rfl)):p:=h
theorem En {p:Prop}(h:p:=by first|rfl|(simp[qa,qb]<;>rfl)|(simp[*,qa,qb]<;>rfl)):p:=h
theorem xB {p:Prop}(h:p:=by first|rfl|(simp;done)|(simp[*];done)):p:=h
theorem BG {p:Prop}(h:p:=by rw[hg];exact(nX (nC HB.out))):p:=h
theorem zz {p:Prop}(h:p:=by kernel_rfl):p:=h
def xV.f (ae:Int) (ac:List (S59)) (a1:Int):Option (Bool):=if a1>=0 then(some (decide (a1<ae))) else(some false)
theorem xV.calls (ae:Int) (aj:Option Addr) (ak:Nat) (ac:List (S59)) (a1:Int) (r:Bool) (w:World) (aK:Kd.C k59 w aj ac.length ac) (aL:ac.length<=ak) (h:xV.f ae ac a1=some r):
  Calls Try.prog 78 #[.agg #[.int .i64 ae,.slice aj ac.length ak],.int .i64 a1] w fun e w'=>e=.returned (.bool r)/\Below w.heap.size w w':=by
 have bz:=Try.underlying31;have aw:=dm aK;have ax:=dm aL;clear aK aL;have HB:=dm (Below.refl w.heap.size w);unfold xV.f at h;have H:=h;clear h
 by_cases c3:a1>=0
 ·rw[if_pos c3]at H;have aT:=decide_eq_true c3;clear c3;obtain rfl:=Option.some.inj H
  go_enter Try.func78,Try.ntmps78
  go_wp2_with (first|((with_reducible refine nP 2 rfl ?_);refine om 2 #[.int .i64 ae,.slice aj ac.length ak] 31 ?_;intro aM hg w4 nu hb;have a8:=dm (nu);have bp:=dm (BG:w.heap.size<=aM);have bq:=dm (BG:w.heap.size<=aM);replace HB:=nJ HB hb;clear hb nu hg;have⟨bC,bD,bE,bF⟩:=nK (w:=w4) a8))
  go_ret
  exact⟨En,nC HB.out⟩
 ·rw[if_neg c3]at H;have aT:=decide_eq_false c3;clear c3;obtain rfl:=Option.some.inj H
  go_enter Try.func78,Try.ntmps78
  go_wp2_with (first|((with_reducible refine nP 2 rfl ?_);refine om 2 #[.int .i64 ae,.slice aj ac.length ak] 31 ?_;intro aM hg w6 nu hb;have a8:=dm (nu);have bp:=dm (BG:w.heap.size<=aM);have bq:=dm (BG:w.heap.size<=aM);replace HB:=nJ HB hb;clear hb nu hg))
  go_ret
  exact⟨En,nC HB.out⟩
def qG.l0:Nat->List Int->List Int->Int->Int->Int->List (S59)->Option (Bool)
 |0,_,_,_,_,_,_=>none
 |k+1,x1,x7,x8,x9,aA,aB=>if x9<x8 then(if 0<=x9 then(if x9<(x7.length:Int) then((xV.f aA aB (rd x7 x9)).bind fun aU=>(if aU=true then(if x9>0 then(if 0<=(wrap64 (x9 - 1)) then(if(wrap64 (x9 - 1))<(x1.length:Int) then((uW.f k aA aB (rd x1 (wrap64 (x9 - 1))) (rd x7 x9)).bind fun av=>(if av=true then(qG.l0 k x1 x7 x8 (wrap64 (x9+1)) aA aB) else(some false))) else(none)) else(none)) else(qG.l0 k x1 x7 x8 (wrap64 (x9+1)) aA aB)) else(some false))) else(none)) else(none)) else(some true)
def qG.f (k:Nat) (ae:Int) (ac:List (S59)) (l1:List Int):Option (Bool):=qG.l0 k l1 l1 (l1.length:Int) 0 ae ac
theorem qG.tC:∀k,(∀y0 y1 y2 y3 y4 y5,LeO (qG.l0 k y0 y1 y2 y3 y4 y5) (qG.l0 (k+1) y0 y1 y2 y3 y4 y5))
 |0=>fun _ _ _ _ _ _ r h=>by simp[qG.l0]at h
 |k+1=>by
  have au:=qG.tC k
  ·intro y0 y1 y2 y3 y4 y5;unfold qG.l0
   repeat' first
   |(with_reducible exact au _ _ _ _ _ _)
   |(with_reducible exact uW.mono _ _ _ _ _)
   |(with_reducible exact LeO.refl _)
   |(with_reducible exact LeO.none _)
   |(with_reducible refine LeO.ite ?_ ?_)
   |(with_reducible refine LeO.bind ?_ (fun _=>?_))
   |exact au _ _ _ _ _ _
   |exact uW.mono _ _ _ _ _
   |exact LeO.none _
   |refine LeO.ite ?_ ?_
   |refine LeO.bind ?_ (fun _=>?_)
theorem qG.mono:∀a0 a1 a2 k,LeO (qG.f k a0 a1 a2) (qG.f (k+1) a0 a1 a2):=by
 intro a0 a1 a2 k;have au:=qG.tC k;unfold qG.f
 repeat' with_reducible first|exact au _ _ _ _ _ _|exact uW.mono _ _ _ _ _|exact LeO.refl _|exact LeO.none _|refine LeO.ite ?_ ?_|refine LeO.bind ?_ (fun _=>?_)
def qG.T4:Bool×List (List Nat×List Nat):=(true,[([],[]),([],[]),([0,1],[0,1]),([2],[2]),([3,2],[3]),([4],[4]),([5,4],[4,5]),([6,4,4],[4,6]),([7],[7]),([7],[7]),([7],[7]),([10,7],[7,10]),([9,11,7],[7,9,11]),([12,7],[7,12]),([7],[7]),([8,13,14,7,7],[7,8,13,14]),([15,7],[7,15]),([7,16,4],[4,7,16]),([4,17],[4,17])])
def qG.B4:List Nat:=[0,0,3,7,15,31,63,127,255,255,255,1279,3839,7935,255,32767,65535,131071,262143]
theorem qG.yh:p_ .any (opsOf Try.f51 4)=qG.T4:=by kernel_rfl
theorem qG.yc:qQ qG.T4.2 qG.B4=true:=by kernel_rfl
theorem qG.calls (k:Nat) (ae:Int) (aj:Option Addr) (ak:Nat) (ac:List (S59)) (A1:Option Addr) (c1:Nat) (l1:List Int) (r:Bool) (w:World) (aK:Kd.C k59 w aj ac.length ac) (aL:ac.length<=ak) (hr1:Kd.C (Kd.int .i64) w A1 l1.length l1) (bu:l1.length<=c1) (h:qG.f k ae ac l1=some r):
  Calls Try.prog 51 #[.agg #[.int .i64 ae,.slice aj ac.length ak],.slice A1 l1.length c1] w fun e w'=>e=.returned (.bool r)/\Below w.heap.size w w':=by
 have bz:=Try.underlying31;have aw:=dm aK;have ax:=dm aL;clear aK aL;have aS:=dm hr1;have bO:=dm bu;clear hr1 bu;have HB:=dm (Below.refl w.heap.size w);unfold qG.f at h;have H:=h;clear h;have H':=dm H;clear H
 go_enter Try.func51,Try.ntmps51
 go_wp2_with (first|((with_reducible refine nP 2 rfl ?_);refine om 2 #[.int .i64 ae,.slice aj ac.length ak] 31 ?_;intro ap hg w3 nu hb;have aa:=dm (nu);have bI:=dm (BG:w.heap.size<=ap);have bJ:=dm (BG:w.heap.size<=ap);replace HB:=nJ HB hb;clear hb nu hg))
 go_loopg [9] k (fun kq v9 w'=>∃ (ab:Int),v9=.int .i64 ab/\lm (qG.l0 kq l1 l1 (l1.length:Int) ab ae ac=some r)/\lm (kq<=k)/\lm (w'.heap[ap]? =some (.cells #[.int .i64 ae,(.slice aj ac.length ak)] 31 (0,0)))/\lm (Below w.heap.size w w'))
 case atStart=>exact⟨(0),(xB),H',⟨Nat.le_refl _⟩,⟨nG aa.out⟩,⟨nC HB.out⟩⟩
 case round=>
  clear H';obtain⟨ab,rfl,HA,aC,aa,HB⟩:=hrel;cases gk with
  |zero=>exact absurd HA.out (by simp[qG.l0])
  |succ k1=>
   have H:=HA.out;clear HA;simp only[qG.l0]at H
   by_cases c4:ab<(l1.length:Int)
   ·rw[if_pos c4]at H;have a3:=decide_eq_true c4;clear c4
    obtain⟨bj,H⟩:=oz H
    obtain⟨a4,H⟩:=oz H;obtain⟨aU,A7,H⟩:=ol H;(try dsimp only at H)
    rcases pJ H with⟨h_,H_⟩|⟨h_,H_⟩<;> (subst h_;clear H;have H:=H_;clear H_)
    ·skip
     by_cases c9:ab>0
     ·rw[if_pos c9]at H;have bA:=decide_eq_true c9;clear c9;obtain⟨ag,az⟩:∃j_:Int,(wrap64 (ab - 1))=j_:=⟨_,rfl⟩;replace H:(if 0<=(ag) then(if(ag)<(l1.length:Int) then((uW.f k1 ae ac (rd l1 (ag)) (rd l1 ab)).bind fun av=>(if av=true then(qG.l0 k1 l1 l1 (l1.length:Int) (wrap64 (ab+1)) ae ac) else(some false))) else(none)) else(none))=some r:=by first|(rw[az]at H;exact H)|(simp only[az]at H⊢;exact H)
      (try rw[az]at A7);have bG:(IntKind.i64.wrap (ab - 1))=ag:=(qA _).trans az
      obtain⟨bK,H⟩:=oz H
      obtain⟨bL,H⟩:=oz H;obtain⟨av,bv,H⟩:=ol H;(try dsimp only at H)
      rcases pJ H with⟨h_,H_⟩|⟨h_,H_⟩<;> (subst h_;clear H;have H:=H_;clear H_)
      ·have H':=dm H;clear H;have am:0<=(ab:Int):=nD;have ao:ab<(l1.length:Int):=nD;obtain⟨ay,aD,ai⟩:=oG aS.out ab am ao;cases aD;replace ai:=nE HB ai;replace am:=eq_true am;replace ao:=eq_true ao;try go_wp2
       replace aa:=dm (nV aa.out);replace HB:=dm (o9 HB.out);have aE:0<=((ag):Int):=nD;have aF:(ag)<(l1.length:Int):=nD;obtain⟨aV,a5,al⟩:=oG aS.out (ag) aE aF;have aq:=al;obtain rfl:ay=aV:=(by injection a5);replace al:=nE HB al;replace aE:=eq_true aE;replace aF:=eq_true aF;refine pU 19 (S:=fun w'=>w'.cell? ⟨ap,0,none⟩=some (.int .i64 ae)/\w'.cell? ⟨ap,1,none⟩=some (.slice aj ac.length ak)/\w'.cell? (ay.add ((ag)).toNat)=some (.int .i64 (rd l1 (ag)))) [] ⟨nk aa 0,nk aa 1,(nE HB aq)⟩ qG.yh qG.yc (fun hHeld HT_ HW_=>?_);generalize wr.drew=bP at aa HB al hHeld⊢;refine lq 1 15 2 ?_;refine vP 0 14 3 ?_;refine oD 2 16 7 (fun K hK=>?_);refine oO Try.func78 #[.agg #[.int .i64 ae,.slice aj ac.length ak],.int .i64 (rd l1 ab)] ?_;with_reducible refine(xV.calls ae _ _ ac (rd l1 ab) true _ ?ng ?ni A7.out).mono ?_
       (case ng=>exact nO (nT aw.out HB.out));(case ni=>exact ax.out);rintro e bQ ⟨rfl,hb⟩;refine⟨_,rfl,?_⟩;replace aa:=nA aa hb;replace HB:=nJ HB hb;(try clear hb);refine hK.out _ _ ⟨nk aa 0,nk aa 1,(nE HB aq)⟩ (fun hHeld=>?_);clear hK K;refine nQ 16 ?_;refine lq 3 17 15 ?_;refine lq 4 18 31 ?_;refine lq 5 19 63 ?_;refine lq 6 20 127 ?_;refine lq 7 21 255 ?_;refine lq 9 23 767 ?_;refine lq 10 24 1791 ?_;refine lq 11 25 3839 ?_;refine lq 12 26 7935 ?_;refine lq 14 28 24319 ?_;refine vP 8 22 24575 ?_;refine vP 13 27 32767 ?_;refine oD 15 29 65535 (fun K hK=>?_);refine ug Try.func65 (zz) rfl #[.agg #[.int .i64 ae,.slice aj ac.length ak],.int .i64 (rd l1 (ag)),.int .i64 (rd l1 ab)] (by rfl) rfl rfl (Lc) ?_;with_reducible refine(uW.calls k1 ae _ _ ac (rd l1 (ag)) (rd l1 ab) true _ ?ng ?ni bv.out).mono ?_
       (case ng=>exact nO (nT aw.out HB.out));(case ni=>exact ax.out);rintro e bR ⟨rfl,hb⟩;refine⟨_,rfl,?_⟩;replace aa:=nA aa hb;replace HB:=nJ HB hb;(try clear hb);refine hK.out _ _ ⟨nk aa 0,nk aa 1,(nE HB aq)⟩ (fun hHeld=>?_);clear hK K;refine nQ 29 ?_;refine lq 16 30 131071 ?_;refine lq 17 31 262143 ?_;refine lq 18 32 524287 ?_;refine pM (pQ HT_.out (zz)) ?_;try go_wp2
       go_roundg k1
       case measure=>have:=aC.out;omega
       case rel=>exact⟨(wrap64 (ab+1)),(xB),H',⟨by have:=aC.out;omega⟩,⟨nG aa.out⟩,⟨nC HB.out⟩⟩
      ·obtain rfl:=Option.some.inj H;have am:0<=(ab:Int):=nD;have ao:ab<(l1.length:Int):=nD;obtain⟨ay,aD,ai⟩:=oG aS.out ab am ao;cases aD;replace ai:=nE HB ai;replace am:=eq_true am;replace ao:=eq_true ao;try go_wp2
       replace aa:=dm (nV aa.out);replace HB:=dm (o9 HB.out);have aE:0<=((ag):Int):=nD;have aF:(ag)<(l1.length:Int):=nD;obtain⟨aV,a5,al⟩:=oG aS.out (ag) aE aF;have aq:=al;obtain rfl:ay=aV:=(by injection a5);replace al:=nE HB al;replace aE:=eq_true aE;replace aF:=eq_true aF;refine pU 19 (S:=fun w'=>w'.cell? ⟨ap,0,none⟩=some (.int .i64 ae)/\w'.cell? ⟨ap,1,none⟩=some (.slice aj ac.length ak)/\w'.cell? (ay.add ((ag)).toNat)=some (.int .i64 (rd l1 (ag)))) [] ⟨nk aa 0,nk aa 1,(nE HB aq)⟩ qG.yh qG.yc (fun hHeld HT_ HW_=>?_);generalize wr.drew=bS at aa HB al hHeld⊢;refine lq 1 15 2 ?_;refine vP 0 14 3 ?_;refine oD 2 16 7 (fun K hK=>?_);refine oO Try.func78 #[.agg #[.int .i64 ae,.slice aj ac.length ak],.int .i64 (rd l1 ab)] ?_;with_reducible refine(xV.calls ae _ _ ac (rd l1 ab) true _ ?ng ?ni A7.out).mono ?_
       (case ng=>exact nO (nT aw.out HB.out));(case ni=>exact ax.out);rintro e bT ⟨rfl,hb⟩;refine⟨_,rfl,?_⟩;replace aa:=nA aa hb;replace HB:=nJ HB hb;(try clear hb);refine hK.out _ _ ⟨nk aa 0,nk aa 1,(nE HB aq)⟩ (fun hHeld=>?_);clear hK K;refine nQ 16 ?_;refine lq 3 17 15 ?_;refine lq 4 18 31 ?_;refine lq 5 19 63 ?_;refine lq 6 20 127 ?_;refine lq 7 21 255 ?_;refine lq 9 23 767 ?_;refine lq 10 24 1791 ?_;refine lq 11 25 3839 ?_;refine lq 12 26 7935 ?_;refine lq 14 28 24319 ?_;refine vP 8 22 24575 ?_;refine vP 13 27 32767 ?_;refine oD 15 29 65535 (fun K hK=>?_);refine ug Try.func65 (zz) rfl #[.agg #[.int .i64 ae,.slice aj ac.length ak],.int .i64 (rd l1 (ag)),.int .i64 (rd l1 ab)] (by rfl) rfl rfl (Lc) ?_;with_reducible refine(uW.calls k1 ae _ _ ac (rd l1 (ag)) (rd l1 ab) false _ ?ng ?ni bv.out).mono ?_
       (case ng=>exact nO (nT aw.out HB.out));(case ni=>exact ax.out);rintro e bU ⟨rfl,hb⟩;refine⟨_,rfl,?_⟩;replace aa:=nA aa hb;replace HB:=nJ HB hb;(try clear hb);refine hK.out _ _ ⟨nk aa 0,nk aa 1,(nE HB aq)⟩ (fun hHeld=>?_);clear hK K;refine nQ 29 ?_;refine lq 16 30 131071 ?_;refine lq 17 31 262143 ?_;refine lq 18 32 524287 ?_;refine pM (pQ HT_.out (zz)) ?_;try go_wp2
       go_ret
       exact⟨by first|rfl|(simp[qa,qb]<;>rfl)|(simp only[←az];first|rfl|(simp[qa,qb]<;>rfl))|(simp[*,qa,qb]<;>rfl),nC HB.out⟩
     ·rw[if_neg c9]at H;have bA:=decide_eq_false c9;clear c9;have H':=dm H;clear H;have am:0<=(ab:Int):=nD;have ao:ab<(l1.length:Int):=nD;obtain⟨ay,aD,ai⟩:=oG aS.out ab am ao;cases aD;replace ai:=nE HB ai;replace am:=eq_true am;replace ao:=eq_true ao;try go_wp2
      replace aa:=dm (nV aa.out);replace HB:=dm (o9 HB.out);refine pU 19 (S:=fun w'=>w'.cell? ⟨ap,0,none⟩=some (.int .i64 ae)/\w'.cell? ⟨ap,1,none⟩=some (.slice aj ac.length ak)) [] ⟨nk aa 0,nk aa 1⟩ qG.yh qG.yc (fun hHeld HT_ HW_=>?_);generalize wr.drew=bV at aa HB hHeld⊢;refine lq 1 15 2 ?_;refine qZ 0 14 3 ?_;refine oD 2 16 7 (fun K hK=>?_);refine oO Try.func78 #[.agg #[.int .i64 ae,.slice aj ac.length ak],.int .i64 (rd l1 ab)] ?_;with_reducible refine(xV.calls ae _ _ ac (rd l1 ab) true _ ?ng ?ni A7.out).mono ?_
      (case ng=>exact nO (nT aw.out HB.out));(case ni=>exact ax.out);rintro e bW ⟨rfl,hb⟩;refine⟨_,rfl,?_⟩;replace aa:=nA aa hb;replace HB:=nJ HB hb;(try clear hb);refine hK.out _ _ ⟨nk aa 0,nk aa 1⟩ (fun hHeld=>?_);clear hK K;refine nQ 16 ?_;refine lq 3 17 15 ?_;refine lq 4 18 31 ?_;refine lq 5 19 63 ?_;refine lq 6 20 127 ?_;refine lq 7 21 255 ?_;refine oC 8 22 511 ?_;refine oC 9 23 1023 ?_;refine oC 10 24 2047 ?_;refine oC 11 25 4095 ?_;refine oC 12 26 8191 ?_;refine oC 13 27 16383 ?_;refine oC 14 28 32767 ?_;refine oC 15 29 65535 ?_;refine oC 16 30 131071 ?_;refine lq 17 31 262143 ?_;refine lq 18 32 524287 ?_;refine pM (pQ HT_.out (zz)) ?_;try go_wp2
      go_roundg k1
      case measure=>have:=aC.out;omega
      case rel=>exact⟨(wrap64 (ab+1)),(xB),H',⟨by have:=aC.out;omega⟩,⟨nG aa.out⟩,⟨nC HB.out⟩⟩
    ·obtain rfl:=Option.some.inj H;have am:0<=(ab:Int):=nD;have ao:ab<(l1.length:Int):=nD;obtain⟨ay,aD,ai⟩:=oG aS.out ab am ao;cases aD;replace ai:=nE HB ai;replace am:=eq_true am;replace ao:=eq_true ao;try go_wp2
     replace aa:=dm (nV aa.out);replace HB:=dm (o9 HB.out);refine pU 19 (S:=fun w'=>w'.cell? ⟨ap,0,none⟩=some (.int .i64 ae)/\w'.cell? ⟨ap,1,none⟩=some (.slice aj ac.length ak)) [] ⟨nk aa 0,nk aa 1⟩ qG.yh qG.yc (fun hHeld HT_ HW_=>?_);generalize wr.drew=bX at aa HB hHeld⊢;refine lq 1 15 2 ?_;refine qZ 0 14 3 ?_;refine oD 2 16 7 (fun K hK=>?_);refine oO Try.func78 #[.agg #[.int .i64 ae,.slice aj ac.length ak],.int .i64 (rd l1 ab)] ?_;with_reducible refine(xV.calls ae _ _ ac (rd l1 ab) false _ ?ng ?ni A7.out).mono ?_
     (case ng=>exact nO (nT aw.out HB.out));(case ni=>exact ax.out);rintro e bY ⟨rfl,hb⟩;refine⟨_,rfl,?_⟩;replace aa:=nA aa hb;replace HB:=nJ HB hb;(try clear hb);refine hK.out _ _ ⟨nk aa 0,nk aa 1⟩ (fun hHeld=>?_);clear hK K;refine nQ 16 ?_;refine lq 3 17 15 ?_;refine lq 4 18 31 ?_;refine oC 5 19 63 ?_;refine oC 6 20 127 ?_;refine oC 7 21 255 ?_;refine oC 8 22 511 ?_;refine oC 9 23 1023 ?_;refine oC 10 24 2047 ?_;refine oC 11 25 4095 ?_;refine oC 12 26 8191 ?_;refine oC 13 27 16383 ?_;refine oC 14 28 32767 ?_;refine oC 15 29 65535 ?_;refine oC 16 30 131071 ?_;refine oC 17 31 262143 ?_;refine lq 18 32 524287 ?_;refine pM (pQ HT_.out (zz)) ?_;try go_wp2
     go_ret
     exact⟨En,nC HB.out⟩
   ·rw[if_neg c4]at H;have a3:=decide_eq_false c4;clear c4;obtain rfl:=Option.some.inj H
    go_wp2
    go_ret
    exact⟨En,nC HB.out⟩
def sQ.l0:Nat->List Int->Int->Int->Int->Option (Int)
 |0,_,_,_,_=>none
 |k+1,x0,x1,x7,x8=>if x8<x7 then(if 0<=x8 then(if x8<(x0.length:Int) then(if x1=(rd x0 x8) then(some x8) else(sQ.l0 k x0 x1 x7 (wrap64 (x8+1)))) else(none)) else(none)) else(some (-1))
def sQ.f (k:Nat) (l0:List Int) (a1:Int):Option (Int):=sQ.l0 k l0 a1 (l0.length:Int) 0
theorem sQ.tC:∀k,(∀y0 y1 y2 y3,LeO (sQ.l0 k y0 y1 y2 y3) (sQ.l0 (k+1) y0 y1 y2 y3))
 |0=>fun _ _ _ _ r h=>by simp[sQ.l0]at h
 |k+1=>by
  have au:=sQ.tC k
  ·intro y0 y1 y2 y3;unfold sQ.l0
   repeat' first
   |(with_reducible exact au _ _ _ _)
   |(with_reducible exact LeO.refl _)
   |(with_reducible exact LeO.none _)
   |(with_reducible refine LeO.ite ?_ ?_)
   |(with_reducible refine LeO.bind ?_ (fun _=>?_))
   |exact au _ _ _ _
   |exact LeO.none _
   |refine LeO.ite ?_ ?_
   |refine LeO.bind ?_ (fun _=>?_)
theorem sQ.mono:∀a0 a1 k,LeO (sQ.f k a0 a1) (sQ.f (k+1) a0 a1):=by
 intro a0 a1 k;have au:=sQ.tC k;unfold sQ.f
 repeat' with_reducible first|exact au _ _ _ _|exact LeO.refl _|exact LeO.none _|refine LeO.ite ?_ ?_|refine LeO.bind ?_ (fun _=>?_)
theorem sQ.calls (k:Nat) (A0:Option Addr) (c0:Nat) (l0:List Int) (a1:Int) (r:Int) (w:World) (aQ:Kd.C (Kd.int .i64) w A0 l0.length l0) (aR:l0.length<=c0) (h:sQ.f k l0 a1=some r):
  Calls Try.prog 114 #[.slice A0 l0.length c0,.int .i64 a1] w fun e w'=>e=.returned (.int .i64 r)/\oM w w':=by
 have aN:=dm aQ;have aZ:=dm aR;clear aQ aR;unfold sQ.f at h;have H:=h;clear h;have H':=dm H;clear H
 go_enter Try.func114,Try.ntmps114
 go_wp2
 go_loopg [8] k (fun kq v8 w'=>∃ (ah:Int),v8=.int .i64 ah/\lm (sQ.l0 kq l0 a1 (l0.length:Int) ah=some r)/\lm (kq<=k)/\oM w w')
 case atStart=>exact⟨(0),(xB),H',⟨Nat.le_refl _⟩,by repeat(first|exact oM.refl _|apply oM.step)⟩
 case round=>
  clear H';obtain⟨ah,rfl,HA,aC,⟨m1,rfl⟩⟩:=hrel;cases gk with
  |zero=>exact absurd HA.out (by simp[sQ.l0])
  |succ k1=>
   have H:=HA.out;clear HA;simp only[sQ.l0]at H
   by_cases c3:ah<(l0.length:Int)
   ·rw[if_pos c3]at H;have aT:=decide_eq_true c3;clear c3
    obtain⟨a3,H⟩:=oz H
    obtain⟨bj,H⟩:=oz H
    by_cases c6:a1=(rd l0 ah)
    ·rw[if_pos c6]at H;have a4:=beq_iff_eq.mpr c6;have bk:=bne_eq_false_iff_eq.mpr c6;clear c6;obtain rfl:=Option.some.inj H;have aG:0<=(ah:Int):=nD;have aH:ah<(l0.length:Int):=nD;obtain⟨br,a6,bf⟩:=oG aN.out ah aG aH;cases a6;replace aG:=eq_true aG;replace aH:=eq_true aH
     go_wp2
     go_ret
     exact⟨xB,by repeat(first|exact oM.refl _|apply oM.step)⟩
    ·rw[if_neg c6]at H;have a4:=beq_eq_false_iff_ne.mpr c6;have bk:=bne_iff_ne.mpr c6;have H':=dm H;clear H;have aG:0<=(ah:Int):=nD;have aH:ah<(l0.length:Int):=nD;obtain⟨br,a6,bf⟩:=oG aN.out ah aG aH;cases a6;replace aG:=eq_true aG;replace aH:=eq_true aH
     go_wp2
     go_roundg k1
     case measure=>have:=aC.out;omega
     case rel=>exact⟨(wrap64 (ah+1)),(xB),H',⟨by have:=aC.out;omega⟩,by repeat(first|exact oM.refl _|apply oM.step)⟩
   ·rw[if_neg c3]at H;have aT:=decide_eq_false c3;clear c3;obtain rfl:=Option.some.inj H
    go_wp2
    go_ret
    exact⟨xB,by repeat(first|exact oM.refl _|apply oM.step)⟩
def uU.f (k:Nat) (l0:List Int) (a1:Int):Option (Bool):=(sQ.f k l0 a1).bind fun aP=>(some (decide (aP>=0)))
theorem uU.mono:∀a0 a1 k,LeO (uU.f k a0 a1) (uU.f (k+1) a0 a1):=by
 intro a0 a1 k;unfold uU.f
 repeat' with_reducible first|exact sQ.mono _ _ _|exact LeO.refl _|exact LeO.none _|refine LeO.ite ?_ ?_|refine LeO.bind ?_ (fun _=>?_)
theorem uU.calls (k:Nat) (A0:Option Addr) (c0:Nat) (l0:List Int) (a1:Int) (r:Bool) (w:World) (aQ:Kd.C (Kd.int .i64) w A0 l0.length l0) (aR:l0.length<=c0) (h:uU.f k l0 a1=some r):
  Calls Try.prog 89 #[.slice A0 l0.length c0,.int .i64 a1] w fun e w'=>e=.returned (.bool r)/\oM w w':=by
 have aN:=dm aQ;have aZ:=dm aR;clear aQ aR;unfold uU.f at h;have H:=h;clear h;obtain⟨aP,A3,H⟩:=ol H;(try dsimp only at H);obtain rfl:=Option.some.inj H
 go_enter Try.func89,Try.ntmps89
 go_wp2_with (first|((with_reducible refine oh 114 rfl ?_);refine og 7 Try.func114 #[.slice A0 l0.length c0,.int .i64 a1] ?_;(with_reducible refine(sQ.calls k _ _ l0 a1 aP _ ?ng ?ni A3.out).mono ?_);(case ng=>exact nO aN.out);(case ni=>exact aZ.out);rintro e w' ⟨rfl,⟨nd,rfl⟩⟩;refine⟨_,rfl,?_⟩))
 go_ret
 exact⟨xB,by repeat(first|exact oM.refl _|apply oM.step)⟩
def r_.l0:Nat->List Int->List Int->Int->Int->Option (Bool)
 |0,_,_,_,_=>none
 |k+1,x0,x5,x6,x7=>if x7<x6 then(if 0<=x7 then(if x7<(x5.length:Int) then(if x7<=(x0.length:Int) then((uU.f k (x0.take (x7:Int).toNat) (rd x5 x7)).bind fun aW=>(if aW=true then(some false) else(r_.l0 k x0 x5 x6 (wrap64 (x7+1))))) else(none)) else(none)) else(none)) else(some true)
def r_.f (k:Nat) (l0:List Int):Option (Bool):=r_.l0 k l0 l0 (l0.length:Int) 0
theorem r_.tC:∀k,(∀y0 y1 y2 y3,LeO (r_.l0 k y0 y1 y2 y3) (r_.l0 (k+1) y0 y1 y2 y3))
 |0=>fun _ _ _ _ r h=>by simp[r_.l0]at h
 |k+1=>by
  have au:=r_.tC k
  ·intro y0 y1 y2 y3;unfold r_.l0
   repeat' first
   |(with_reducible exact au _ _ _ _)
   |(with_reducible exact uU.mono _ _ _)
   |(with_reducible exact LeO.refl _)
   |(with_reducible exact LeO.none _)
   |(with_reducible refine LeO.ite ?_ ?_)
   |(with_reducible refine LeO.bind ?_ (fun _=>?_))
   |exact au _ _ _ _
   |exact uU.mono _ _ _
   |exact LeO.none _
   |refine LeO.ite ?_ ?_
   |refine LeO.bind ?_ (fun _=>?_)
theorem r_.mono:∀a0 k,LeO (r_.f k a0) (r_.f (k+1) a0):=by
 intro a0 k;have au:=r_.tC k;unfold r_.f
 repeat' with_reducible first|exact au _ _ _ _|exact uU.mono _ _ _|exact LeO.refl _|exact LeO.none _|refine LeO.ite ?_ ?_|refine LeO.bind ?_ (fun _=>?_)
theorem r_.calls (k:Nat) (A0:Option Addr) (c0:Nat) (l0:List Int) (r:Bool) (w:World) (aQ:Kd.C (Kd.int .i64) w A0 l0.length l0) (aR:l0.length<=c0) (h:r_.f k l0=some r):
  Calls Try.prog 52 #[.slice A0 l0.length c0] w fun e w'=>e=.returned (.bool r)/\oM w w':=by
 have aN:=dm aQ;have aZ:=dm aR;clear aQ aR;unfold r_.f at h;have H:=h;clear h;have H':=dm H;clear H
 go_enter Try.func52,Try.ntmps52
 go_wp2
 go_loopg [7] k (fun kq v7 w'=>∃ (af:Int),v7=.int .i64 af/\lm (r_.l0 kq l0 l0 (l0.length:Int) af=some r)/\lm (kq<=k)/\oM w w')
 case atStart=>exact⟨(0),(xB),H',⟨Nat.le_refl _⟩,by repeat(first|exact oM.refl _|apply oM.step)⟩
 case round=>
  clear H';obtain⟨af,rfl,HA,aC,⟨m1,rfl⟩⟩:=hrel;cases gk with
  |zero=>exact absurd HA.out (by simp[r_.l0])
  |succ k1=>
   have H:=HA.out;clear HA;simp only[r_.l0]at H
   by_cases c2:af<(l0.length:Int)
   ·rw[if_pos c2]at H;have bB:=decide_eq_true c2;clear c2
    obtain⟨aT,H⟩:=oz H
    obtain⟨a3,H⟩:=oz H;have bj:=eq_true (of_decide_eq_true (uh):0<=af)
    obtain⟨c6,H⟩:=qd H;have a4:=eq_true c6;have bk:=decide_eq_true c6;clear c6;obtain⟨aW,A7,H⟩:=ol H;(try dsimp only at H)
    rcases pJ H with⟨h_,H_⟩|⟨h_,H_⟩<;> (subst h_;clear H;have H:=H_;clear H_)
    ·obtain rfl:=Option.some.inj H;have aI:0<=(af:Int):=nD;have aJ:af<(l0.length:Int):=nD;obtain⟨aO,a7,bh⟩:=oG aN.out af aI aJ;cases a7;replace aI:=eq_true aI;replace aJ:=eq_true aJ;obtain⟨bZ,bl,_,bm,_⟩:=info_parts info3;obtain⟨bM,bw,bx⟩:=CY (P:=Try.prog) (Value.int .i64) 0 45 3 .i64 Try.underlying45 bl bm (some aO) c0 l0 af nD nD aZ.out;have aX:=dm (zR (h1:=fun _=>rfl) (bw _ (yV aN.out)));have aY:=dm bx;clear bw bx bl bm
     go_wp2_with (first|((with_reducible refine wZ (f:=89) rfl ?_);refine wV (some 16) rfl rfl Try.func89 (zz) rfl #[.slice (some aO) (l0.take (af:Int).toNat).length c0,.int .i64 (rd l0 af)] rfl (Lb) ?_;(with_reducible refine(uU.calls k1 _ _ (l0.take (af:Int).toNat) (rd l0 af) true _ ?ng ?ni A7.out).mono ?_);(case ng=>exact nO aX.out);(case ni=>exact aY.out);rintro e w' ⟨rfl,⟨nd,rfl⟩⟩;refine⟨_,rfl,?_⟩))
     go_ret
     exact⟨xB,by repeat(first|exact oM.refl _|apply oM.step)⟩
    ·have H':=dm H;clear H;have aI:0<=(af:Int):=nD;have aJ:af<(l0.length:Int):=nD;obtain⟨aO,a7,bh⟩:=oG aN.out af aI aJ;cases a7;replace aI:=eq_true aI;replace aJ:=eq_true aJ;obtain⟨bN,bc,_,bd,_⟩:=info_parts info3;obtain⟨bH,bn,bo⟩:=CY (P:=Try.prog) (Value.int .i64) 0 45 3 .i64 Try.underlying45 bc bd (some aO) c0 l0 af nD nD aZ.out;have aX:=dm (zR (h1:=fun _=>rfl) (bn _ (yV aN.out)));have aY:=dm bo;clear bn bo bc bd
     go_wp2_with (first|((with_reducible refine wZ (f:=89) rfl ?_);refine wV (some 16) rfl rfl Try.func89 (zz) rfl #[.slice (some aO) (l0.take (af:Int).toNat).length c0,.int .i64 (rd l0 af)] rfl (Lb) ?_;(with_reducible refine(uU.calls k1 _ _ (l0.take (af:Int).toNat) (rd l0 af) false _ ?ng ?ni A7.out).mono ?_);(case ng=>exact nO aX.out);(case ni=>exact aY.out);rintro e w' ⟨rfl,⟨nd,rfl⟩⟩;refine⟨_,rfl,?_⟩))
     go_roundg k1
     case measure=>have:=aC.out;omega
     case rel=>exact⟨(wrap64 (af+1)),(xB),H',⟨by have:=aC.out;omega⟩,by repeat(first|exact oM.refl _|apply oM.step)⟩
   ·rw[if_neg c2]at H;have bB:=decide_eq_false c2;clear c2;obtain rfl:=Option.some.inj H
    go_wp2
    go_ret
    exact⟨xB,by repeat(first|exact oM.refl _|apply oM.step)⟩
theorem CE {p:Prop}(h:p:=by first|rfl|(simp;done)|(simp[*];done)):p:=h
def sP.l0:Nat->List Bool->Bool->Int->Int->Option (Int)
 |0,_,_,_,_=>none
 |k+1,x0,x1,x7,x8=>if x8<x7 then(if 0<=x8 then(if x8<(x0.length:Int) then(if(x1==(qc false x0 x8))=true then(some x8) else(sP.l0 k x0 x1 x7 (wrap64 (x8+1)))) else(none)) else(none)) else(some (-1))
def sP.f (k:Nat) (l0:List Bool) (a1:Bool):Option (Int):=sP.l0 k l0 a1 (l0.length:Int) 0
theorem sP.tC:∀k,(∀y0 y1 y2 y3,LeO (sP.l0 k y0 y1 y2 y3) (sP.l0 (k+1) y0 y1 y2 y3))
 |0=>fun _ _ _ _ r h=>by simp[sP.l0]at h
 |k+1=>by
  have af:=sP.tC k
  ·intro y0 y1 y2 y3;unfold sP.l0
   repeat' first
   |(with_reducible exact af _ _ _ _)
   |(with_reducible exact LeO.refl _)
   |(with_reducible exact LeO.none _)
   |(with_reducible refine LeO.ite ?_ ?_)
   |(with_reducible refine LeO.bind ?_ (fun _=>?_))
   |exact af _ _ _ _
   |exact LeO.none _
   |refine LeO.ite ?_ ?_
   |refine LeO.bind ?_ (fun _=>?_)
theorem sP.mono:∀a0 a1 k,LeO (sP.f k a0 a1) (sP.f (k+1) a0 a1):=by
 intro a0 a1 k;have af:=sP.tC k;unfold sP.f
 repeat' with_reducible first|exact af _ _ _ _|exact LeO.refl _|exact LeO.none _|refine LeO.ite ?_ ?_|refine LeO.bind ?_ (fun _=>?_)
theorem sP.calls (k:Nat) (A0:Option Addr) (c0:Nat) (l0:List Bool) (a1:Bool) (r:Int) (w:World) (ag:Kd.C Kd.bool w A0 l0.length l0) (ah:l0.length<=c0) (h:sP.f k l0 a1=some r):
  Calls Try.prog 90 #[.slice A0 l0.length c0,.bool a1] w fun e w'=>e=.returned (.int .i64 r)/\oM w w':=by
 have aj:=dm ag;have am:=dm ah;clear ag ah;unfold sP.f at h;have H:=h;clear h;have H':=dm H;clear H
 go_enter Try.func90,Try.ntmps90
 go_wp2
 go_loopg [8] k (fun kq v8 w'=>∃ (aa:Int),v8=.int .i64 aa/\lm (sP.l0 kq l0 a1 (l0.length:Int) aa=some r)/\lm (kq<=k)/\oM w w')
 case atStart=>exact⟨(0),(CE),H',⟨Nat.le_refl _⟩,by repeat(first|exact oM.refl _|apply oM.step)⟩
 case round=>
  clear H';try clear p2
  obtain⟨aa,rfl,HA,ao,⟨m1,rfl⟩⟩:=hrel;cases gk with
  |zero=>exact absurd HA.out (by simp[sP.l0])
  |succ k1=>
   have H:=HA.out;clear HA;simp only[sP.l0]at H
   by_cases c3:aa<(l0.length:Int)
   ·rw[if_pos c3]at H;have ap:=decide_eq_true c3;clear c3
    obtain⟨aw,H⟩:=oz H
    obtain⟨ax,H⟩:=oz H
    by_cases c6:(a1==(qc false l0 aa))=true
    ·rw[if_pos c6]at H;have aq:(a1==(qc false l0 aa))=true:=c6;(try(have au:decide (a1=(qc false l0 aa))=true:=by simpa using c6));(try(have av:(a1==(qc false l0 aa))=true:=by simpa using c6));clear c6;obtain rfl:=Option.some.inj H;have ab:0<=(aa:Int):=nD;have ac:aa<(l0.length:Int):=nD;obtain⟨al,ai,ak⟩:=wU aj.out aa ab ac;cases ai;replace ab:=eq_true ab;replace ac:=eq_true ac
     go_wp2
     go_ret
     exact⟨CE,by repeat(first|exact oM.refl _|apply oM.step)⟩
    ·rw[if_neg c6]at H;have aq:(a1==(qc false l0 aa))=false:=by simpa using c6
     (try(have au:decide (a1=(qc false l0 aa))=false:=by simpa using c6));(try(have av:(a1==(qc false l0 aa))=false:=by simpa using c6));(try(have ay:¬ (a1=(qc false l0 aa)):=by simpa using c6));clear c6;have H':=dm H;clear H;have ab:0<=(aa:Int):=nD;have ac:aa<(l0.length:Int):=nD;obtain⟨al,ai,ak⟩:=wU aj.out aa ab ac;cases ai;replace ab:=eq_true ab;replace ac:=eq_true ac
     go_wp2
     go_roundg k1
     case measure=>have:=ao.out;omega
     case rel=>exact⟨(wrap64 (aa+1)),(CE),H',⟨by have:=ao.out;omega⟩,by repeat(first|exact oM.refl _|apply oM.step)⟩
   ·rw[if_neg c3]at H;have ap:=decide_eq_false c3;clear c3;obtain rfl:=Option.some.inj H
    go_wp2
    go_ret
    exact⟨CE,by repeat(first|exact oM.refl _|apply oM.step)⟩
def wQ.f (k:Nat) (l0:List Bool) (a1:Bool):Option (Bool):=(sP.f k l0 a1).bind fun ae=>(some (decide (ae>=0)))
theorem wQ.mono:∀a0 a1 k,LeO (wQ.f k a0 a1) (wQ.f (k+1) a0 a1):=by
 intro a0 a1 k;unfold wQ.f
 repeat' with_reducible first|exact sP.mono _ _ _|exact LeO.refl _|exact LeO.none _|refine LeO.ite ?_ ?_|refine LeO.bind ?_ (fun _=>?_)
theorem wQ.calls (k:Nat) (A0:Option Addr) (c0:Nat) (l0:List Bool) (a1:Bool) (r:Bool) (w:World) (ag:Kd.C Kd.bool w A0 l0.length l0) (ah:l0.length<=c0) (h:wQ.f k l0 a1=some r):
  Calls Try.prog 54 #[.slice A0 l0.length c0,.bool a1] w fun e w'=>e=.returned (.bool r)/\oM w w':=by
 have aj:=dm ag;have am:=dm ah;clear ag ah;unfold wQ.f at h;have H:=h;clear h;obtain⟨ae,A3,H⟩:=ol H;(try dsimp only at H);obtain rfl:=Option.some.inj H
 go_enter Try.func54,Try.ntmps54
 go_wp2_with (first|((with_reducible refine oh 90 rfl ?_);refine og 7 Try.func90 #[.slice A0 l0.length c0,.bool a1] ?_;(with_reducible refine(sP.calls k _ _ l0 a1 ae _ ?ng ?ni A3.out).mono ?_);(case ng=>exact nO aj.out);(case ni=>exact am.out);rintro e w' ⟨rfl,⟨nd,rfl⟩⟩;refine⟨_,rfl,?_⟩))
 go_ret
 exact⟨CE,by repeat(first|exact oM.refl _|apply oM.step)⟩
theorem Ct {p:Prop}(h:p:=by first|rfl|(simp[qa,qb]<;>rfl)|(simp only [←aZ];first|rfl|(simp[qa,qb]<;>rfl))|(simp[*,qa,qb]<;>rfl)):p:=h
theorem ES {p:Prop}(h:p:=by(try simp only [List.map_toArray,List.map_cons,List.map_nil]);first|done|(simp only [bK];rfl)|rfl|(simp only [List.length_drop,List.length_take];rfl)):p:=h
theorem KQ {p:Prop}(h:p:=by have:=bl.out;have:=bm.out;have:=ba.out;have:=bj.out;have:=bu.out;have:=b5.out;have:=cU.out;have:=eE.out;omega):p:=h
theorem Cs {p:Prop}(h:p:=by rw[hg];exact Nat.ne_of_lt (oQ (g:=az) (o:=.cells #[.int .i64 ag,.slice aN ai.length aO] 31 (0,0)) (nG ab.out))):p:=h
theorem CL {p:Prop}(h:p:=by rw[hg];exact Nat.ne_of_gt (oQ (g:=az) (o:=.cells #[.int .i64 ag,.slice aN ai.length aO] 31 (0,0)) (nG ab.out))):p:=h
theorem Ey {p:Prop}(h:p:=by rw[hg];exact Nat.ne_of_lt (oQ (g:=ax) (o:=qB ao) (nG ac.out))):p:=h
theorem EW {p:Prop}(h:p:=by rw[hg];exact Nat.ne_of_gt (oQ (g:=ax) (o:=qB ao) (nG ac.out))):p:=h
theorem Ez {p:Prop}(h:p:=by first|rfl|(simp[qa,qb]<;>rfl)|(simp[*,qa,qb]<;>rfl)):p:=h
theorem CK {p:Prop}(h:p:=by have:=bl.out;have:=bm.out;have:=ba.out;first|omega|exact Nat.le_refl _):p:=h
theorem wo {p:Prop}(h:p:=by first|rfl|(simp;done)|(simp[*];done)):p:=h
theorem xn {p:Prop}(h:p:=by rw[hg];exact(nX (nC HB.out))):p:=h
theorem tQ {p:Prop}(h:p:=by kernel_rfl):p:=h
mutual
def nS.j0:Nat->List (List Int)->List Int->Bool->Int->List (S59)->Option (Bool)
 |0,_,_,_,_,_=>none
 |k+1,x1,x2,gE,ap,ay=>if gE=true then(some false) else(if 0<=ap then(if(ap:Int).toNat<=281474976710656 then(nS.l0 k x2 (List.replicate (ap:Int).toNat false) x1 (x1.length:Int) 0 ap ay [] 0) else(none)) else(none))
def nS.l0:Nat->List Int->List Bool->List (List Int)->Int->Int->Int->List (S59)->List (S59)->Int->Option (Bool)
 |0,_,_,_,_,_,_,_,_,_=>none
 |k+1,x2,x6,aM,aQ,aL,ap,ay,aA,aC=>if aL<aQ then(if 0<=aL then(if aL<(aM.length:Int) then(if((nI aM aL).length:Int)<2 then(nS.j2 k x2 x6 aL (nI aM aL) aM aQ aL true ap ay aA aC) else((qG.f k ap ay (nI aM aL)).bind fun b6=>(nS.j2 k x2 x6 aL (nI aM aL) aM aQ aL (!b6) ap ay aA aC))) else(none)) else(none)) else(if(aA.length:Int)=(ay.length:Int) then((wQ.f k x6 false).bind fun cu=>(some (!cu))) else(some false))
def nS.j2:Nat->List Int->List Bool->Int->List Int->List (List Int)->Int->Int->Bool->Int->List (S59)->List (S59)->Int->Option (Bool)
 |0,_,_,_,_,_,_,_,_,_,_,_,_=>none
 |k+1,x2,x6,x7,x8,aM,aQ,aL,gF,ap,ay,aA,aC=>if gF=true then(some false) else(if 0<(x8.length:Int) then(if 0<=(wrap64 ((x8.length:Int) - 1)) then(if(wrap64 ((x8.length:Int) - 1))<(x8.length:Int) then(if(rd x8 0)=(rd x8 (wrap64 ((x8.length:Int) - 1))) then(if(x8.length:Int)<4 then(nS.j3 k x2 x6 x7 x8 (rd x8 0) (rd x8 (wrap64 ((x8.length:Int) - 1))) aM aQ aL true ap ay aA aC) else(if x7=0 then(nS.j3 k x2 x6 x7 x8 (rd x8 0) (rd x8 (wrap64 ((x8.length:Int) - 1))) aM aQ aL ((rd x8 0) !=(rd x8 (wrap64 ((x8.length:Int) - 1)))) ap ay aA aC) else(nS.j3 k x2 x6 x7 x8 (rd x8 0) (rd x8 (wrap64 ((x8.length:Int) - 1))) aM aQ aL false ap ay aA aC))) else(if x7=0 then(nS.j3 k x2 x6 x7 x8 (rd x8 0) (rd x8 (wrap64 ((x8.length:Int) - 1))) aM aQ aL ((rd x8 0) !=(rd x8 (wrap64 ((x8.length:Int) - 1)))) ap ay aA aC) else(nS.j3 k x2 x6 x7 x8 (rd x8 0) (rd x8 (wrap64 ((x8.length:Int) - 1))) aM aQ aL false ap ay aA aC))) else(none)) else(none)) else(none))
def nS.j3:Nat->List Int->List Bool->Int->List Int->Int->Int->List (List Int)->Int->Int->Bool->Int->List (S59)->List (S59)->Int->Option (Bool)
 |0,_,_,_,_,_,_,_,_,_,_,_,_,_,_=>none
 |k+1,x2,x6,x7,x8,x9,eF,aM,aQ,aL,gG,ap,ay,aA,aC=>if gG=true then(some false) else(if 1<=(wrap64 ((x8.length:Int) - 1)) then(if(wrap64 ((x8.length:Int) - 1))<=(x8.length:Int) then(if x7=0 then(if 1<=(x8.length:Int) then(nS.j4 k x2 x6 x8 (x8.drop 1) aM aQ aL ap ay aA aC) else(none)) else(if 0<=x9 then(if x9<(x6.length:Int) then(if qc false x6 x9=true then(if 0<=eF then(if eF<(x6.length:Int) then(if qc false x6 eF=true then(nS.j4 k x2 x6 x8 ((x8.take (wrap64 ((x8.length:Int) - 1)).toNat).drop 1) aM aQ aL ap ay aA aC) else(some false)) else(none)) else(none)) else(some false)) else(none)) else(none))) else(none)) else(none))
def nS.j4:Nat->List Int->List Bool->List Int->List Int->List (List Int)->Int->Int->Int->List (S59)->List (S59)->Int->Option (Bool)
 |0,_,_,_,_,_,_,_,_,_,_,_=>none
 |k+1,x2,x6,x8,eG,aM,aQ,aL,ap,ay,aA,aC=>(r_.f k eG).bind fun cv=>(if cv=true then(nS.l1 k x2 x6 x8 aM aQ aL eG (eG.length:Int) 0 ap ay aA aC) else(some false))
def nS.l1:Nat->List Int->List Bool->List Int->List (List Int)->Int->Int->List Int->Int->Int->Int->List (S59)->List (S59)->Int->Option (Bool)
 |0,_,_,_,_,_,_,_,_,_,_,_,_,_=>none
 |k+1,x2,x6,x8,aM,aQ,aL,cW,fD,b7,ap,ay,aA,aC=>if b7<fD then(if 0<=b7 then(if b7<(cW.length:Int) then(if 0<=(rd cW b7) then(if(rd cW b7)<(x6.length:Int) then(if qc false x6 (rd cW b7)=true then(some false) else(nS.l1 k x2 x6 x8 aM aQ aL cW fD (wrap64 (b7+1)) ap ay aA aC)) else(none)) else(none)) else(none)) else(none)) else(nS.l2 k x2 x6 x8 1 aM aQ aL ap ay aA aC)
def nS.l2:Nat->List Int->List Bool->List Int->Int->List (List Int)->Int->Int->Int->List (S59)->List (S59)->Int->Option (Bool)
 |0,_,_,_,_,_,_,_,_,_,_,_=>none
 |k+1,x2,x6,x8,b8,aM,aQ,aL,ap,ay,aA,aC=>if b8<(x8.length:Int) then(if 0<=(wrap64 (b8 - 1)) then(if(wrap64 (b8 - 1))<(x8.length:Int) then(if 0<=b8 then((vW.f (rd x8 (wrap64 (b8 - 1))) (rd x8 b8)).bind fun a5=>(if rZ aA a5.1 a5.2=true then(some false) else(nS.l2 k x2 x6 x8 (wrap64 (b8+1)) aM aQ aL ap ay (aA++[⟨a5.1,a5.2⟩]) aC))) else(none)) else(none)) else(none)) else(nS.l3 k x2 x6 aM aQ aL x8 (x8.length:Int) 0 ap ay aA aC)
def nS.l3:Nat->List Int->List Bool->List (List Int)->Int->Int->List Int->Int->Int->Int->List (S59)->List (S59)->Int->Option (Bool)
 |0,_,_,_,_,_,_,_,_,_,_,_,_=>none
 |k+1,x2,x6,aM,aQ,aL,b9,eH,bv,ap,ay,aA,aC=>if bv<eH then(if 0<=bv then(if bv<(b9.length:Int) then(if 0<=(rd b9 bv) then(if(rd b9 bv)<(x6.length:Int) then(nS.l3 k x2 (x6.set ((rd b9 bv):Int).toNat true) aM aQ aL b9 eH (wrap64 (bv+1)) ap ay aA aC) else(none)) else(none)) else(none)) else(none)) else(nS.l0 k x2 x6 aM aQ (wrap64 (aL+1)) ap ay aA aC)
end
def nS.f (k:Nat) (ag:Int) (ai:List (S59)) (l1:List (List Int)) (l2:List Int):Option (Bool):=(qI.f k ag ai).bind fun bU=>(if bU=true then(nS.j0 k l1 l2 ((l1.length:Int)==0) ag ai) else(nS.j0 k l1 l2 true ag ai))
theorem nS.tC:∀k,(∀y0 y1 y2 y3 y4,LeO (nS.j0 k y0 y1 y2 y3 y4) (nS.j0 (k+1) y0 y1 y2 y3 y4))/\(∀y0 y1 y2 y3 y4 y5 y6 y7 y8,LeO (nS.l0 k y0 y1 y2 y3 y4 y5 y6 y7 y8) (nS.l0 (k+1) y0 y1 y2 y3 y4 y5 y6 y7 y8))/\(∀y0 y1 y2 y3 y4 y5 y6 y7 y8 y9 a4 bn,LeO (nS.j2 k y0 y1 y2 y3 y4 y5 y6 y7 y8 y9 a4 bn) (nS.j2 (k+1) y0 y1 y2 y3 y4 y5 y6 y7 y8 y9 a4 bn))/\(∀y0 y1 y2 y3 y4 y5 y6 y7 y8 y9 a4 bn cX fE,LeO (nS.j3 k y0 y1 y2 y3 y4 y5 y6 y7 y8 y9 a4 bn cX fE) (nS.j3 (k+1) y0 y1 y2 y3 y4 y5 y6 y7 y8 y9 a4 bn cX fE))/\(∀y0 y1 y2 y3 y4 y5 y6 y7 y8 y9 a4,LeO (nS.j4 k y0 y1 y2 y3 y4 y5 y6 y7 y8 y9 a4) (nS.j4 (k+1) y0 y1 y2 y3 y4 y5 y6 y7 y8 y9 a4))/\(∀y0 y1 y2 y3 y4 y5 y6 y7 y8 y9 a4 bn cX,LeO (nS.l1 k y0 y1 y2 y3 y4 y5 y6 y7 y8 y9 a4 bn cX) (nS.l1 (k+1) y0 y1 y2 y3 y4 y5 y6 y7 y8 y9 a4 bn cX))/\(∀y0 y1 y2 y3 y4 y5 y6 y7 y8 y9 a4,LeO (nS.l2 k y0 y1 y2 y3 y4 y5 y6 y7 y8 y9 a4) (nS.l2 (k+1) y0 y1 y2 y3 y4 y5 y6 y7 y8 y9 a4))/\(∀y0 y1 y2 y3 y4 y5 y6 y7 y8 y9 a4 bn,LeO (nS.l3 k y0 y1 y2 y3 y4 y5 y6 y7 y8 y9 a4 bn) (nS.l3 (k+1) y0 y1 y2 y3 y4 y5 y6 y7 y8 y9 a4 bn))
 |0=>⟨fun _ _ _ _ _ r h=>by simp[nS.j0]at h,fun _ _ _ _ _ _ _ _ _ r h=>by simp[nS.l0]at h,fun _ _ _ _ _ _ _ _ _ _ _ _ r h=>by simp[nS.j2]at h,fun _ _ _ _ _ _ _ _ _ _ _ _ _ _ r h=>by simp[nS.j3]at h,fun _ _ _ _ _ _ _ _ _ _ _ r h=>by simp[nS.j4]at h,fun _ _ _ _ _ _ _ _ _ _ _ _ _ r h=>by simp[nS.l1]at h,fun _ _ _ _ _ _ _ _ _ _ _ r h=>by simp[nS.l2]at h,fun _ _ _ _ _ _ _ _ _ _ _ _ r h=>by simp[nS.l3]at h⟩
 |k+1=>by
  obtain⟨cY,cZ,c_,db,dc,dd,de,df⟩:=nS.tC k;refine⟨?_,?_,?_,?_,?_,?_,?_,?_⟩<;>intros
  all_goals first|unfold nS.j0|unfold nS.l0|unfold nS.j2|unfold nS.j3|unfold nS.j4|unfold nS.l1|unfold nS.l2|unfold nS.l3
  repeat' with_reducible first|exact cY _ _ _ _ _|exact cZ _ _ _ _ _ _ _ _ _|exact c_ _ _ _ _ _ _ _ _ _ _ _ _|exact db _ _ _ _ _ _ _ _ _ _ _ _ _ _|exact dc _ _ _ _ _ _ _ _ _ _ _|exact dd _ _ _ _ _ _ _ _ _ _ _ _ _|exact de _ _ _ _ _ _ _ _ _ _ _|exact df _ _ _ _ _ _ _ _ _ _ _ _|exact qI.mono _ _ _|exact qG.mono _ _ _ _|exact r_.mono _ _|exact wQ.mono _ _ _|exact LeO.refl _|exact LeO.none _|refine LeO.ite ?_ ?_|refine LeO.bind ?_ (fun _=>?_)
theorem nS.mono:∀a0 a1 a2 a3 k,LeO (nS.f k a0 a1 a2 a3) (nS.f (k+1) a0 a1 a2 a3):=by
 intro a0 a1 a2 a3 k;obtain⟨cY,cZ,c_,db,dc,dd,de,df⟩:=nS.tC k;unfold nS.f
 repeat' with_reducible first|exact cY _ _ _ _ _|exact cZ _ _ _ _ _ _ _ _ _|exact c_ _ _ _ _ _ _ _ _ _ _ _ _|exact db _ _ _ _ _ _ _ _ _ _ _ _ _ _|exact dc _ _ _ _ _ _ _ _ _ _ _|exact dd _ _ _ _ _ _ _ _ _ _ _ _ _|exact de _ _ _ _ _ _ _ _ _ _ _|exact df _ _ _ _ _ _ _ _ _ _ _ _|exact qI.mono _ _ _|exact qG.mono _ _ _ _|exact r_.mono _ _|exact wQ.mono _ _ _|exact LeO.refl _|exact LeO.none _|refine LeO.ite ?_ ?_|refine LeO.bind ?_ (fun _=>?_)
def nS.T10:Bool×List (List Nat×List Nat):=(true,[([],[]),([0],[0]),([1],[1]),([],[]),([],[]),([4],[4]),([5],[5]),([3,6],[3,6]),([7],[7]),([2,0,1,2],[2]),([8,9,0,1,2,3,4,5,6,7,8,9],[8])])
def nS.B10:List Nat:=[0,1,3,0,0,16,48,120,248,7,1023]
theorem nS.Ee:p_ .any (opsOf Try.f19 10)=nS.T10:=by kernel_rfl
theorem nS.Ea:qQ nS.T10.2 nS.B10=true:=by kernel_rfl
def nS.T29:Bool×List (List Nat×List Nat):=(true,[([],[]),([],[]),([1],[1]),([0,2],[0,2]),([3],[3]),([],[]),([],[]),([5,6],[5,6]),([7],[7]),([4,8],[4,8]),([],[]),([10,9,9,0,1,2,3,4,5,6,7,8,9,10],[9,10])])
def nS.B29:List Nat:=[0,0,2,7,15,0,0,96,224,511,0,2047]
theorem nS.JN:p_ .any (opsOf Try.f19 29)=nS.T29:=by kernel_rfl
theorem nS.Jl:qQ nS.T29.2 nS.B29=true:=by kernel_rfl
theorem nS.calls (k:Nat) (ag:Int) (aN:Option Addr) (aO:Nat) (ai:List (S59)) (A1:Option Addr) (c1:Nat) (l1:List (List Int)) (l2:List Int) (r:Bool) (w:World) (dS:Kd.C k59 w aN ai.length ai) (dT:ai.length<=aO) (hr1:Kd.C (Kd.slice 3 (Kd.int .i64)) w A1 l1.length l1) (fF:l1.length<=c1) (h:nS.f k ag ai l1 l2=some r):
  Calls Try.prog 19 #[.agg #[.int .i64 ag,.slice aN ai.length aO],.slice A1 l1.length c1] w fun e w'=>e=.returned (.bool r)/\Below w.heap.size w w':=by
 have iU:=Try.underlying31;have iV:=Try.underlying59;have cw:=dm dS;have cx:=dm dT;clear dS dT;have gH:=dm hr1;have jc:=dm fF;clear hr1 fF;have HB:=dm (Below.refl w.heap.size w);unfold nS.f at h;have H:=h;clear h;have eI:=dm H;clear H
 go_enter Try.func19,Try.ntmps19
 go_upto_region 1 with(first|((with_reducible refine nP 2 rfl ?_);(try(refine rM (by rfl) ?_;dsimp only));refine om 2 #[.int .i64 ag,.slice aN ai.length aO] 31 ?_;intro az hg w5 nu hb;have ab:=dm (nu);have hX:=dm (xn:w.heap.size<=az);have hY:=dm (xn:w.heap.size<=az);replace HB:=nJ HB hb;clear hb nu hg))
 (try simp only [Act.put,List.setIfInBounds_toArray,List.set_cons_zero,List.set_cons_succ])
 go_cut [25] (fun gI wc=>∃ (kq:Nat) (bZ:Bool),gI=.bool bZ/\lm (nS.j0 kq l1 l2 bZ ag ai=some r)/\lm (kq<=k)/\lm (wc.heap[az]? =some (.cells #[.int .i64 ag,(.slice aN ai.length aO)] 31 (0,0)))/\lm (Below w.heap.size w wc))
 case first=>
  have H:=eI.out;clear eI;obtain⟨bU,A6,H⟩:=ol H;(try dsimp only at H)
  rcases pJ H with⟨h_,H_⟩|⟨h_,H_⟩<;> (subst h_;clear H;have H:=H_;clear H_)
  ·have H':=dm H;clear H;have⟨gJ,gK,gM,gN⟩:=nK (w:=w5) ab
   go_wp2_with (first|((with_reducible refine wZ (f:=50) rfl ?_);refine wV (some 19) rfl rfl Try.func50 (tQ) rfl #[.agg #[.int .i64 ag,.slice aN ai.length aO]] rfl (yS) ?_;(with_reducible refine(qI.calls k ag _ _ ai true _ ?ng ?ni A6.out).mono ?_);(case ng=>exact nO (nT cw.out HB.out));(case ni=>exact cx.out);rintro e w9 ⟨rfl,hb⟩;refine⟨_,rfl,?_⟩;replace ab:=nA ab hb;replace HB:=nJ HB hb;(try clear hb)))
   go_meet
   case rel=>exact⟨_,(((l1.length:Int)==0)),(wo),H',⟨by first|omega|exact Nat.le_refl _⟩,⟨nG ab.out⟩,⟨nC HB.out⟩⟩
  ·have H':=dm H;clear H;have⟨f3,f4,f5,f6⟩:=nK (w:=w5) ab
   go_wp2_with (first|((with_reducible refine wZ (f:=50) rfl ?_);refine wV (some 19) rfl rfl Try.func50 (tQ) rfl #[.agg #[.int .i64 ag,.slice aN ai.length aO]] rfl (yS) ?_;(with_reducible refine(qI.calls k ag _ _ ai false _ ?ng ?ni A6.out).mono ?_);(case ng=>exact nO (nT cw.out HB.out));(case ni=>exact cx.out);rintro e jd ⟨rfl,hb⟩;refine⟨_,rfl,?_⟩;replace ab:=nA ab hb;replace HB:=nJ HB hb;(try clear hb)))
   go_meet
   case rel=>exact⟨_,(true),(wo),H',⟨by first|omega|exact Nat.le_refl _⟩,⟨nG ab.out⟩,⟨nC HB.out⟩⟩
 case rest=>
  clear eI;obtain⟨kq,bZ,rfl,HA,bl,ab,HB⟩:=hcut;cases kq with
  |zero=>exact absurd HA.out (by simp[nS.j0])
  |succ dU=>
   have H:=HA.out;clear HA;simp only [nS.j0]at H
   rcases pJ H with⟨h_,H_⟩|⟨h_,H_⟩<;> (subst h_;clear H;have H:=H_;clear H_)
   ·obtain rfl:=Option.some.inj H
    go_wp2
    go_ret
    exact⟨Ez,nC HB.out⟩
   ·skip
    obtain⟨dh,H⟩:=qd H;have eU:=eq_true dh;have eV:=decide_eq_true dh;clear dh
    obtain⟨di,H⟩:=qd H;have eW:=eq_true di;have eX:=decide_eq_true di;clear di;obtain⟨eJ,bL⟩:∃y_:List Bool,y_=(List.replicate (ag:Int).toNat false):=⟨_,rfl⟩;replace H:(nS.l0 dU l2 eJ l1 (l1.length:Int) 0 ag ai [] 0)=some r:=pE bL H
    have dV:=dm bL;clear bL;have H':=dm H;clear H
    go_wp2_with (first|((with_reducible refine nP 26 rfl ?_);refine JK 26 ?_;intro ax hg gO nu hb;have ac:=dm (nu);have hZ:=dm (xn:w.heap.size<=ax);have eY:=dm (xn:w.heap.size<=ax);replace HB:=nJ HB hb;have aR:=dm (Cs:az≠ax);have aU:=dm (CL:ax≠az);replace ab:=nA ab hb;clear hb nu hg;have ia:=aR.out;have ib:=aU.out;have⟨ez,eA,eB,eC⟩:=nK (w:=gO) ab)|((with_reducible refine nP 29 rfl ?_);(try(refine rM (by rfl) ?_;dsimp only));refine Jw Kd.bool _ 4 rfl (N:=29) rfl 54 _ _ rfl ag rfl rfl Try.underlying54 (.bool false) 1 J5 rfl (by decide) (by omega) false (ok:=fun _=>True) (okp:=fun _=>True) rfl (fun _ hk=>hk) trivial nD (Nat.le_trans (Nat.mul_le_mul_right _ (of_decide_eq_true (uh):ag.toNat<=281474976710656)) (by omega)) (Below.refl _ _) (Nat.le_refl _) ?_;intro a7 je cd hb hg_ pq;clear hg_ pq;(first|rw[←dV.out]at cd|(simp only [Int.reduceToNat]at cd;rw[←dV.out]at cd));have eZ:=dm (oF cd (nX (nC HB.out)));replace ab:=nA ab hb;replace ac:=nA ac hb;replace HB:=nJ HB hb;clear hb cd))
    go_loopg [32] dU (fun kq gP w'=>∃ (aj:List Bool) (aa:Int) (af:List (S59)),gP=.int .i64 aa/\lm (nS.l0 kq l2 aj l1 (l1.length:Int) aa ag ai af 0=some r)/\lm (kq<=dU)/\lm (Kd.R Kd.bool 4 w' w.heap.size (fun _=>True) a7 aj)/\lm (w'.heap[az]? =some (.cells #[.int .i64 ag,(.slice aN ai.length aO)] 31 (0,0)))/\lm (w'.heap[ax]? =some (qB af))/\lm (Below w.heap.size w w'))
    case atStart=>exact⟨(eJ),(0),[],(wo),H',⟨Nat.le_refl _⟩,⟨nH eZ.out⟩,⟨nG ab.out⟩,⟨nG ac.out⟩,⟨nC HB.out⟩⟩
    case round=>
     clear H';(try clear dg eU eV eW eX ez eA eB eC);obtain⟨aj,aa,af,rfl,HA,bm,ae,ab,ac,HB⟩:=hrel;cases gk with
     |zero=>exact absurd HA.out (by simp[nS.l0])
     |succ k2=>
      have H:=HA.out;clear HA;simp only [nS.l0]at H
      by_cases ck:aa<(l1.length:Int)
      ·rw[if_pos ck]at H;have dW:=decide_eq_true ck;clear ck
       obtain⟨e2,H⟩:=oz H
       obtain⟨e3,H⟩:=oz H;have dE:=dm H;clear H;have cy:0<=(aa:Int):=nD;have cz:aa<(l1.length:Int):=nD;obtain⟨ic,gQ,bM,fI,bV,cl,cm⟩:=rH gH.out aa cy cz;cases fI;replace bV:=nE HB bV;have aP:=dm cm;have bW:=dm cl;clear cm cl;replace cy:=eq_true cy;replace cz:=eq_true cz
       go_upto_region 8 with(fail)
       go_cut [45] (fun gR wc=>∃ (kq:Nat) (bN:Bool),gR=.bool bN/\lm (nS.j2 kq l2 aj aa (nI l1 aa) l1 (l1.length:Int) aa bN ag ai af 0=some r)/\lm (kq<=k2)/\lm (Kd.R Kd.bool 4 wc w.heap.size (fun _=>True) a7 aj)/\lm (wc.heap[az]? =some (.cells #[.int .i64 ag,(.slice aN ai.length aO)] 31 (0,0)))/\lm (wc.heap[ax]? =some (qB af))/\lm (Below w.heap.size w wc))
       case first=>
        have H:=dE.out;clear dE
        by_cases cn:((nI l1 aa).length:Int)<2
        ·rw[if_pos cn]at H;have bO:=decide_eq_true cn;have e4:decide ((nI l1 aa).length<2)=true:=decide_eq_true (by omega);clear cn;(first|rw[bO]|(simp only [qA,rz];rw[bO])|skip);have H':=dm H;clear H
         go_wp2
         go_meet
         case rel=>exact⟨_,(true),(wo),H',⟨by have:=bl.out;have:=bm.out;first|omega|exact Nat.le_refl _⟩,⟨nH ae.out⟩,⟨nG ab.out⟩,⟨nG ac.out⟩,⟨nC HB.out⟩⟩
        ·rw[if_neg cn]at H;have bO:=decide_eq_false cn;have e4:decide ((nI l1 aa).length<2)=false:=decide_eq_false (by omega);clear cn;(first|rw[bO]|(simp only [qA,rz];rw[bO])|skip);obtain⟨b6,gS,H⟩:=ol H;(try dsimp only at H);have H':=dm H;clear H;have ie:=aR.out;have ig:=aU.out;have⟨f7,f8,f9,f_⟩:=nK (w:=wr) ab
         go_wp2_with (first|(go_at_call 51;(with_reducible refine(qG.calls k2 ag _ _ ai _ _ (nI l1 aa) b6 _ ?ng ?ni ?sF ?sN gS.out).mono ?_);(case ng=>exact nO (nT cw.out HB.out));(case ni=>exact cx.out);(case sF=>exact nO (nT aP.out HB.out));(case sN=>exact bW.out);rintro e jf ⟨rfl,hb⟩;replace ae:=ou ae hb;replace ab:=nA ab hb;replace ac:=nA ac hb;replace HB:=nJ HB hb;(try clear hb)))
         go_meet
         case rel=>exact⟨_,(!b6),(wo),H',⟨by have:=bl.out;have:=bm.out;first|omega|exact Nat.le_refl _⟩,⟨nH ae.out⟩,⟨nG ab.out⟩,⟨nG ac.out⟩,⟨nC HB.out⟩⟩
       case rest=>
        clear dE;(try clear dW e2 e3 bV cy cz);obtain⟨kq,bN,rfl,HA,ba,ae,ab,ac,HB⟩:=hcut;cases kq with
        |zero=>exact absurd HA.out (by simp[nS.j2])
        |succ a8=>
         have H:=HA.out;clear HA;simp only [nS.j2]at H
         rcases pJ H with⟨h_,H_⟩|⟨h_,H_⟩<;> (subst h_;clear H;have H:=H_;clear H_)
         ·obtain rfl:=Option.some.inj H
          go_wp2
          go_ret
          exact⟨Ez,nC HB.out⟩
         ·skip
          obtain⟨dZ,H⟩:=qd H;have e5:=decide_eq_true dZ;have e6:decide (0<(nI l1 aa).length)=true:=decide_eq_true (by omega);clear dZ;obtain⟨au,aZ⟩:∃j_:Int,(wrap64 (((nI l1 aa).length:Int) - 1))=j_:=⟨_,rfl⟩;replace H:(if 0<=(au) then(if(au)<((nI l1 aa).length:Int) then(if(rd (nI l1 aa) 0)=(rd (nI l1 aa) (au)) then(if((nI l1 aa).length:Int)<4 then(nS.j3 a8 l2 aj aa (nI l1 aa) (rd (nI l1 aa) 0) (rd (nI l1 aa) (au)) l1 (l1.length:Int) aa true ag ai af 0) else(if aa=0 then(nS.j3 a8 l2 aj aa (nI l1 aa) (rd (nI l1 aa) 0) (rd (nI l1 aa) (au)) l1 (l1.length:Int) aa ((rd (nI l1 aa) 0) !=(rd (nI l1 aa) (au))) ag ai af 0) else(nS.j3 a8 l2 aj aa (nI l1 aa) (rd (nI l1 aa) 0) (rd (nI l1 aa) (au)) l1 (l1.length:Int) aa false ag ai af 0))) else(if aa=0 then(nS.j3 a8 l2 aj aa (nI l1 aa) (rd (nI l1 aa) 0) (rd (nI l1 aa) (au)) l1 (l1.length:Int) aa ((rd (nI l1 aa) 0) !=(rd (nI l1 aa) (au))) ag ai af 0) else(nS.j3 a8 l2 aj aa (nI l1 aa) (rd (nI l1 aa) 0) (rd (nI l1 aa) (au)) l1 (l1.length:Int) aa false ag ai af 0))) else(none)) else(none))=some r:=by first|(rw[aZ]at H;exact H)|(simp only [aZ]at H⊢;exact H)
          have gT:(IntKind.i64.wrap (((nI l1 aa).length:Int) - 1))=au:=(qA _).trans aZ
          obtain⟨e7,H⟩:=oz H
          obtain⟨e8,H⟩:=oz H;have dF:=dm H;clear H;try go_wp2
          replace ae:=dm (nN ae.out);replace ab:=dm (nV ab.out);replace ac:=dm (nV ac.out);replace HB:=dm (o9 HB.out);have cA:0<=(0:Int):=(by omega);have cD:0<((nI l1 aa).length:Int):=nD;obtain⟨aK,fJ,aX⟩:=oG aP.out 0 cA cD;have bp:=aX;(try rw[show((0:Int)).toNat=0 from rfl]at bp);(try rw[show 0*1=0 from rfl]at bp);(try rw[Addr.add_zero']at bp);cases fJ;have ii:(0<(nI l1 aa).length)=True:=eq_true (by omega);(try rw[show((0:Int)).toNat=0 from rfl]at aX);(try rw[Addr.add_zero']at aX);replace aX:=nE HB aX;replace cA:=eq_true cA;replace cD:=eq_true cD;have cE:0<=((au):Int):=nD;have cF:(au)<((nI l1 aa).length:Int):=nD;obtain⟨e9,fK,bd⟩:=oG aP.out (au) cE cF;have eD:=bd;obtain rfl:aK=e9:=(by injection fK);replace bd:=nE HB bd;replace cE:=eq_true cE;replace cF:=eq_true cF;refine Ab (n:=11) (S:=fun w'=>w'.cell? aK=some (.int .i64 (rd (nI l1 aa) 0))/\w'.cell? (aK.add ((au)).toNat)=some (.int .i64 (rd (nI l1 aa) (au)))) (ds:=[]) (pg 11 0) (tQ) rfl (tQ) ⟨(nE HB bp),(nE HB eD)⟩ (fun hHeld=>?_);refine Di nS.Ee nS.Ea (fun HT_ HW_=>?_);generalize wc.drew=jg at ae ab ac HB aX bd hHeld⊢;refine lq 0 46 1 ?_;refine lq 1 47 3 ?_;refine lq 3 49 11 ?_;refine lq 4 50 27 ?_;refine lq 5 51 59 ?_;refine lq 6 52 123 ?_;refine lq 7 53 251 ?_;refine qZ 2 48 255 ?_;refine lq 9 9 767 ?_;refine qZ 8 54 1023 ?_;refine lq 10 10 2047 ?_;refine pM (pQ HT_.out (tQ)) ?_
          go_upto_region 11 with(fail)
          go_cut [71] (fun gU wc=>∃ (kq:Nat) (bP:Bool),gU=.bool bP/\lm (nS.j3 kq l2 aj aa (nI l1 aa) (rd (nI l1 aa) 0) (rd (nI l1 aa) (au)) l1 (l1.length:Int) aa bP ag ai af 0=some r)/\lm (kq<=a8)/\lm (Kd.R Kd.bool 4 wc w.heap.size (fun _=>True) a7 aj)/\lm (wc.heap[az]? =some (.cells #[.int .i64 ag,(.slice aN ai.length aO)] 31 (0,0)))/\lm (wc.heap[ax]? =some (qB af))/\lm (Below w.heap.size w wc))
          case first=>
           have H:=dF.out;clear dF
           by_cases ce:(rd (nI l1 aa) 0)=(rd (nI l1 aa) (au))
           ·rw[if_pos ce]at H;have bQ:=beq_iff_eq.mpr ce;have fa:=bne_eq_false_iff_eq.mpr ce;clear ce;(first|rw[bQ]|(simp only [qA,rz];rw[bQ])|skip)
            by_cases co:((nI l1 aa).length:Int)<4
            ·rw[if_pos co]at H;have fb:=decide_eq_true co;have fc:decide ((nI l1 aa).length<4)=true:=decide_eq_true (by omega);clear co;have H':=dm H;clear H
             go_wp2
             go_meet
             case rel=>exact⟨_,(true),(wo),H',⟨CK⟩,⟨nH ae.out⟩,⟨nG ab.out⟩,⟨nG ac.out⟩,⟨nC HB.out⟩⟩
            ·rw[if_neg co]at H;have fb:=decide_eq_false co;have fc:decide ((nI l1 aa).length<4)=false:=decide_eq_false (by omega);clear co
             by_cases cf:aa=0
             ·rw[if_pos cf]at H;have fd:=beq_iff_eq.mpr cf;have fe:=bne_eq_false_iff_eq.mpr cf;clear cf;have H':=dm H;clear H
              go_wp2
              go_meet
              case rel=>exact⟨_,(((rd (nI l1 aa) 0) !=(rd (nI l1 aa) (au)))),(by first|rfl|(simp;done)|(simp[*];done)|(simp only [←aZ];done)|(simp[bne, *];done)),H',⟨CK⟩,⟨nH ae.out⟩,⟨nG ab.out⟩,⟨nG ac.out⟩,⟨nC HB.out⟩⟩
             ·rw[if_neg cf]at H;have fd:=beq_eq_false_iff_ne.mpr cf;have fe:=bne_iff_ne.mpr cf;have H':=dm H;clear H
              go_wp2
              go_meet
              case rel=>exact⟨_,(false),(wo),H',⟨CK⟩,⟨nH ae.out⟩,⟨nG ab.out⟩,⟨nG ac.out⟩,⟨nC HB.out⟩⟩
           ·rw[if_neg ce]at H;have bQ:=beq_eq_false_iff_ne.mpr ce;have fa:=bne_iff_ne.mpr ce;(first|rw[bQ]|(simp only [qA,rz];rw[bQ])|skip)
            by_cases cg:aa=0
            ·rw[if_pos cg]at H;have ff:=beq_iff_eq.mpr cg;have fg:=bne_eq_false_iff_eq.mpr cg;clear cg;have H':=dm H;clear H
             go_wp2
             go_meet
             case rel=>exact⟨_,(((rd (nI l1 aa) 0) !=(rd (nI l1 aa) (au)))),(by first|rfl|(simp;done)|(simp[*];done)|(simp only [←aZ];done)|(simp[bne, *];done)),H',⟨CK⟩,⟨nH ae.out⟩,⟨nG ab.out⟩,⟨nG ac.out⟩,⟨nC HB.out⟩⟩
            ·rw[if_neg cg]at H;have ff:=beq_eq_false_iff_ne.mpr cg;have fg:=bne_iff_ne.mpr cg;have H':=dm H;clear H
             go_wp2
             go_meet
             case rel=>exact⟨_,(false),(wo),H',⟨CK⟩,⟨nH ae.out⟩,⟨nG ab.out⟩,⟨nG ac.out⟩,⟨nC HB.out⟩⟩
          case rest=>
           clear dF;(try clear dj e5 e6 e7 e8 aX bd cA cE cD cF);obtain⟨kq,bP,rfl,HA,bj,ae,ab,ac,HB⟩:=hcut;cases kq with
           |zero=>exact absurd HA.out (by simp[nS.j3])
           |succ bx=>
            have H:=HA.out;clear HA;simp only [nS.j3]at H
            rcases pJ H with⟨h_,H_⟩|⟨h_,H_⟩<;> (subst h_;clear H;have H:=H_;clear H_)
            ·obtain rfl:=Option.some.inj H
             go_wp2
             go_ret
             exact⟨Ct,nC HB.out⟩
            ·skip
             obtain⟨dl,H⟩:=qd H;have fh:=eq_true dl;have fi:=decide_eq_true dl;clear dl
             obtain⟨dn,H⟩:=qd H;have fj:=eq_true dn;have fk:=decide_eq_true dn;clear dn;have dG:=dm H;clear H;obtain⟨iW,d9,_,d_,_⟩:=info_parts info3;obtain⟨gV,eK,eL,eM⟩:=LW (P:=Try.prog) (Value.int .i64) 0 45 3 .i64 .i64 Try.underlying45 d9 d_ (some aK) bM (nI l1 aa) 1 (wrap64 (((nI l1 aa).length:Int) - 1)) (by omega) (by first|omega|exact of_decide_eq_true (uh)) nD bW.out;simp only [aZ]at eK;have fm:=dm (zR (h1:=fun _=>rfl) (eL _ (yV aP.out)));have fo:=dm eM;clear eL eM d9 d_
             go_upto_if 78 with(fail)
             go_cut [11] (fun gW wc=>∃ (kq:Nat) (ak:List Int) (A2:Option Addr) (c2:Nat),gW=.slice A2 ak.length c2/\lm (Kd.C (Kd.int .i64) w A2 ak.length ak)/\lm (ak.length<=c2)/\lm (nS.j4 kq l2 aj (nI l1 aa) ak l1 (l1.length:Int) aa ag ai af 0=some r)/\lm (kq<=bx)/\lm (Kd.R Kd.bool 4 wc w.heap.size (fun _=>True) a7 aj)/\lm (wc.heap[az]? =some (.cells #[.int .i64 ag,(.slice aN ai.length aO)] 31 (0,0)))/\lm (wc.heap[ax]? =some (qB af))/\lm (Below w.heap.size w wc))
             case first=>
              have H:=dG.out;clear dG
              by_cases ch:aa=0
              ·rw[if_pos ch]at H;have bR:=beq_iff_eq.mpr ch;have fp:=bne_eq_false_iff_eq.mpr ch;clear ch;(first|rw[bR]|(simp only [qA,rz];rw[bR])|skip)
               obtain⟨dq,H⟩:=qd H;have ij:=eq_true dq;have ik:=decide_eq_true dq;clear dq;have H':=dm H;clear H;obtain⟨iX,ea,_,eb,_⟩:=info_parts info3;obtain⟨gX,gY,eN,eO⟩:=Lr (P:=Try.prog) (Value.int .i64) 0 45 3 .i64 Try.underlying45 ea eb (some aK) bM (nI l1 aa) 1 (by omega) nD bW.out;have fq:=dm (zR (h1:=fun _=>rfl) (eN _ (yV aP.out)));have ft:=dm eO;clear eN eO ea eb
               go_wp2
               go_meet
               case rel=>exact⟨_,((nI l1 aa).drop 1),gX,bM - 1,(by first|rfl|(simp[List.length_drop,List.length_take];done)|(simp[List.length_drop,List.length_take,←aZ];done)),fq,ft,H',⟨by have:=bl.out;have:=bm.out;have:=ba.out;have:=bj.out;first|omega|exact Nat.le_refl _⟩,⟨nH ae.out⟩,⟨nG ab.out⟩,⟨nG ac.out⟩,⟨nC HB.out⟩⟩
              ·rw[if_neg ch]at H;have bR:=beq_eq_false_iff_ne.mpr ch;have fp:=bne_iff_ne.mpr ch;(first|rw[bR]|(simp only [qA,rz];rw[bR])|skip)
               obtain⟨il,H⟩:=oz H
               obtain⟨im,H⟩:=oz H;obtain⟨eP,cG⟩:∃b_:Bool,b_=(qc false aj (rd (nI l1 aa) 0)):=⟨_,rfl⟩;replace H:(if eP=true then(if 0<=(rd (nI l1 aa) (au)) then(if(rd (nI l1 aa) (au))<(aj.length:Int) then(if qc false aj (rd (nI l1 aa) (au))=true then(nS.j4 bx l2 aj (nI l1 aa) (((nI l1 aa).take (wrap64 (((nI l1 aa).length:Int) - 1)).toNat).drop 1) l1 (l1.length:Int) aa ag ai af 0) else(some false)) else(none)) else(none)) else(some false))=some r:=by rw[←cG]at H;exact H
               have bS:=dm cG;clear cG
               rcases pJ H with⟨h_,H_⟩|⟨h_,H_⟩<;> (subst h_;clear H;have H:=H_;clear H_)
               ·skip
                obtain⟨io,H⟩:=oz H
                obtain⟨iq,H⟩:=oz H;obtain⟨eQ,cH⟩:∃b_:Bool,b_=(qc false aj (rd (nI l1 aa) (au))):=⟨_,rfl⟩;replace H:(if eQ=true then(nS.j4 bx l2 aj (nI l1 aa) (((nI l1 aa).take (wrap64 (((nI l1 aa).length:Int) - 1)).toNat).drop 1) l1 (l1.length:Int) aa ag ai af 0) else(some false))=some r:=by rw[←cH]at H;exact H
                have b3:=dm cH;clear cH
                rcases pJ H with⟨h_,H_⟩|⟨h_,H_⟩<;> (subst h_;clear H;have H:=H_;clear H_)
                ·have H':=dm H;clear H;obtain⟨iY,iZ,fL⟩:=nW ae.out;subst fL;have a9:0<=((rd (nI l1 aa) 0):Int):=nD;have a_:(rd (nI l1 aa) 0)<(aj.length:Int):=nD;obtain⟨b4,ci,aY⟩:=wU (nM ae.out).2.2 (rd (nI l1 aa) 0) a9 a_;(try rw[←bS.out]at aY);(try rw[←b3.out]at aY);cases ci;replace a9:=eq_true a9;replace a_:=eq_true a_;have bz:0<=((rd (nI l1 aa) (au)):Int):=nD;have bA:(rd (nI l1 aa) (au))<(aj.length:Int):=nD;obtain⟨cI,dH,bf⟩:=wU (nM ae.out).2.2 (rd (nI l1 aa) (au)) bz bA;(try rw[←bS.out]at bf);(try rw[←b3.out]at bf);obtain rfl:b4=cI:=(by injection dH);replace bz:=eq_true bz;replace bA:=eq_true bA
                 go_wp2
                 go_meet
                 case rel=>exact⟨_,(((nI l1 aa).take (wrap64 (((nI l1 aa).length:Int) - 1)).toNat).drop 1),gV,bM - 1,(by first|rfl|(simp[List.length_drop,List.length_take];done)|(simp[List.length_drop,List.length_take,←aZ];done)),fm,fo,H',⟨by have:=bl.out;have:=bm.out;have:=ba.out;have:=bj.out;first|omega|exact Nat.le_refl _⟩,⟨nH ae.out⟩,⟨nG ab.out⟩,⟨nG ac.out⟩,⟨nC HB.out⟩⟩
                ·obtain rfl:=Option.some.inj H;obtain⟨i1,i2,fM⟩:=nW ae.out;subst fM;have a9:0<=((rd (nI l1 aa) 0):Int):=nD;have a_:(rd (nI l1 aa) 0)<(aj.length:Int):=nD;obtain⟨b4,ci,aY⟩:=wU (nM ae.out).2.2 (rd (nI l1 aa) 0) a9 a_;(try rw[←bS.out]at aY);(try rw[←b3.out]at aY);cases ci;replace a9:=eq_true a9;replace a_:=eq_true a_;have bz:0<=((rd (nI l1 aa) (au)):Int):=nD;have bA:(rd (nI l1 aa) (au))<(aj.length:Int):=nD;obtain⟨cI,dH,bf⟩:=wU (nM ae.out).2.2 (rd (nI l1 aa) (au)) bz bA;(try rw[←bS.out]at bf);(try rw[←b3.out]at bf);obtain rfl:b4=cI:=(by injection dH);replace bz:=eq_true bz;replace bA:=eq_true bA
                 go_wp2
                 go_ret
                 exact⟨Ct,nC HB.out⟩
               ·obtain rfl:=Option.some.inj H;obtain⟨i3,i4,fN⟩:=nW ae.out;subst fN;have a9:0<=((rd (nI l1 aa) 0):Int):=nD;have a_:(rd (nI l1 aa) 0)<(aj.length:Int):=nD;obtain⟨b4,ci,aY⟩:=wU (nM ae.out).2.2 (rd (nI l1 aa) 0) a9 a_;(try rw[←bS.out]at aY);cases ci;replace a9:=eq_true a9;replace a_:=eq_true a_
                go_wp2
                go_ret
                exact⟨Ct,nC HB.out⟩
             case rest=>
              clear dG;(try clear dk fh fi fj fk);obtain⟨kq,ak,A2,c2,rfl,ei,fG,HA,bu,ae,ab,ac,HB⟩:=hcut;cases kq with
              |zero=>exact absurd HA.out (by simp[nS.j4])
              |succ bX=>
               have H:=HA.out;clear HA;simp only [nS.j4]at H;obtain⟨cv,fH,H⟩:=ol H;(try dsimp only at H)
               rcases pJ H with⟨h_,H_⟩|⟨h_,H_⟩<;> (subst h_;clear H;have H:=H_;clear H_)
               ·have H':=dm H;clear H
                go_wp2_with (first|((with_reducible refine wZ (f:=52) rfl ?_);refine wV (some 94) rfl rfl Try.func52 (tQ) rfl #[.slice A2 ak.length c2] rfl (yS) ?_;(with_reducible refine(r_.calls bX _ _ ak true _ ?ng ?ni fH.out).mono ?_);(case ng=>exact nO (nT ei.out HB.out));(case ni=>exact fG.out);rintro e w' ⟨rfl,⟨nd,rfl⟩⟩;refine⟨_,rfl,?_⟩))
                go_loopg [98] bX (fun kq gZ w'=>∃ (aE:Int),gZ=.int .i64 aE/\lm (nS.l1 kq l2 aj (nI l1 aa) l1 (l1.length:Int) aa ak (ak.length:Int) aE ag ai af 0=some r)/\lm (kq<=bX)/\lm (Kd.R Kd.bool 4 w' w.heap.size (fun _=>True) a7 aj)/\lm (w'.heap[az]? =some (.cells #[.int .i64 ag,(.slice aN ai.length aO)] 31 (0,0)))/\lm (w'.heap[ax]? =some (qB af))/\lm (Below w.heap.size w w'))
                case atStart=>exact⟨(0),(wo),H',⟨Nat.le_refl _⟩,⟨nH ae.out⟩,⟨nG ab.out⟩,⟨nG ac.out⟩,⟨nC HB.out⟩⟩
                case round=>
                 clear H';(try clear c2 dr);obtain⟨aE,rfl,HA,b5,ae,ab,ac,HB⟩:=hrel;cases gk with
                 |zero=>exact absurd HA.out (by simp[nS.l1])
                 |succ k6=>
                  have H:=HA.out;clear HA;simp only [nS.l1]at H
                  by_cases cp:aE<(ak.length:Int)
                  ·rw[if_pos cp]at H;have ej:=decide_eq_true cp;clear cp
                   obtain⟨ir,H⟩:=oz H
                   obtain⟨iu,H⟩:=oz H
                   obtain⟨iv,H⟩:=oz H
                   obtain⟨iw,H⟩:=oz H;obtain⟨eR,cJ⟩:∃b_:Bool,b_=(qc false aj (rd ak aE)):=⟨_,rfl⟩;replace H:(if eR=true then(some false) else(nS.l1 k6 l2 aj (nI l1 aa) l1 (l1.length:Int) aa ak (ak.length:Int) (wrap64 (aE+1)) ag ai af 0))=some r:=by rw[←cJ]at H;exact H
                   have eo:=dm cJ;clear cJ
                   rcases pJ H with⟨h_,H_⟩|⟨h_,H_⟩<;> (subst h_;clear H;have H:=H_;clear H_)
                   ·obtain rfl:=Option.some.inj H;have bB:0<=(aE:Int):=nD;have bC:aE<(ak.length:Int):=nD;obtain⟨fu,dI,bh⟩:=oG ei.out aE bB bC;cases dI;replace bh:=nE HB bh;replace bB:=eq_true bB;replace bC:=eq_true bC;obtain⟨i5,i6,fO⟩:=nW ae.out;subst fO;have bD:0<=((rd ak aE):Int):=nD;have bE:(rd ak aE)<(aj.length:Int):=nD;obtain⟨fv,dJ,bY⟩:=wU (nM ae.out).2.2 (rd ak aE) bD bE;(try rw[←eo.out]at bY);cases dJ;replace bD:=eq_true bD;replace bE:=eq_true bE
                    go_wp2
                    go_ret
                    exact⟨Ct,nC HB.out⟩
                   ·have H':=dm H;clear H;have bB:0<=(aE:Int):=nD;have bC:aE<(ak.length:Int):=nD;obtain⟨fu,dI,bh⟩:=oG ei.out aE bB bC;cases dI;replace bh:=nE HB bh;replace bB:=eq_true bB;replace bC:=eq_true bC;obtain⟨i7,i8,fP⟩:=nW ae.out;subst fP;have bD:0<=((rd ak aE):Int):=nD;have bE:(rd ak aE)<(aj.length:Int):=nD;obtain⟨fv,dJ,bY⟩:=wU (nM ae.out).2.2 (rd ak aE) bD bE;(try rw[←eo.out]at bY);cases dJ;replace bD:=eq_true bD;replace bE:=eq_true bE
                    go_wp2
                    go_roundg k6
                    case measure=>have:=bl.out;have:=bm.out;have:=ba.out;have:=bj.out;have:=bu.out;have:=b5.out;omega
                    case rel=>exact⟨(wrap64 (aE+1)),(wo),H',⟨by have:=bl.out;have:=bm.out;have:=ba.out;have:=bj.out;have:=bu.out;have:=b5.out;omega⟩,⟨nH ae.out⟩,⟨nG ab.out⟩,⟨nG ac.out⟩,⟨nC HB.out⟩⟩
                  ·rw[if_neg cp]at H;have ej:=decide_eq_false cp;clear cp;have H':=dm H;clear H
                   go_wp2
                   go_loopg [14] k6 (fun kq g0 w'=>∃ (al:Int) (ao:List (S59)),g0=.int .i64 al/\lm (nS.l2 kq l2 aj (nI l1 aa) al l1 (l1.length:Int) aa ag ai ao 0=some r)/\lm (kq<=k6)/\lm (Kd.R Kd.bool 4 w' w.heap.size (fun _=>True) a7 aj)/\lm (w'.heap[az]? =some (.cells #[.int .i64 ag,(.slice aN ai.length aO)] 31 (0,0)))/\lm (w'.heap[ax]? =some (qB ao))/\lm (Below w.heap.size w w'))
                   case atStart=>exact⟨(1),(af),(wo),H',⟨Nat.le_refl _⟩,⟨nH ae.out⟩,⟨nG ab.out⟩,⟨nG ac.out⟩,⟨nC HB.out⟩⟩
                   case round=>
                    clear H';(try clear ej);obtain⟨al,ao,rfl,HA,cU,ae,ab,ac,HB⟩:=hrel;cases gk with
                    |zero=>exact absurd HA.out (by simp[nS.l2])
                    |succ k7=>
                     have H:=HA.out;clear HA;simp only [nS.l2]at H
                     by_cases cq:al<((nI l1 aa).length:Int)
                     ·rw[if_pos cq]at H;have eq:=decide_eq_true cq;clear cq;obtain⟨aH,bK⟩:∃j_:Int,(wrap64 (al - 1))=j_:=⟨_,rfl⟩;replace H:(if 0<=(aH) then(if(aH)<((nI l1 aa).length:Int) then(if 0<=al then((vW.f (rd (nI l1 aa) (aH)) (rd (nI l1 aa) al)).bind fun a5=>(if rZ ao a5.1 a5.2=true then(some false) else(nS.l2 k7 l2 aj (nI l1 aa) (wrap64 (al+1)) l1 (l1.length:Int) aa ag ai (ao++[⟨a5.1,a5.2⟩]) 0))) else(none)) else(none)) else(none))=some r:=by first|(rw[bK]at H;exact H)|(simp only [bK]at H⊢;exact H)
                      have g2:(IntKind.i64.wrap (al - 1))=aH:=(qA _).trans bK
                      obtain⟨ix,H⟩:=oz H
                      obtain⟨iy,H⟩:=oz H
                      obtain⟨iz,H⟩:=oz H;obtain⟨⟨aV,aW⟩,ev,H⟩:=ol H;(try dsimp only at H)
                      by_cases dt:rZ ao aV aW=true
                      ·rw[if_pos dt]at H;obtain rfl:=Option.some.inj H;try go_wp2
                       replace ae:=dm (nN ae.out);replace ab:=dm (nV ab.out);replace ac:=dm (nV ac.out);replace HB:=dm (o9 HB.out);have bF:0<=((aH):Int):=nD;have bG:(aH)<((nI l1 aa).length:Int):=nD;obtain⟨cL,dK,aS⟩:=oG aP.out (aH) bF bG;have av:=aS;obtain rfl:aK=cL:=(by injection dK);replace aS:=nE HB aS;replace bF:=eq_true bF;replace bG:=eq_true bG;have bH:0<=(al:Int):=nD;have bI:al<((nI l1 aa).length:Int):=nD;obtain⟨cM,dL,aT⟩:=oG aP.out al bH bI;have aw:=aT;obtain rfl:aK=cM:=(by injection dL);replace aT:=nE HB aT;replace bH:=eq_true bH;replace bI:=eq_true bI;refine Ab (n:=12) (S:=fun w'=>w'.cell? (aK.add ((aH)).toNat)=some (.int .i64 (rd (nI l1 aa) (aH)))/\w'.cell? (aK.add (al).toNat)=some (.int .i64 (rd (nI l1 aa) al))) (ds:=[]) (pg 12 0) (tQ) rfl (tQ) ⟨(nE HB av),(nE HB aw)⟩ (fun hHeld=>?_);refine Di nS.JN nS.Jl (fun HT_ HW_=>?_);generalize wr.drew=jh at ae ab ac HB aS aT hHeld⊢;refine lq 0 113 1 ?_;refine lq 1 114 3 ?_;refine lq 2 115 7 ?_;refine lq 3 116 15 ?_;refine lq 5 118 47 ?_;refine lq 6 119 111 ?_;refine lq 7 120 239 ?_;refine qZ 4 117 255 ?_;refine qZ 8 121 511 ?_;refine yC (σ:=Nat) 1 (pg 12 2047) (fun s_=>[(122,.agg #[.int .i64 aV,.int .i64 aW]),(15,.pointer (some ⟨s_,0,none⟩))]) (fun s_ w'=>(w'.cell? (aK.add ((aH)).toNat)=some (.int .i64 (rd (nI l1 aa) (aH)))/\w'.cell? (aK.add (al).toNat)=some (.int .i64 (rd (nI l1 aa) al)))/\(Kd.R Kd.bool 4 w' w.heap.size (fun _=>True) a7 aj)/\(w'.heap[az]? =some (.cells #[.int .i64 ag,.slice aN ai.length aO] 31 (0,0)))/\(w'.heap[ax]? =some (qB ao))/\(w'.heap[s_]? =some (.cells #[.int .i64 0,.int .i64 0] 59 (0,0)))/\(w.heap.size<=s_)/\(w.heap.size<=s_)/\(az≠s_)/\(s_≠az)/\(ax≠s_)/\(s_≠ax)/\(Below w.heap.size w w')) ?_ ?_;rotate_left
                       ·intro rT;refine vR (i:=9) (j:=10) (Ni:=some 122) (Nj:=some 15) (pg 12 1023) (pg 12 1535) rfl rfl rfl rfl (vM HT_.out (tQ)) (by decide) (by decide) (fun K hK=>?_) (fun K hK=>?_)
                        ·skip;refine ug Try.func53 (tQ) rfl #[.int .i64 (rd (nI l1 aa) (aH)),.int .i64 (rd (nI l1 aa) al)] (by rfl) rfl rfl (ES) ?_;with_reducible refine(vW.calls (rd (nI l1 aa) (aH)) (rd (nI l1 aa) al) aV aW _ ev.out).mono ?_
                         rintro e g3 ⟨rfl,hb⟩;refine⟨_,rfl,?_⟩;replace ae:=ou ae hb;replace ab:=nA ab hb;replace ac:=nA ac hb;replace HB:=nJ HB hb;(try clear hb hk);refine hK.out _ _ ⟨(nE HB av),(nE HB aw)⟩ (fun hHeld=>?_);clear hK K;refine nQ 122 ?_;refine xA (i:=10) (N:=some 15) (pg 12 2047) rfl rfl (yx HT_.out (tQ)) (by decide) (fun K hK=>?_);refine tX ?hg (N:=15) ?hd (cs:= #[.int .i64 0,.int .i64 0]) (t:=59) ?hr ?_;(case hd=>rfl);(case hg=>rfl);(case hr=>first|(go_simp;done)|(go_simp;rfl));intro ah hg g4 nu hb;have n0:=ou ae hb;have n1:=nA ab hb;have n2:=nA ac hb;have n3:=nJ HB hb;have n4:=dm (nu);have n5:=dm (xn:w.heap.size<=ah);have n6:=dm (xn:w.heap.size<=ah);have n7:=dm (Cs:az≠ah);have n8:=dm (CL:ah≠az);have n9:=dm (Ey:ax≠ah);have bo:=dm (EW:ah≠ax);clear ae ab ac HB;revert n0 n1 n2 n3 n4 n5 n6 n7 n8 n9 bo;intro ae ab ac HB aI am a6 aB aF aq aG;clear hb nu hg;refine hK.out _ _ ⟨(nE HB av),(nE HB aw)⟩ (fun hHeld=>?_);clear hK K;refine nQ 15 ?_;exact rE (by simp only [ry,Act.put,List.setIfInBounds_toArray,List.set_cons_zero,List.set_cons_succ]) (rT (ah) _ ⟨hHeld,(nH ae.out),(nG ab.out),(nG ac.out),(nG aI.out),am.out,a6.out,aB.out,aF.out,aq.out,aG.out,(nC HB.out)⟩)
                        ·skip;refine tX ?hg (N:=15) ?hd (cs:= #[.int .i64 0,.int .i64 0]) (t:=59) ?hr ?_;(case hd=>rfl);(case hg=>rfl);(case hr=>first|(go_simp;done)|(go_simp;rfl));intro ah hg g3 nu hb;have n0:=ou ae hb;have n1:=nA ab hb;have n2:=nA ac hb;have n3:=nJ HB hb;have n4:=dm (nu);have n5:=dm (xn:w.heap.size<=ah);have n6:=dm (xn:w.heap.size<=ah);have n7:=dm (Cs:az≠ah);have n8:=dm (CL:ah≠az);have n9:=dm (Ey:ax≠ah);have bo:=dm (EW:ah≠ax);clear ae ab ac HB;revert n0 n1 n2 n3 n4 n5 n6 n7 n8 n9 bo;intro ae ab ac HB aI am a6 aB aF aq aG;clear hb nu hg;refine hK.out _ _ ⟨(nE HB av),(nE HB aw)⟩ (fun hHeld=>?_);clear hK K;refine nQ 15 ?_;refine xA (i:=9) (N:=some 122) (pg 12 2047) rfl rfl (yx HT_.out (tQ)) (by decide) (fun K hK=>?_);refine ug Try.func53 (tQ) rfl #[.int .i64 (rd (nI l1 aa) (aH)),.int .i64 (rd (nI l1 aa) al)] (by rfl) rfl rfl (ES) ?_;with_reducible refine(vW.calls (rd (nI l1 aa) (aH)) (rd (nI l1 aa) al) aV aW _ ev.out).mono ?_
                         rintro e g4 ⟨rfl,hb⟩;refine⟨_,rfl,?_⟩;replace ae:=ou ae hb;replace ab:=nA ab hb;replace ac:=nA ac hb;replace aI:=nA aI hb;replace HB:=nJ HB hb;(try clear hb hk);refine hK.out _ _ ⟨(nE HB av),(nE HB aw)⟩ (fun hHeld=>?_);clear hK K;refine nQ 122 ?_;exact rE (by simp only [ry,Act.put,List.setIfInBounds_toArray,List.set_cons_zero,List.set_cons_succ]) (rT (ah) _ ⟨hHeld,(nH ae.out),(nG ab.out),(nG ac.out),(nG aI.out),am.out,a6.out,aB.out,aF.out,aq.out,aG.out,(nC HB.out)⟩)
                       rintro ah bq ⟨hS_,du,dv,dw,dx,dy,dz,dA,dB,dC,dD,cj⟩;have n0:lm (Kd.R Kd.bool 4 bq w.heap.size (fun _=>True) a7 aj):=⟨du⟩;have n1:lm (bq.heap[az]? =some (.cells #[.int .i64 ag,.slice aN ai.length aO] 31 (0,0))):=⟨dv⟩;have n2:lm (bq.heap[ax]? =some (qB ao)):=⟨dw⟩;have n3:lm (bq.heap[ah]? =some (.cells #[.int .i64 0,.int .i64 0] 59 (0,0))):=⟨dx⟩;have n4:lm (w.heap.size<=ah):=⟨dy⟩;have n5:lm (w.heap.size<=ah):=⟨dz⟩;have n6:lm (az≠ah):=⟨dA⟩;have n7:lm (ah≠az):=⟨dB⟩;have n8:lm (ax≠ah):=⟨dC⟩;have n9:lm (ah≠ax):=⟨dD⟩;have bo:lm (Below w.heap.size w bq):=⟨cj⟩;clear ae ab ac HB;clear du dv dw dx dy dz dA dB dC dD cj;revert n0 n1 n2 n3 n4 n5 n6 n7 n8 n9 bo;intro ae ab ac aI am a6 aB aF aq aG HB;have hHeld:bq.cell? (aK.add ((aH)).toNat)=some (.int .i64 (rd (nI l1 aa) (aH)))/\bq.cell? (aK.add (al).toNat)=some (.int .i64 (rd (nI l1 aa) al)):=hS_;refine rE (a':= ?_) ?_ ?_;rotate_left
                       ·simp only [ry,Act.put,List.setIfInBounds_toArray,List.set_cons_zero,List.set_cons_succ];rfl
                       refine xA (i:=11) (N:=none) (pg 12 4095) rfl rfl (yx HT_.out (tQ)) (by decide) (fun K hK=>?_);have i9:bq.cell? ⟨ah,0,none⟩=some (.int .i64 0):=nk aI 0;have iA:=qN aI.out 0;have ga:=aB.out;have gb:=aq.out;have gc:=aF.out;have ge:=aG.out;have i_:bq.cell? ⟨ah,1,none⟩=some (.int .i64 0):=nk aI 1;have iB:=qN aI.out 1;have gf:=aB.out;have gg:=aq.out;have gh:=aF.out;have gi:=aG.out;refine tT (w1:= ?_) (by rfl) rfl ?_ ?_;rotate_left
                       ·go_simp
                        rfl
                       refine hK.out _ _ ⟨((cell_far (p:=⟨ah,_,none⟩) (uk av am.out) _).trans (((cell_far (p:=⟨ah,_,none⟩) (uk av am.out) _).trans (hHeld.1)))),((cell_far (p:=⟨ah,_,none⟩) (uk aw am.out) _).trans (((cell_far (p:=⟨ah,_,none⟩) (uk aw am.out) _).trans (hHeld.2))))⟩ (fun hHeld=>?_);clear hK K;refine pM (pQ HT_.out (tQ)) ?_;have iC:=aU.out;have iD:=aR.out;have iE:=aq.out;have iF:=aG.out;have iG:=aF.out;have iH:=aB.out;have⟨gj,gl,gm,gn⟩:=nK (w:=bq) aI
                       go_wp2_with (first|(((with_reducible refine nP 125 rfl ?_);refine D_ 125 (g:=ax) (l:=ao) (x0:=aV) (x1:=aW) (b:=true) (xz (xz ac.out aq.out _) aq.out _) dt ?_)))
                       go_ret
                       exact⟨by first|rfl|(simp[qa,qb]<;>rfl)|(simp only [←aZ,←bK];first|rfl|(simp[qa,qb]<;>rfl))|(simp[*,qa,qb]<;>rfl),nC HB.out⟩
                      ·rw[if_neg dt]at H;have H':=dm H;clear H;try go_wp2
                       replace ae:=dm (nN ae.out);replace ab:=dm (nV ab.out);replace ac:=dm (nV ac.out);replace HB:=dm (o9 HB.out);have bF:0<=((aH):Int):=nD;have bG:(aH)<((nI l1 aa).length:Int):=nD;obtain⟨cL,dK,aS⟩:=oG aP.out (aH) bF bG;have av:=aS;obtain rfl:aK=cL:=(by injection dK);replace aS:=nE HB aS;replace bF:=eq_true bF;replace bG:=eq_true bG;have bH:0<=(al:Int):=nD;have bI:al<((nI l1 aa).length:Int):=nD;obtain⟨cM,dL,aT⟩:=oG aP.out al bH bI;have aw:=aT;obtain rfl:aK=cM:=(by injection dL);replace aT:=nE HB aT;replace bH:=eq_true bH;replace bI:=eq_true bI;refine Ab (n:=12) (S:=fun w'=>w'.cell? (aK.add ((aH)).toNat)=some (.int .i64 (rd (nI l1 aa) (aH)))/\w'.cell? (aK.add (al).toNat)=some (.int .i64 (rd (nI l1 aa) al))) (ds:=[]) (pg 12 0) (tQ) rfl (tQ) ⟨(nE HB av),(nE HB aw)⟩ (fun hHeld=>?_);refine Di nS.JN nS.Jl (fun HT_ HW_=>?_);generalize wr.drew=ji at ae ab ac HB aS aT hHeld⊢;refine lq 0 113 1 ?_;refine lq 1 114 3 ?_;refine lq 2 115 7 ?_;refine lq 3 116 15 ?_;refine lq 5 118 47 ?_;refine lq 6 119 111 ?_;refine lq 7 120 239 ?_;refine qZ 4 117 255 ?_;refine qZ 8 121 511 ?_;refine yC (σ:=Nat) 1 (pg 12 2047) (fun s_=>[(122,.agg #[.int .i64 aV,.int .i64 aW]),(15,.pointer (some ⟨s_,0,none⟩))]) (fun s_ w'=>(w'.cell? (aK.add ((aH)).toNat)=some (.int .i64 (rd (nI l1 aa) (aH)))/\w'.cell? (aK.add (al).toNat)=some (.int .i64 (rd (nI l1 aa) al)))/\(Kd.R Kd.bool 4 w' w.heap.size (fun _=>True) a7 aj)/\(w'.heap[az]? =some (.cells #[.int .i64 ag,.slice aN ai.length aO] 31 (0,0)))/\(w'.heap[ax]? =some (qB ao))/\(w'.heap[s_]? =some (.cells #[.int .i64 0,.int .i64 0] 59 (0,0)))/\(w.heap.size<=s_)/\(w.heap.size<=s_)/\(az≠s_)/\(s_≠az)/\(ax≠s_)/\(s_≠ax)/\(Below w.heap.size w w')) ?_ ?_;rotate_left
                       ·intro rT;refine vR (i:=9) (j:=10) (Ni:=some 122) (Nj:=some 15) (pg 12 1023) (pg 12 1535) rfl rfl rfl rfl (vM HT_.out (tQ)) (by decide) (by decide) (fun K hK=>?_) (fun K hK=>?_)
                        ·skip;refine ug Try.func53 (tQ) rfl #[.int .i64 (rd (nI l1 aa) (aH)),.int .i64 (rd (nI l1 aa) al)] (by rfl) rfl rfl (ES) ?_;with_reducible refine(vW.calls (rd (nI l1 aa) (aH)) (rd (nI l1 aa) al) aV aW _ ev.out).mono ?_
                         rintro e g5 ⟨rfl,hb⟩;refine⟨_,rfl,?_⟩;replace ae:=ou ae hb;replace ab:=nA ab hb;replace ac:=nA ac hb;replace HB:=nJ HB hb;(try clear hb hk);refine hK.out _ _ ⟨(nE HB av),(nE HB aw)⟩ (fun hHeld=>?_);clear hK K;refine nQ 122 ?_;refine xA (i:=10) (N:=some 15) (pg 12 2047) rfl rfl (yx HT_.out (tQ)) (by decide) (fun K hK=>?_);refine tX ?hg (N:=15) ?hd (cs:= #[.int .i64 0,.int .i64 0]) (t:=59) ?hr ?_;(case hd=>rfl);(case hg=>rfl);(case hr=>first|(go_simp;done)|(go_simp;rfl));intro ah hg g6 nu hb;have n0:=ou ae hb;have n1:=nA ab hb;have n2:=nA ac hb;have n3:=nJ HB hb;have n4:=dm (nu);have n5:=dm (xn:w.heap.size<=ah);have n6:=dm (xn:w.heap.size<=ah);have n7:=dm (Cs:az≠ah);have n8:=dm (CL:ah≠az);have n9:=dm (Ey:ax≠ah);have bo:=dm (EW:ah≠ax);clear ae ab ac HB;revert n0 n1 n2 n3 n4 n5 n6 n7 n8 n9 bo;intro ae ab ac HB aI am a6 aB aF aq aG;clear hb nu hg;refine hK.out _ _ ⟨(nE HB av),(nE HB aw)⟩ (fun hHeld=>?_);clear hK K;refine nQ 15 ?_;exact rE (by simp only [ry,Act.put,List.setIfInBounds_toArray,List.set_cons_zero,List.set_cons_succ]) (rT (ah) _ ⟨hHeld,(nH ae.out),(nG ab.out),(nG ac.out),(nG aI.out),am.out,a6.out,aB.out,aF.out,aq.out,aG.out,(nC HB.out)⟩)
                        ·skip;refine tX ?hg (N:=15) ?hd (cs:= #[.int .i64 0,.int .i64 0]) (t:=59) ?hr ?_;(case hd=>rfl);(case hg=>rfl);(case hr=>first|(go_simp;done)|(go_simp;rfl));intro ah hg g5 nu hb;have n0:=ou ae hb;have n1:=nA ab hb;have n2:=nA ac hb;have n3:=nJ HB hb;have n4:=dm (nu);have n5:=dm (xn:w.heap.size<=ah);have n6:=dm (xn:w.heap.size<=ah);have n7:=dm (Cs:az≠ah);have n8:=dm (CL:ah≠az);have n9:=dm (Ey:ax≠ah);have bo:=dm (EW:ah≠ax);clear ae ab ac HB;revert n0 n1 n2 n3 n4 n5 n6 n7 n8 n9 bo;intro ae ab ac HB aI am a6 aB aF aq aG;clear hb nu hg;refine hK.out _ _ ⟨(nE HB av),(nE HB aw)⟩ (fun hHeld=>?_);clear hK K;refine nQ 15 ?_;refine xA (i:=9) (N:=some 122) (pg 12 2047) rfl rfl (yx HT_.out (tQ)) (by decide) (fun K hK=>?_);refine ug Try.func53 (tQ) rfl #[.int .i64 (rd (nI l1 aa) (aH)),.int .i64 (rd (nI l1 aa) al)] (by rfl) rfl rfl (ES) ?_;with_reducible refine(vW.calls (rd (nI l1 aa) (aH)) (rd (nI l1 aa) al) aV aW _ ev.out).mono ?_
                         rintro e g6 ⟨rfl,hb⟩;refine⟨_,rfl,?_⟩;replace ae:=ou ae hb;replace ab:=nA ab hb;replace ac:=nA ac hb;replace aI:=nA aI hb;replace HB:=nJ HB hb;(try clear hb hk);refine hK.out _ _ ⟨(nE HB av),(nE HB aw)⟩ (fun hHeld=>?_);clear hK K;refine nQ 122 ?_;exact rE (by simp only [ry,Act.put,List.setIfInBounds_toArray,List.set_cons_zero,List.set_cons_succ]) (rT (ah) _ ⟨hHeld,(nH ae.out),(nG ab.out),(nG ac.out),(nG aI.out),am.out,a6.out,aB.out,aF.out,aq.out,aG.out,(nC HB.out)⟩)
                       rintro ah br ⟨hS_,du,dv,dw,dx,dy,dz,dA,dB,dC,dD,cj⟩;have n0:lm (Kd.R Kd.bool 4 br w.heap.size (fun _=>True) a7 aj):=⟨du⟩;have n1:lm (br.heap[az]? =some (.cells #[.int .i64 ag,.slice aN ai.length aO] 31 (0,0))):=⟨dv⟩;have n2:lm (br.heap[ax]? =some (qB ao)):=⟨dw⟩;have n3:lm (br.heap[ah]? =some (.cells #[.int .i64 0,.int .i64 0] 59 (0,0))):=⟨dx⟩;have n4:lm (w.heap.size<=ah):=⟨dy⟩;have n5:lm (w.heap.size<=ah):=⟨dz⟩;have n6:lm (az≠ah):=⟨dA⟩;have n7:lm (ah≠az):=⟨dB⟩;have n8:lm (ax≠ah):=⟨dC⟩;have n9:lm (ah≠ax):=⟨dD⟩;have bo:lm (Below w.heap.size w br):=⟨cj⟩;clear ae ab ac HB;clear du dv dw dx dy dz dA dB dC dD cj;revert n0 n1 n2 n3 n4 n5 n6 n7 n8 n9 bo;intro ae ab ac aI am a6 aB aF aq aG HB;have hHeld:br.cell? (aK.add ((aH)).toNat)=some (.int .i64 (rd (nI l1 aa) (aH)))/\br.cell? (aK.add (al).toNat)=some (.int .i64 (rd (nI l1 aa) al)):=hS_;refine rE (a':= ?_) ?_ ?_;rotate_left
                       ·simp only [ry,Act.put,List.setIfInBounds_toArray,List.set_cons_zero,List.set_cons_succ];rfl
                       refine xA (i:=11) (N:=none) (pg 12 4095) rfl rfl (yx HT_.out (tQ)) (by decide) (fun K hK=>?_);have ja:br.cell? ⟨ah,0,none⟩=some (.int .i64 0):=nk aI 0;have iI:=qN aI.out 0;have gp:=aB.out;have gq:=aq.out;have gr:=aF.out;have gt:=aG.out;have jb:br.cell? ⟨ah,1,none⟩=some (.int .i64 0):=nk aI 1;have iJ:=qN aI.out 1;have gu:=aB.out;have gv:=aq.out;have gw:=aF.out;have gx:=aG.out;refine tT (w1:= ?_) (by rfl) rfl ?_ ?_;rotate_left
                       ·go_simp
                        rfl
                       refine hK.out _ _ ⟨((cell_far (p:=⟨ah,_,none⟩) (uk av am.out) _).trans (((cell_far (p:=⟨ah,_,none⟩) (uk av am.out) _).trans (hHeld.1)))),((cell_far (p:=⟨ah,_,none⟩) (uk aw am.out) _).trans (((cell_far (p:=⟨ah,_,none⟩) (uk aw am.out) _).trans (hHeld.2))))⟩ (fun hHeld=>?_);clear hK K;refine pM (pQ HT_.out (tQ)) ?_;have iK:=aU.out;have iL:=aR.out;have iM:=aq.out;have iN:=aG.out;have iO:=aF.out;have iP:=aB.out;have⟨gy,gz,gA,gB⟩:=nK (w:=br) aI
                       go_wp2_with (first|(((with_reducible refine nP 125 rfl ?_);refine D_ 125 (g:=ax) (l:=ao) (x0:=aV) (x1:=aW) (b:=false) (xz (xz ac.out aq.out _) aq.out _) (Bool.eq_false_iff.mpr dt) ?_))|((at_mapUpdate;refine Ql (g:=ax) (l:=ao) (x0:=aV) (x1:=aW) (xz (xz ac.out aq.out _) aq.out _) (Bool.eq_false_iff.mpr dt) ?_;intro w_m hm_ hgm_;replace ae:=dm (nL (Ce (nR (p:=⟨ah,1,none⟩) (nR (p:=⟨ah,0,none⟩) (F7 (oK ae.out aI.out (by decide)) ac.out) (fun _ hk=>hk.1.2) (.int .i64 aV)) (fun _ hk=>hk.1.2) (.int .i64 aW)) hgm_ (fun k_ hk e_=>hk.2 (Option.some.inj e_))) (fun _ _=>trivial));replace ab:=dm (wT (xH (xH ab.out aB.out _) aB.out _) hgm_ (fun e_=>aR.out (Option.some.inj e_)));replace ac:=dm hm_;replace HB:=dm (F5 (nC HB.out) hgm_ eY.out);clear hm_ hgm_)))
                       go_roundg k7
                       case measure=>have:=bl.out;have:=bm.out;have:=ba.out;have:=bj.out;have:=bu.out;have:=b5.out;have:=cU.out;omega
                       case rel=>exact⟨(wrap64 (al+1)),(ao++[⟨aV,aW⟩]),(wo),H',⟨by have:=bl.out;have:=bm.out;have:=ba.out;have:=bj.out;have:=bu.out;have:=b5.out;have:=cU.out;omega⟩,⟨nH ae.out⟩,⟨nG ab.out⟩,⟨nG ac.out⟩,⟨nC HB.out⟩⟩
                     ·rw[if_neg cq]at H;have eq:=decide_eq_false cq;clear cq;have H':=dm H;clear H
                      go_wp2
                      go_loopg [130] k7 (fun kq fQ w'=>∃ (bk:List Bool) (aD:Int),fQ=.int .i64 aD/\lm (nS.l3 kq l2 bk l1 (l1.length:Int) aa (nI l1 aa) ((nI l1 aa).length:Int) aD ag ai ao 0=some r)/\lm (kq<=k7)/\lm (Kd.R Kd.bool 4 w' w.heap.size (fun _=>True) a7 bk)/\lm (w'.heap[az]? =some (.cells #[.int .i64 ag,(.slice aN ai.length aO)] 31 (0,0)))/\lm (w'.heap[ax]? =some (qB ao))/\lm (Below w.heap.size w w'))
                      case atStart=>exact⟨(aj),(0),(wo),H',⟨Nat.le_refl _⟩,⟨nH ae.out⟩,⟨nG ab.out⟩,⟨nG ac.out⟩,⟨nC HB.out⟩⟩
                      case round=>
                       clear H';(try clear eq);obtain⟨bk,aD,rfl,HA,eE,ae,ab,ac,HB⟩:=hrel;cases gk with
                       |zero=>exact absurd HA.out (by simp[nS.l3])
                       |succ k8=>
                        have H:=HA.out;clear HA;simp only [nS.l3]at H
                        by_cases cr:aD<((nI l1 aa).length:Int)
                        ·rw[if_pos cr]at H;have fw:=decide_eq_true cr;clear cr
                         obtain⟨g7,H⟩:=oz H
                         obtain⟨g8,H⟩:=oz H
                         obtain⟨g9,H⟩:=oz H
                         obtain⟨g_,H⟩:=oz H;obtain⟨dM,bT⟩:∃y_:List Bool,y_=(bk.set ((rd (nI l1 aa) aD):Int).toNat true):=⟨_,rfl⟩;replace H:(nS.l3 k8 l2 dM l1 (l1.length:Int) aa (nI l1 aa) ((nI l1 aa).length:Int) (wrap64 (aD+1)) ag ai ao 0)=some r:=pE bT H
                         have fx:=dm bT;clear bT;have H':=dm H;clear H;have dN:0<=(aD:Int):=nD;have dO:aD<((nI l1 aa).length:Int):=nD;obtain⟨fy,fR,ct⟩:=oG aP.out aD dN dO;obtain rfl:aK=fy:=(by injection fR);replace ct:=nE HB ct;replace dN:=eq_true dN;replace dO:=eq_true dO;have dP:0<=((rd (nI l1 aa) aD):Int):=nD;have dQ:((rd (nI l1 aa) aD):Int)<((bk.length:Int):Int):=nD;obtain⟨cS,fz,ew,ex,fA,iQ,ey⟩:=Bl ae.out (by omega);(first|cases ew|(injection ew with ea_ en_ ec_;(first|subst ea_|(injection ea_ with ea_;subst ea_));subst ec_;clear en_));have fB:=dm ex;have iR:=dm ey;clear ex fA ey;obtain⟨gC,gD⟩:=zY false ae.out ((rd (nI l1 aa) aD):Int) dP dQ;replace dP:=eq_true dP;replace dQ:=eq_true dQ;have cT:=Ci ae.out ((rd (nI l1 aa) aD):Int) true
                         go_wp2_with (first|((with_reducible refine zP (t:=4) (p:=136) rfl ?_);refine zN (t:=4) (p:=136) (v:= ?vo_w106) (w1:=(wr.setCell ⟨cS,((rd (nI l1 aa) aD):Int).toNat,none⟩ (.bool true))) ?hg ?ho ?hn ?hr ?_;(case ho=>rfl);(case hg=>rfl);(case hn=>rfl);(case hr=>first|(go_simp;done)|(go_simp;rfl));intro dR hw;have hg:wr.grownBy dR (some cS):=(by rw[hw];exact cT.2);have hp_:Kd.R Kd.bool 4 dR w.heap.size (fun _=>True) (.slice (some ⟨cS,0,none⟩) bk.length fz) dM:=(by rw[hw,fx.out];exact cT.1);clear cT;replace ab:=o_ ab hg (pG ae.out ab.out (by decide));replace ac:=o_ ac hg (mNe ae.out ac.out);replace ae:=dm (hp_);replace HB:=dm ((by rw[hw];exact rX (HB.out) fB.out:Below w.heap.size w dR));clear hg hw hp_))
                         go_roundg k8
                         case measure=>have:=bl.out;have:=bm.out;have:=ba.out;have:=bj.out;have:=bu.out;have:=b5.out;have:=cU.out;have:=eE.out;omega
                         case rel=>exact⟨(dM),(wrap64 (aD+1)),(wo),H',⟨KQ⟩,⟨nH ae.out⟩,⟨nG ab.out⟩,⟨nG ac.out⟩,⟨nC HB.out⟩⟩
                        ·rw[if_neg cr]at H;have fw:=decide_eq_false cr;clear cr;have H':=dm H;clear H
                         go_wp2
                         go_roundg k8
                         case measure=>have:=bl.out;have:=bm.out;have:=ba.out;have:=bj.out;have:=bu.out;have:=b5.out;have:=cU.out;have:=eE.out;omega
                         case rel=>exact⟨(bk),(wrap64 (aa+1)),(ao),(wo),H',⟨KQ⟩,⟨nH ae.out⟩,⟨nG ab.out⟩,⟨nG ac.out⟩,⟨nC HB.out⟩⟩
               ·obtain rfl:=Option.some.inj H
                go_wp2_with (first|((with_reducible refine wZ (f:=52) rfl ?_);refine wV (some 94) rfl rfl Try.func52 (tQ) rfl #[.slice A2 ak.length c2] rfl (yS) ?_;(with_reducible refine(r_.calls bX _ _ ak false _ ?ng ?ni fH.out).mono ?_);(case ng=>exact nO (nT ei.out HB.out));(case ni=>exact fG.out);rintro e w' ⟨rfl,⟨nd,rfl⟩⟩;refine⟨_,rfl,?_⟩))
                go_ret
                exact⟨Ct,nC HB.out⟩
      ·rw[if_neg ck]at H;have dW:=decide_eq_false ck;clear ck
       by_cases bJ:(af.length:Int)=(ai.length:Int)
       ·rw[if_pos bJ]at H;have eS:=beq_iff_eq.mpr bJ;have eT:=bne_eq_false_iff_eq.mpr bJ;clear bJ;obtain⟨cu,fS,H⟩:=ol H;(try dsimp only at H);obtain rfl:=Option.some.inj H;have hD:=aU.out;have hJ:=aR.out;have⟨fT,fU,fV,fW⟩:=nK (w:=wr) ab;obtain⟨iS,iT,fC⟩:=nW ae.out;subst fC
        go_wp2_with (first|((with_reducible refine nP 140 rfl ?_);refine JQ 140 (g:=ax) (l:=af) ac.out ?_)|(go_at_call 54;(with_reducible refine(wQ.calls k2 _ _ aj false cu _ ?ng ?ni fS.out).mono ?_);(case ng=>exact nO (nM ae.out).2.2);(case ni=>exact(nM ae.out).2.1);rintro e w' ⟨rfl,⟨nd,rfl⟩⟩))
        go_ret
        exact⟨Ez,nC HB.out⟩
       ·rw[if_neg bJ]at H;have eS:=beq_eq_false_iff_ne.mpr bJ;have eT:=bne_iff_ne.mpr bJ;obtain rfl:=Option.some.inj H;have hU:=aU.out;have hV:=aR.out;have⟨fX,fY,fZ,f2⟩:=nK (w:=wr) ab
        go_wp2_with (first|((with_reducible refine nP 140 rfl ?_);refine JQ 140 (g:=ax) (l:=af) ac.out ?_))
        go_ret
        exact⟨Ez,nC HB.out⟩
def AV.f (k:Nat) (ab:Int) (aa:List (S59)) (l1:List (List Int)):Option (Bool):=nS.f k ab aa l1 []
theorem AV.calls (k:Nat) (ab:Int) (ac:Option Addr) (ae:Nat) (aa:List (S59)) (A1:Option Addr) (c1:Nat) (l1:List (List Int)) (r:Bool) (w:World) (af:Kd.C k59 w ac aa.length aa) (ag:aa.length<=ae) (hr1:Kd.C (Kd.slice 3 (Kd.int .i64)) w A1 l1.length l1) (ah:l1.length<=c1) (h:AV.f k ab aa l1=some r):
 Calls Try.prog 19 #[.agg #[.int .i64 ab,.slice ac aa.length ae],.slice A1 l1.length c1] w fun e w'=>e=.returned (.bool r)/\Below w.heap.size w w':=nS.calls k ab ac ae aa A1 c1 l1 [] r w af ag hr1 ah h
def vI.f (l0:List Int):Option (Bool):=if(l0.length:Int)>0 then(if 0<(l0.length:Int) then(if 0<=(wrap64 ((l0.length:Int) - 1)) then(if(wrap64 ((l0.length:Int) - 1))<(l0.length:Int) then(some ((rd l0 0) !=(rd l0 (wrap64 ((l0.length:Int) - 1))))) else(none)) else(none)) else(none)) else(some false)
theorem vI.calls (A0:Option Addr) (c0:Nat) (l0:List Int) (r:Bool) (w:World) (ak:Kd.C (Kd.int .i64) w A0 l0.length l0) (al:l0.length<=c0) (h:vI.f l0=some r):
  Calls Try.prog 83 #[.slice A0 l0.length c0] w fun e w'=>e=.returned (.bool r)/\oM w w':=by
 have am:=dm ak;have aC:=dm al;clear ak al;unfold vI.f at h;have H:=h;clear h
 by_cases c2:(l0.length:Int)>0
 ·rw[if_pos c2]at H;have ao:=decide_eq_true c2;have ap:decide (0<l0.length)=true:=decide_eq_true (by omega);clear c2
  obtain⟨c3,H⟩:=qd H;have ay:=decide_eq_true c3;have az:decide (0<l0.length)=true:=decide_eq_true (by omega);clear c3;obtain⟨aa,ac⟩:∃j_:Int,(wrap64 ((l0.length:Int) - 1))=j_:=⟨_,rfl⟩;replace H:(if 0<=(aa) then(if(aa)<(l0.length:Int) then(some ((rd l0 0) !=(rd l0 (aa)))) else(none)) else(none))=some r:=by first|(rw[ac]at H;exact H)|(simp only[ac]at H⊢;exact H)
  have aw:(IntKind.i64.wrap ((l0.length:Int) - 1))=aa:=(qA _).trans ac
  obtain⟨aA,H⟩:=oz H
  obtain⟨aB,H⟩:=oz H;obtain rfl:=Option.some.inj H;have ae:0<=(0:Int):=(by omega);have af:0<(l0.length:Int):=nD;obtain⟨ai,aq,ab⟩:=oG am.out 0 ae af;cases aq;have ax:(0<l0.length)=True:=eq_true (by omega);(try rw[show((0:Int)).toNat=0 from rfl]at ab);(try rw[Addr.add_zero']at ab);replace ae:=eq_true ae;replace af:=eq_true af;have ag:0<=((aa):Int):=nD;have ah:(aa)<(l0.length:Int):=nD;obtain⟨aj,au,av⟩:=oG am.out (aa) ag ah;obtain rfl:ai=aj:=(by injection au);replace ag:=eq_true ag;replace ah:=eq_true ah
  go_enter Try.func83,Try.ntmps83
  go_wp2
  repeat(go_quiet (fail);try go_wp2)
  go_ret
  exact⟨by first|rfl|(simp;done)|(simp only[←ac]<;> (first|rfl|simp))|(simp[*];done),by repeat(first|exact oM.refl _|apply oM.step)⟩
 ·rw[if_neg c2]at H;have ao:=decide_eq_false c2;have ap:decide (0<l0.length)=false:=decide_eq_false (by omega);clear c2;obtain rfl:=Option.some.inj H
  go_enter Try.func83,Try.ntmps83
  go_wp2
  repeat(go_quiet (fail);try go_wp2)
  go_ret
  exact⟨by first|rfl|(simp;done)|(simp[*];done),by repeat(first|exact oM.refl _|apply oM.step)⟩
theorem KW {p:Prop}(h:p:=by(try simp only[List.map_toArray,List.map_cons,List.map_nil]);first|done|(simp only[a_];rfl)|rfl|(simp only[List.length_drop,List.length_take];rfl)):p:=h
theorem Kb {p:Prop}(h:p:=by(try simp only[List.map_toArray,List.map_cons,List.map_nil]);first|done|(simp only[bH];rfl)|rfl|(simp only[List.length_drop,List.length_take];rfl)):p:=h
theorem Gm {p:Prop}(h:p:=by first|rfl|(simp[qa,qb]<;>rfl)|(simp[*,qa,qb]<;>rfl)):p:=h
theorem El {p:Prop}(h:p:=by have:=bI.out;have:=bJ.out;have:=bv.out;first|omega|exact Nat.le_refl _):p:=h
theorem uQ {p:Prop}(h:p:=by first|rfl|(simp;done)|(simp[*];done)):p:=h
theorem yP {p:Prop}(h:p:=by first|omega|exact Nat.le_refl _):p:=h
theorem wY {p:Prop}(h:p:=by kernel_rfl):p:=h
attribute [local go_sem high] Ef
mutual
def oH.j0:Nat->List (S59)->List Int->List Int->Bool->Int->List (S59)->Option (Bool)
 |0,_,_,_,_,_,_=>none
 |k+1,x1,x2,x3,dP,aj,ak=>if dP=true then(some false) else(oH.l0 k x1 x2 x3 0 aj ak)
def oH.l0:Nat->List (S59)->List Int->List Int->Int->Int->List (S59)->Option (Bool)
 |0,_,_,_,_,_,_=>none
 |k+1,x1,x2,x3,al,aj,ak=>if al<(x3.length:Int) then(if al>0 then(oH.j2 k x1 x2 x3 al (decide ((wrap64 (al+1))<(x3.length:Int))) aj ak) else(oH.j2 k x1 x2 x3 al false aj ak)) else(some true)
def oH.j2:Nat->List (S59)->List Int->List Int->Int->Bool->Int->List (S59)->Option (Bool)
 |0,_,_,_,_,_,_,_=>none
 |k+1,x1,x2,x3,al,dQ,aj,ak=>if 0<=al then(if al<(x3.length:Int) then((rf.f k aj ak (rd x3 al)).bind fun b1=>(if b1=true then(if dQ=true then((qj.f k x2 (rd x3 al)).bind fun aW=>(if aW=true then(oH.j3 k x1 x2 x3 al true aj ak) else(if al<=(x3.length:Int) then((qj.f k (x3.take (al:Int).toNat) (rd x3 al)).bind fun aI=>(oH.j3 k x1 x2 x3 al aI aj ak)) else(none)))) else(oH.j3 k x1 x2 x3 al false aj ak)) else(oH.j3 k x1 x2 x3 al true aj ak))) else(none)) else(none)
def oH.j3:Nat->List (S59)->List Int->List Int->Int->Bool->Int->List (S59)->Option (Bool)
 |0,_,_,_,_,_,_,_=>none
 |k+1,x1,x2,x3,al,dL,aj,ak=>if dL=true then(some false) else(if al=0 then(oH.l0 k x1 x2 x3 (wrap64 (al+1)) aj ak) else(if 0<=(wrap64 (al - 1)) then(if(wrap64 (al - 1))<(x3.length:Int) then(if 0<=al then(if al<(x3.length:Int) then((v_.f k aj ak (rd x3 (wrap64 (al - 1))) (rd x3 al)).bind fun bc=>(if bc=true then(oH.l1 k x1 x2 x3 al 0 aj ak) else(some false))) else(none)) else(none)) else(none)) else(none)))
def oH.l1:Nat->List (S59)->List Int->List Int->Int->Int->Int->List (S59)->Option (Bool)
 |0,_,_,_,_,_,_,_=>none
 |k+1,x1,x2,x3,al,b7,aj,ak=>if b7<(x1.length:Int) then(if 0<=b7 then(if 0<=(wrap64 (al - 1)) then(if(wrap64 (al - 1))<(x3.length:Int) then(if 0<=al then(if al<(x3.length:Int) then((tK.f (rd x3 (wrap64 (al - 1))) (rd x3 al)).bind fun bK=>(if(((ny x1 b7).f0)==bK.1&&(((ny x1 b7).f1)==bK.2))=true then(some false) else(oH.l1 k x1 x2 x3 al (wrap64 (b7+1)) aj ak))) else(none)) else(none)) else(none)) else(none)) else(none)) else(oH.l0 k x1 x2 x3 (wrap64 (al+1)) aj ak)
end
def oH.f (k:Nat) (ae:Int) (ac:List (S59)) (l1:List (S59)) (l2:List Int) (l3:List Int) (a4:Bool):Option (Bool):=if(l3.length:Int)<2 then(oH.j0 k l1 l2 l3 true ae ac) else(if a4=true then((vI.f l3).bind fun bd=>(if bd=true then(oH.j0 k l1 l2 l3 true ae ac) else(if(l3.length:Int)<4 then(oH.j0 k l1 l2 l3 true ae ac) else((vI.f l3).bind fun aQ=>(if aQ=true then(oH.j0 k l1 l2 l3 false ae ac) else(oH.j0 k l1 l2 l3 (decide ((l3.length:Int)<4)) ae ac)))))) else(if 0<(l3.length:Int) then((qj.f k l2 (rd l3 0)).bind fun bf=>(if bf=true then(if 0<=(wrap64 ((l3.length:Int) - 1)) then(if(wrap64 ((l3.length:Int) - 1))<(l3.length:Int) then((qj.f k l2 (rd l3 (wrap64 ((l3.length:Int) - 1)))).bind fun aP=>(if aP=true then((vI.f l3).bind fun aC=>(if aC=true then(oH.j0 k l1 l2 l3 false ae ac) else(oH.j0 k l1 l2 l3 (decide ((l3.length:Int)<4)) ae ac))) else(oH.j0 k l1 l2 l3 true ae ac))) else(none)) else(none)) else(oH.j0 k l1 l2 l3 true ae ac))) else(none)))
def oH.T7:Bool×List (List Nat×List Nat):=(true,[([],[]),([],[]),([],[]),([1,2],[1,2]),([3],[3]),([0,4],[0,4]),([5],[5]),([6,5],[6]),([7],[7]),([8,7,7],[7,8]),([9],[9]),([9],[9]),([9],[9]),([11,12,9],[9,11,12]),([13,9],[9,13]),([10,14,9,9],[9,10,14]),([15,15,9],[9,15]),([16],[16]),([16],[16]),([17,18,16],[16,17,18]),([16],[16]),([16],[16]),([20,21,16],[16,20,21]),([22,16],[16,22]),([19,23,16,16],[16,19,23]),([16,24,9],[9,16,24]),([9,25,7],[7,9,25]),([7,26],[7,26])])
def oH.B7:List Nat:=[0,0,0,6,14,31,63,127,255,511,1023,1023,1023,7167,15359,32767,65535,131071,131071,524287,131071,131071,3276799,7471103,16777215,33554431,67108863,134217727]
theorem oH.uT:p_ .any (opsOf Try.f45 7)=oH.T7:=by kernel_rfl
theorem oH.uO:qQ oH.T7.2 oH.B7=true:=by kernel_rfl
def oH.T10:Bool×List (List Nat×List Nat):=(true,[([],[]),([],[]),([],[]),([2],[2]),([1,3],[1,3]),([4],[4]),([],[]),([],[]),([6,7],[6,7]),([8],[8]),([0,5,9],[0,5,9]),([10],[10])])
def oH.B10:List Nat:=[0,0,0,4,14,30,0,0,192,448,1023,2047]
theorem oH.Ee:p_ .any (opsOf Try.f45 10)=oH.T10:=by kernel_rfl
theorem oH.Ea:qQ oH.T10.2 oH.B10=true:=by kernel_rfl
def oH.T15:Bool×List (List Nat×List Nat):=(true,[([],[]),([],[]),([0,1],[0,1]),([2],[2]),([],[]),([],[]),([5],[5]),([4,6],[4,6]),([7],[7]),([],[]),([],[]),([9,10],[9,10]),([11],[11]),([8,12],[8,12]),([3,13],[3,13])])
def oH.B15:List Nat:=[0,0,3,7,0,0,32,112,240,0,0,1536,3584,8176,16383]
theorem oH.JI:p_ .any (opsOf Try.f45 15)=oH.T15:=by kernel_rfl
theorem oH.JB:qQ oH.T15.2 oH.B15=true:=by kernel_rfl
theorem oH.calls (k:Nat) (ae:Int) (av:Option Addr) (aw:Nat) (ac:List (S59)) (A1:Option Addr) (c1:Nat) (l1:List (S59)) (A2:Option Addr) (c2:Nat) (l2:List Int) (A3:Option Addr) (c3:Nat) (l3:List Int) (a4:Bool) (r:Bool) (w:World) (cu:Kd.C k59 w av ac.length ac) (cv:ac.length<=aw) (hr1:Kd.C k59 w A1 l1.length l1) (dB:l1.length<=c1) (hr2:Kd.C (Kd.int .i64) w A2 l2.length l2) (dC:l2.length<=c2) (dD:Kd.C (Kd.int .i64) w A3 l3.length l3) (dE:l3.length<=c3) (h:oH.f k ae ac l1 l2 l3 a4=some r):
  Calls Try.prog 45 #[.agg #[.int .i64 ae,.slice av ac.length aw],.slice A1 l1.length c1,.slice A2 l2.length c2,.slice A3 l3.length c3,.bool a4] w fun e w'=>e=.returned (.bool r)/\Below w.heap.size w w':=by
 have el:=Try.underlying31;have em:=Try.underlying59;have bn:=dm cu;have bo:=dm cv;clear cu cv;have dF:=dm hr1;have eo:=dm dB;clear hr1 dB;have bL:=dm hr2;have bM:=dm dC;clear hr2 dC;have ap:=dm dD;have bN:=dm dE;clear dD dE;have HB:=dm (Below.refl w.heap.size w);unfold oH.f at h;have H:=h;clear h;have df:=dm H;clear H
 go_enter Try.func45,Try.ntmps45
 go_upto_region 1 with(first|((with_reducible refine nP 5 rfl ?_);(try(refine rM (by rfl) ?_;dsimp only));refine om 5 #[.int .i64 ae,.slice av ac.length aw] 31 ?_;intro ao hg w7 nu hb;have ab:=dm (nu);have dZ:=dm ((by rw[hg];exact(nX (nC HB.out)):w.heap.size<=ao));have d7:=dm ((by rw[hg];exact(nX (nC HB.out)):w.heap.size<=ao));replace HB:=nJ HB hb;clear hb nu hg))
 (try simp only[Act.put,List.setIfInBounds_toArray,List.set_cons_zero,List.set_cons_succ])
 go_cut [61] (fun dR wc=>∃ (kq:Nat) (bS:Bool),dR=.bool bS/\lm (oH.j0 kq l1 l2 l3 bS ae ac=some r)/\lm (kq<=k)/\lm (wc.heap[ao]? =some (.cells #[.int .i64 ae,(.slice av ac.length aw)] 31 (0,0)))/\lm (Below w.heap.size w wc))
 case first=>
  have H:=df.out;clear df
  by_cases c8:(l3.length:Int)<2
  ·rw[if_pos c8]at H;have bU:=decide_eq_true c8;have dM:decide (l3.length<2)=true:=decide_eq_true (by omega);clear c8;(first|rw[bU]|(simp only[qA,rz];rw[bU])|skip);have H':=dm H;clear H
   go_wp2
   go_meet
   case rel=>exact⟨_,(true),(uQ),H',⟨yP⟩,⟨nG ab.out⟩,⟨nC HB.out⟩⟩
  ·rw[if_neg c8]at H;have bU:=decide_eq_false c8;have dM:decide (l3.length<2)=false:=decide_eq_false (by omega);clear c8;(first|rw[bU]|(simp only[qA,rz];rw[bU])|skip)
   rcases pJ H with⟨h_,H_⟩|⟨h_,H_⟩<;> (subst h_;clear H;have H:=H_;clear H_)
   ·obtain⟨bd,cw,H⟩:=ol H;(try dsimp only at H)
    rcases pJ H with⟨h_,H_⟩|⟨h_,H_⟩<;> (subst h_;clear H;have H:=H_;clear H_)
    ·have H':=dm H;clear H
     go_wp2_with (first|(go_at_call 83;(with_reducible refine(vI.calls _ _ l3 true _ ?ng ?ni cw.out).mono ?_);(case ng=>exact nO (nT ap.out HB.out));(case ni=>exact bN.out);rintro e w' ⟨rfl,⟨nd,rfl⟩⟩))
     go_meet
     case rel=>exact⟨_,(true),(uQ),H',⟨yP⟩,⟨nG ab.out⟩,⟨nC HB.out⟩⟩
    ·skip
     by_cases bW:(l3.length:Int)<4
     ·rw[if_pos bW]at H;have dl:=decide_eq_true bW;have dn:decide (l3.length<4)=true:=decide_eq_true (by omega);clear bW;have H':=dm H;clear H
      go_wp2_with (first|(go_at_call 83;(with_reducible refine(vI.calls _ _ l3 false _ ?ng ?ni cw.out).mono ?_);(case ng=>exact nO (nT ap.out HB.out));(case ni=>exact bN.out);rintro e w' ⟨rfl,⟨nd,rfl⟩⟩))
      go_meet
      case rel=>exact⟨_,(true),(uQ),H',⟨yP⟩,⟨nG ab.out⟩,⟨nC HB.out⟩⟩
     ·rw[if_neg bW]at H;have dl:=decide_eq_false bW;have dn:decide (l3.length<4)=false:=decide_eq_false (by omega);clear bW;obtain⟨aQ,dG,H⟩:=ol H;(try dsimp only at H)
      rcases pJ H with⟨h_,H_⟩|⟨h_,H_⟩<;> (subst h_;clear H;have H:=H_;clear H_)
      ·have H':=dm H;clear H
       go_wp2_with (first|(go_at_call 83;(with_reducible refine(vI.calls _ _ l3 false _ ?ng ?ni cw.out).mono ?_);(case ng=>exact nO (nT ap.out HB.out));(case ni=>exact bN.out);rintro e w' ⟨rfl,⟨nd,rfl⟩⟩)|(go_at_call 83;(with_reducible refine(vI.calls _ _ l3 true _ ?ng ?ni dG.out).mono ?_);(case ng=>repeat(first|exact(nT ap.out (nC HB.out))|(with_reducible refine uL ?_ _)|(with_reducible refine uK ?_ _)|(with_reducible refine uo ?_)));(case ni=>exact bN.out);rintro e w' ⟨rfl,⟨nd,rfl⟩⟩))
       go_meet
       case rel=>exact⟨_,(false),(uQ),H',⟨yP⟩,⟨nG ab.out⟩,⟨nC HB.out⟩⟩
      ·have H':=dm H;clear H
       go_wp2_with (first|(go_at_call 83;(with_reducible refine(vI.calls _ _ l3 false _ ?ng ?ni cw.out).mono ?_);(case ng=>exact nO (nT ap.out HB.out));(case ni=>exact bN.out);rintro e w' ⟨rfl,⟨nd,rfl⟩⟩)|(go_at_call 83;(with_reducible refine(vI.calls _ _ l3 false _ ?ng ?ni dG.out).mono ?_);(case ng=>repeat(first|exact(nT ap.out (nC HB.out))|(with_reducible refine uL ?_ _)|(with_reducible refine uK ?_ _)|(with_reducible refine uo ?_)));(case ni=>exact bN.out);rintro e w' ⟨rfl,⟨nd,rfl⟩⟩))
       go_meet
       case rel=>exact⟨_,(decide ((l3.length:Int)<4)),(uQ),H',⟨yP⟩,⟨nG ab.out⟩,⟨nC HB.out⟩⟩
   ·skip
    obtain⟨cz,H⟩:=qd H;have d8:=decide_eq_true cz;have d9:decide (0<l3.length)=true:=decide_eq_true (by omega);clear cz;obtain⟨bf,ce,H⟩:=ol H;(try dsimp only at H)
    rcases pJ H with⟨h_,H_⟩|⟨h_,H_⟩<;> (subst h_;clear H;have H:=H_;clear H_)
    ·obtain⟨ax,bT⟩:∃j_:Int,(wrap64 ((l3.length:Int) - 1))=j_:=⟨_,rfl⟩;replace H:(if 0<=(ax) then(if(ax)<(l3.length:Int) then((qj.f k l2 (rd l3 (ax))).bind fun aP=>(if aP=true then((vI.f l3).bind fun aC=>(if aC=true then(oH.j0 k l1 l2 l3 false ae ac) else(oH.j0 k l1 l2 l3 (decide ((l3.length:Int)<4)) ae ac))) else(oH.j0 k l1 l2 l3 true ae ac))) else(none)) else(none))=some r:=by first|(rw[bT]at H;exact H)|(simp only[bT]at H⊢;exact H)
     (try rw[bT]at ce);have dS:(IntKind.i64.wrap ((l3.length:Int) - 1))=ax:=(qA _).trans bT
     obtain⟨d_,H⟩:=oz H
     obtain⟨ea,H⟩:=oz H;obtain⟨aP,dg,H⟩:=ol H;(try dsimp only at H)
     rcases pJ H with⟨h_,H_⟩|⟨h_,H_⟩<;> (subst h_;clear H;have H:=H_;clear H_)
     ·obtain⟨aC,dH,H⟩:=ol H;(try dsimp only at H)
      rcases pJ H with⟨h_,H_⟩|⟨h_,H_⟩<;> (subst h_;clear H;have H:=H_;clear H_)
      ·have H':=dm H;clear H;have aJ:0<=(0:Int):=(by omega);have aK:0<(l3.length:Int):=nD;obtain⟨bp,bw,ag⟩:=oG ap.out 0 aJ aK;cases bw;have b2:(0<l3.length)=True:=eq_true (by omega);(try rw[show((0:Int)).toNat=0 from rfl]at ag);(try rw[Addr.add_zero']at ag);replace ag:=nE HB ag;replace aJ:=eq_true aJ;replace aK:=eq_true aK
       go_wp2_with (first|(go_at_call 47;(with_reducible refine(qj.calls k _ _ l2 (rd l3 0) true _ ?ng ?ni ce.out).mono ?_);(case ng=>exact nO (nT bL.out HB.out));(case ni=>exact bM.out);rintro e w' ⟨rfl,⟨nd,rfl⟩⟩;have aS:0<=((ax):Int):=nD;have aT:(ax)<(l3.length:Int):=nD;obtain⟨bO,bV,aN⟩:=oG ap.out (ax) aS aT;obtain rfl:bp=bO:=(by injection bV);replace aN:=nE HB aN;replace aS:=eq_true aS;replace aT:=eq_true aT)|(go_at_call 47;(with_reducible refine(qj.calls k _ _ l2 (rd l3 (ax)) true _ ?ng ?ni dg.out).mono ?_);(case ng=>repeat(first|exact(nT bL.out (nC HB.out))|(with_reducible refine uL ?_ _)|(with_reducible refine uK ?_ _)|(with_reducible refine uo ?_)));(case ni=>exact bM.out);rintro e w' ⟨rfl,⟨nd,rfl⟩⟩)|(go_at_call 83;(with_reducible refine(vI.calls _ _ l3 true _ ?ng ?ni dH.out).mono ?_);(case ng=>repeat(first|exact(nT ap.out (nC HB.out))|(with_reducible refine uL ?_ _)|(with_reducible refine uK ?_ _)|(with_reducible refine uo ?_)));(case ni=>exact bN.out);rintro e w' ⟨rfl,⟨nd,rfl⟩⟩))
       go_meet
       case rel=>exact⟨_,(false),(uQ),H',⟨yP⟩,⟨nG ab.out⟩,⟨nC HB.out⟩⟩
      ·have H':=dm H;clear H;have aJ:0<=(0:Int):=(by omega);have aK:0<(l3.length:Int):=nD;obtain⟨bp,bw,ag⟩:=oG ap.out 0 aJ aK;cases bw;have b2:(0<l3.length)=True:=eq_true (by omega);(try rw[show((0:Int)).toNat=0 from rfl]at ag);(try rw[Addr.add_zero']at ag);replace ag:=nE HB ag;replace aJ:=eq_true aJ;replace aK:=eq_true aK
       go_wp2_with (first|(go_at_call 47;(with_reducible refine(qj.calls k _ _ l2 (rd l3 0) true _ ?ng ?ni ce.out).mono ?_);(case ng=>exact nO (nT bL.out HB.out));(case ni=>exact bM.out);rintro e w' ⟨rfl,⟨nd,rfl⟩⟩;have aS:0<=((ax):Int):=nD;have aT:(ax)<(l3.length:Int):=nD;obtain⟨bO,bV,aN⟩:=oG ap.out (ax) aS aT;obtain rfl:bp=bO:=(by injection bV);replace aN:=nE HB aN;replace aS:=eq_true aS;replace aT:=eq_true aT)|(go_at_call 47;(with_reducible refine(qj.calls k _ _ l2 (rd l3 (ax)) true _ ?ng ?ni dg.out).mono ?_);(case ng=>repeat(first|exact(nT bL.out (nC HB.out))|(with_reducible refine uL ?_ _)|(with_reducible refine uK ?_ _)|(with_reducible refine uo ?_)));(case ni=>exact bM.out);rintro e w' ⟨rfl,⟨nd,rfl⟩⟩)|(go_at_call 83;(with_reducible refine(vI.calls _ _ l3 false _ ?ng ?ni dH.out).mono ?_);(case ng=>repeat(first|exact(nT ap.out (nC HB.out))|(with_reducible refine uL ?_ _)|(with_reducible refine uK ?_ _)|(with_reducible refine uo ?_)));(case ni=>exact bN.out);rintro e w' ⟨rfl,⟨nd,rfl⟩⟩))
       go_meet
       case rel=>exact⟨_,(decide ((l3.length:Int)<4)),(uQ),H',⟨yP⟩,⟨nG ab.out⟩,⟨nC HB.out⟩⟩
     ·have H':=dm H;clear H;have aJ:0<=(0:Int):=(by omega);have aK:0<(l3.length:Int):=nD;obtain⟨bp,bw,ag⟩:=oG ap.out 0 aJ aK;cases bw;have b2:(0<l3.length)=True:=eq_true (by omega);(try rw[show((0:Int)).toNat=0 from rfl]at ag);(try rw[Addr.add_zero']at ag);replace ag:=nE HB ag;replace aJ:=eq_true aJ;replace aK:=eq_true aK
      go_wp2_with (first|(go_at_call 47;(with_reducible refine(qj.calls k _ _ l2 (rd l3 0) true _ ?ng ?ni ce.out).mono ?_);(case ng=>exact nO (nT bL.out HB.out));(case ni=>exact bM.out);rintro e w' ⟨rfl,⟨nd,rfl⟩⟩;have aS:0<=((ax):Int):=nD;have aT:(ax)<(l3.length:Int):=nD;obtain⟨bO,bV,aN⟩:=oG ap.out (ax) aS aT;obtain rfl:bp=bO:=(by injection bV);replace aN:=nE HB aN;replace aS:=eq_true aS;replace aT:=eq_true aT)|(go_at_call 47;(with_reducible refine(qj.calls k _ _ l2 (rd l3 (ax)) false _ ?ng ?ni dg.out).mono ?_);(case ng=>repeat(first|exact(nT bL.out (nC HB.out))|(with_reducible refine uL ?_ _)|(with_reducible refine uK ?_ _)|(with_reducible refine uo ?_)));(case ni=>exact bM.out);rintro e w' ⟨rfl,⟨nd,rfl⟩⟩))
      go_meet
      case rel=>exact⟨_,(true),(uQ),H',⟨yP⟩,⟨nG ab.out⟩,⟨nC HB.out⟩⟩
    ·have H':=dm H;clear H;have aJ:0<=(0:Int):=(by omega);have aK:0<(l3.length:Int):=nD;obtain⟨bp,bw,ag⟩:=oG ap.out 0 aJ aK;cases bw;have b2:(0<l3.length)=True:=eq_true (by omega);(try rw[show((0:Int)).toNat=0 from rfl]at ag);(try rw[Addr.add_zero']at ag);replace ag:=nE HB ag;replace aJ:=eq_true aJ;replace aK:=eq_true aK
     go_wp2_with (first|(go_at_call 47;(with_reducible refine(qj.calls k _ _ l2 (rd l3 0) false _ ?ng ?ni ce.out).mono ?_);(case ng=>exact nO (nT bL.out HB.out));(case ni=>exact bM.out);rintro e w' ⟨rfl,⟨nd,rfl⟩⟩))
     go_meet
     case rel=>exact⟨_,(true),(uQ),H',⟨yP⟩,⟨nG ab.out⟩,⟨nC HB.out⟩⟩
 case rest=>
  clear df;obtain⟨kq,bS,rfl,HA,bI,ab,HB⟩:=hcut;cases kq with
  |zero=>exact absurd HA.out (by simp[oH.j0])
  |succ dh=>
   have H:=HA.out;clear HA;simp only[oH.j0]at H
   rcases pJ H with⟨h_,H_⟩|⟨h_,H_⟩<;> (subst h_;clear H;have H:=H_;clear H_)
   ·obtain rfl:=Option.some.inj H
    go_wp2
    go_ret
    exact⟨Gm,nC HB.out⟩
   ·have H':=dm H;clear H
    go_wp2
    go_loopg [11] dh (fun kq dT w'=>∃ (aa:Int),dT=.int .i64 aa/\lm (oH.l0 kq l1 l2 l3 aa ae ac=some r)/\lm (kq<=dh)/\lm (w'.heap[ao]? =some (.cells #[.int .i64 ae,(.slice av ac.length aw)] 31 (0,0)))/\lm (Below w.heap.size w w'))
    case atStart=>exact⟨(0),(uQ),H',⟨Nat.le_refl _⟩,⟨nG ab.out⟩,⟨nC HB.out⟩⟩
    case round=>
     clear H';(try clear cf);obtain⟨aa,rfl,HA,bJ,ab,HB⟩:=hrel;cases gk with
     |zero=>exact absurd HA.out (by simp[oH.l0])
     |succ k2=>
      have H:=HA.out;clear HA;simp only[oH.l0]at H
      by_cases bX:aa<(l3.length:Int)
      ·rw[if_pos bX]at H;have cH:=decide_eq_true bX;clear bX;have cj:=dm H;clear H
       go_upto_region 6 with(fail)
       go_cut [12] (fun dU wc=>∃ (kq:Nat) (aX:Bool),dU=.bool aX/\lm (oH.j2 kq l1 l2 l3 aa aX ae ac=some r)/\lm (kq<=k2)/\lm (wc.heap[ao]? =some (.cells #[.int .i64 ae,(.slice av ac.length aw)] 31 (0,0)))/\lm (Below w.heap.size w wc))
       case first=>
        have H:=cj.out;clear cj
        by_cases bY:aa>0
        ·rw[if_pos bY]at H;have bP:=decide_eq_true bY;clear bY;(first|rw[bP]|(simp only[qA,rz];rw[bP])|skip);have H':=dm H;clear H
         go_wp2
         go_meet
         case rel=>exact⟨_,(decide ((wrap64 (aa+1))<(l3.length:Int))),(uQ),H',⟨by have:=bI.out;have:=bJ.out;first|omega|exact Nat.le_refl _⟩,⟨nG ab.out⟩,⟨nC HB.out⟩⟩
        ·rw[if_neg bY]at H;have bP:=decide_eq_false bY;clear bY;(first|rw[bP]|(simp only[qA,rz];rw[bP])|skip);have H':=dm H;clear H
         go_wp2
         go_meet
         case rel=>exact⟨_,(false),(uQ),H',⟨by have:=bI.out;have:=bJ.out;first|omega|exact Nat.le_refl _⟩,⟨nG ab.out⟩,⟨nC HB.out⟩⟩
       case rest=>
        clear cj;(try clear cH);obtain⟨kq,aX,rfl,HA,bv,ab,HB⟩:=hcut;cases kq with
        |zero=>exact absurd HA.out (by simp[oH.j2])
        |succ ai=>
         have H:=HA.out;clear HA;simp only[oH.j2]at H;have ck:=dm H;clear H
         go_upto_region 7 with(fail)
         go_cut [104] (fun dN wc=>∃ (kq:Nat) (bq:Bool),dN=.bool bq/\lm (oH.j3 kq l1 l2 l3 aa bq ae ac=some r)/\lm (kq<=ai)/\lm (wc.heap[ao]? =some (.cells #[.int .i64 ae,(.slice av ac.length aw)] 31 (0,0)))/\lm (Below w.heap.size w wc))
         case first=>
          have H:=ck.out;clear ck
          obtain⟨cJ,H⟩:=oz H;(first|rw[cJ]|(simp only[qA,rz];rw[cJ])|skip)
          obtain⟨eb,H⟩:=oz H;obtain⟨b1,cM,H⟩:=ol H;(try dsimp only at H)
          rcases pJ H with⟨h_,H_⟩|⟨h_,H_⟩<;> (subst h_;clear H;have H:=H_;clear H_)
          ·skip
           rcases pJ H with⟨h_,H_⟩|⟨h_,H_⟩<;> (subst h_;clear H;have H:=H_;clear H_)
           ·obtain⟨aW,dI,H⟩:=ol H;(try dsimp only at H)
            rcases pJ H with⟨h_,H_⟩|⟨h_,H_⟩<;> (subst h_;clear H;have H:=H_;clear H_)
            ·have H':=dm H;clear H;try go_wp2
             replace ab:=dm (nV ab.out);replace HB:=dm (o9 HB.out);have aL:0<=(aa:Int):=nD;have aM:aa<(l3.length:Int):=nD;obtain⟨ay,bx,ah⟩:=oG ap.out aa aL aM;have am:=ah;cases bx;replace ah:=nE HB ah;replace aL:=eq_true aL;replace aM:=eq_true aM;have bz:0<=(aa:Int):=nD;have bA:aa<(l3.length:Int):=nD;obtain⟨b3,cl,aD⟩:=oG ap.out aa bz bA;have aO:=aD;obtain rfl:ay=b3:=(by injection cl);replace aD:=nE HB aD;replace bz:=eq_true bz;replace bA:=eq_true bA;refine pU 28 (S:=fun w'=>w'.cell? ⟨ao,0,none⟩=some (.int .i64 ae)/\w'.cell? ⟨ao,1,none⟩=some (.slice av ac.length aw)/\w'.cell? (ay.add (aa).toNat)=some (.int .i64 (rd l3 aa))/\w'.cell? (ay.add (aa).toNat)=some (.int .i64 (rd l3 aa))) [] ⟨nk ab 0,nk ab 1,(nE HB am),(nE HB aO)⟩ oH.uT oH.uO (fun hHeld HT_ HW_=>?_);generalize wc.drew=ep at ab HB ah aD hHeld⊢;refine lq 1 78 2 ?_;refine lq 2 79 6 ?_;refine lq 3 80 14 ?_;refine p8 0 77 15 ?_;refine p8 4 81 31 ?_;refine oD 5 82 63 (fun K hK=>?_);refine oO Try.func85 #[.agg #[.int .i64 ae,.slice av ac.length aw],.int .i64 (rd l3 aa)] ?_;with_reducible refine(rf.calls ai ae _ _ ac (rd l3 aa) true _ ?ng ?ni cM.out).mono ?_
             (case ng=>exact nO (nT bn.out HB.out));(case ni=>exact bo.out);rintro e eq ⟨rfl,hb⟩;refine⟨_,rfl,?_⟩;replace ab:=nA ab hb;replace HB:=nJ HB hb;(try clear hb);refine hK.out _ _ ⟨nk ab 0,nk ab 1,(nE HB am),(nE HB aO)⟩ (fun hHeld=>?_);clear hK K;refine nQ 82 ?_;refine lq 6 83 127 ?_;refine lq 7 84 255 ?_;refine lq 8 85 511 ?_;refine lq 9 86 1023 ?_;refine lq 10 87 2047 ?_;refine lq 11 88 4095 ?_;refine lq 12 89 8191 ?_;refine lq 13 90 16383 ?_;refine p8 14 91 32767 ?_;refine oD 15 92 65535 (fun K hK=>?_);refine oO Try.func47 #[.slice A2 l2.length c2,.int .i64 (rd l3 aa)] ?_;with_reducible refine(qj.calls ai _ _ l2 (rd l3 aa) true _ ?ng ?ni dI.out).mono ?_
             (case ng=>exact nO (nT bL.out HB.out));(case ni=>exact bM.out);rintro e w' ⟨rfl,⟨nd,rfl⟩⟩;refine⟨_,rfl,?_⟩;refine hK.out _ _ ⟨nk ab 0,nk ab 1,(nE HB am),(nE HB aO)⟩ (fun hHeld=>?_);clear hK K;refine nQ 92 ?_;refine lq 16 93 131071 ?_;refine oC 17 94 262143 ?_;refine oC 18 95 524287 ?_;refine oC 19 96 1048575 ?_;refine oC 20 97 2097151 ?_;refine oC 21 98 4194303 ?_;refine oC 22 99 8388607 ?_;refine oC 23 100 16777215 ?_;refine oC 24 101 33554431 ?_;refine lq 25 102 67108863 ?_;refine lq 26 103 134217727 ?_;refine lq 27 104 268435455 ?_;refine pM (pQ HT_.out (wY)) ?_;try go_wp2
             go_meet
             case rel=>exact⟨_,(true),(uQ),H',⟨El⟩,⟨nG ab.out⟩,⟨nC HB.out⟩⟩
            ·have ec:=eq_true (of_decide_eq_true (uh):0<=aa)
             obtain⟨cg,H⟩:=qd H;have ed:=eq_true cg;have ee:=decide_eq_true cg;clear cg;obtain⟨aI,dV,H⟩:=ol H;(try dsimp only at H);have H':=dm H;clear H;try go_wp2
             replace ab:=dm (nV ab.out);replace HB:=dm (o9 HB.out);have aL:0<=(aa:Int):=nD;have aM:aa<(l3.length:Int):=nD;obtain⟨ay,bx,ah⟩:=oG ap.out aa aL aM;have am:=ah;cases bx;replace ah:=nE HB ah;replace aL:=eq_true aL;replace aM:=eq_true aM;have bz:0<=(aa:Int):=nD;have bA:aa<(l3.length:Int):=nD;obtain⟨b3,cl,aD⟩:=oG ap.out aa bz bA;have aO:=aD;obtain rfl:ay=b3:=(by injection cl);replace aD:=nE HB aD;replace bz:=eq_true bz;replace bA:=eq_true bA;have cm:0<=(aa:Int):=nD;have cn:aa<(l3.length:Int):=nD;obtain⟨dp,dO,br⟩:=oG ap.out aa cm cn;have bu:=br;obtain rfl:ay=dp:=(by injection dO);replace br:=nE HB br;replace cm:=eq_true cm;replace cn:=eq_true cn;refine pU 28 (S:=fun w'=>w'.cell? ⟨ao,0,none⟩=some (.int .i64 ae)/\w'.cell? ⟨ao,1,none⟩=some (.slice av ac.length aw)/\w'.cell? (ay.add (aa).toNat)=some (.int .i64 (rd l3 aa))/\w'.cell? (ay.add (aa).toNat)=some (.int .i64 (rd l3 aa))/\w'.cell? (ay.add (aa).toNat)=some (.int .i64 (rd l3 aa))) [] ⟨nk ab 0,nk ab 1,(nE HB am),(nE HB aO),(nE HB bu)⟩ oH.uT oH.uO (fun hHeld HT_ HW_=>?_);generalize wc.drew=er at ab HB ah aD br hHeld⊢;refine lq 1 78 2 ?_;refine lq 2 79 6 ?_;refine lq 3 80 14 ?_;refine Gi 0 77 15 ?_;refine Gi 4 81 31 ?_;refine oD 5 82 63 (fun K hK=>?_);refine oO Try.func85 #[.agg #[.int .i64 ae,.slice av ac.length aw],.int .i64 (rd l3 aa)] ?_;with_reducible refine(rf.calls ai ae _ _ ac (rd l3 aa) true _ ?ng ?ni cM.out).mono ?_
             (case ng=>exact nO (nT bn.out HB.out));(case ni=>exact bo.out);rintro e es ⟨rfl,hb⟩;refine⟨_,rfl,?_⟩;replace ab:=nA ab hb;replace HB:=nJ HB hb;(try clear hb);refine hK.out _ _ ⟨nk ab 0,nk ab 1,(nE HB am),(nE HB aO),(nE HB bu)⟩ (fun hHeld=>?_);clear hK K;refine nQ 82 ?_;refine lq 6 83 127 ?_;refine lq 7 84 255 ?_;refine lq 8 85 511 ?_;refine lq 9 86 1023 ?_;refine lq 10 87 2047 ?_;refine lq 11 88 4095 ?_;refine lq 12 89 8191 ?_;refine lq 13 90 16383 ?_;refine Gi 14 91 32767 ?_;refine oD 15 92 65535 (fun K hK=>?_);refine oO Try.func47 #[.slice A2 l2.length c2,.int .i64 (rd l3 aa)] ?_;with_reducible refine(qj.calls ai _ _ l2 (rd l3 aa) false _ ?ng ?ni dI.out).mono ?_
             (case ng=>exact nO (nT bL.out HB.out));(case ni=>exact bM.out);rintro e w' ⟨rfl,⟨nd,rfl⟩⟩;refine⟨_,rfl,?_⟩;obtain⟨en,cQ,_,cS,_⟩:=info_parts info3;obtain⟨dW,di,dj⟩:=CY (P:=Try.prog) (Value.int .i64) 0 45 3 .i64 Try.underlying45 cQ cS (some ay) c3 l3 aa nD nD bN.out;have dq:=dm (zR (h1:=fun _=>rfl) (di _ (yV ap.out)));have dr:=dm dj;clear di dj cQ cS;refine hK.out _ _ ⟨nk ab 0,nk ab 1,(nE HB am),(nE HB aO),(nE HB bu)⟩ (fun hHeld=>?_);clear hK K;refine nQ 92 ?_;refine lq 16 93 131071 ?_;refine lq 17 94 262143 ?_;refine lq 18 95 524287 ?_;refine lq 19 96 1048575 ?_;refine lq 20 97 2097151 ?_;refine lq 21 98 4194303 ?_;refine lq 22 99 8388607 ?_;refine Gi 23 100 16777215 ?_;refine oD 24 101 33554431 (fun K hK=>?_);refine ug Try.func47 (wY) rfl #[.slice (some ay) (l3.take (aa:Int).toNat).length c3,.int .i64 (rd l3 aa)] (by rfl) rfl rfl (by(try simp only[List.map_toArray,List.map_cons,List.map_nil]);first|done|(rw[show(l3.take (aa:Int).toNat).length=aa.toNat from(by rw[List.length_take];have h_:(aa:Int)<=(l3.length:Int):=nD;omega)]<;>rfl)|rfl|(simp only[List.length_drop,List.length_take];rfl)) ?_;with_reducible refine(qj.calls ai _ _ (l3.take (aa:Int).toNat) (rd l3 aa) aI _ ?ng ?ni dV.out).mono ?_
             (case ng=>repeat(first|exact(nT dq.out (nC HB.out))|(with_reducible refine uL ?_ _)|(with_reducible refine uK ?_ _)|(with_reducible refine uo ?_)));(case ni=>exact dr.out);rintro e w' ⟨rfl,⟨nd,rfl⟩⟩;refine⟨_,rfl,?_⟩;refine hK.out _ _ ⟨nk ab 0,nk ab 1,(nE HB am),(nE HB aO),(nE HB bu)⟩ (fun hHeld=>?_);clear hK K;refine nQ 101 ?_;refine lq 25 102 67108863 ?_;refine lq 26 103 134217727 ?_;refine lq 27 104 268435455 ?_;refine pM (pQ HT_.out (wY)) ?_;try go_wp2
             go_meet
             case rel=>exact⟨_,(aI),(uQ),H',⟨El⟩,⟨nG ab.out⟩,⟨nC HB.out⟩⟩
           ·have H':=dm H;clear H;try go_wp2
            replace ab:=dm (nV ab.out);replace HB:=dm (o9 HB.out);have aL:0<=(aa:Int):=nD;have aM:aa<(l3.length:Int):=nD;obtain⟨ay,bx,ah⟩:=oG ap.out aa aL aM;have am:=ah;cases bx;replace ah:=nE HB ah;replace aL:=eq_true aL;replace aM:=eq_true aM;refine pU 28 (S:=fun w'=>w'.cell? ⟨ao,0,none⟩=some (.int .i64 ae)/\w'.cell? ⟨ao,1,none⟩=some (.slice av ac.length aw)/\w'.cell? (ay.add (aa).toNat)=some (.int .i64 (rd l3 aa))) [] ⟨nk ab 0,nk ab 1,(nE HB am)⟩ oH.uT oH.uO (fun hHeld HT_ HW_=>?_);generalize wc.drew=et at ab HB ah hHeld⊢;refine lq 1 78 2 ?_;refine lq 2 79 6 ?_;refine lq 3 80 14 ?_;refine vP 0 77 15 ?_;refine vP 4 81 31 ?_;refine oD 5 82 63 (fun K hK=>?_);refine oO Try.func85 #[.agg #[.int .i64 ae,.slice av ac.length aw],.int .i64 (rd l3 aa)] ?_;with_reducible refine(rf.calls ai ae _ _ ac (rd l3 aa) true _ ?ng ?ni cM.out).mono ?_
            (case ng=>exact nO (nT bn.out HB.out));(case ni=>exact bo.out);rintro e eu ⟨rfl,hb⟩;refine⟨_,rfl,?_⟩;replace ab:=nA ab hb;replace HB:=nJ HB hb;(try clear hb);refine hK.out _ _ ⟨nk ab 0,nk ab 1,(nE HB am)⟩ (fun hHeld=>?_);clear hK K;refine nQ 82 ?_;refine lq 6 83 127 ?_;refine lq 7 84 255 ?_;refine lq 8 85 511 ?_;refine lq 9 86 1023 ?_;refine oC 10 87 2047 ?_;refine oC 11 88 4095 ?_;refine oC 12 89 8191 ?_;refine oC 13 90 16383 ?_;refine oC 14 91 32767 ?_;refine oC 15 92 65535 ?_;refine oC 16 93 131071 ?_;refine oC 17 94 262143 ?_;refine oC 18 95 524287 ?_;refine oC 19 96 1048575 ?_;refine oC 20 97 2097151 ?_;refine oC 21 98 4194303 ?_;refine oC 22 99 8388607 ?_;refine oC 23 100 16777215 ?_;refine oC 24 101 33554431 ?_;refine oC 25 102 67108863 ?_;refine lq 26 103 134217727 ?_;refine lq 27 104 268435455 ?_;refine pM (pQ HT_.out (wY)) ?_;try go_wp2
            go_meet
            case rel=>exact⟨_,(false),(uQ),H',⟨El⟩,⟨nG ab.out⟩,⟨nC HB.out⟩⟩
          ·have H':=dm H;clear H;try go_wp2
           replace ab:=dm (nV ab.out);replace HB:=dm (o9 HB.out);have aL:0<=(aa:Int):=nD;have aM:aa<(l3.length:Int):=nD;obtain⟨ay,bx,ah⟩:=oG ap.out aa aL aM;have am:=ah;cases bx;replace ah:=nE HB ah;replace aL:=eq_true aL;replace aM:=eq_true aM;refine pU 28 (S:=fun w'=>w'.cell? ⟨ao,0,none⟩=some (.int .i64 ae)/\w'.cell? ⟨ao,1,none⟩=some (.slice av ac.length aw)/\w'.cell? (ay.add (aa).toNat)=some (.int .i64 (rd l3 aa))) [] ⟨nk ab 0,nk ab 1,(nE HB am)⟩ oH.uT oH.uO (fun hHeld HT_ HW_=>?_);generalize wc.drew=ev at ab HB ah hHeld⊢;refine lq 1 78 2 ?_;refine lq 2 79 6 ?_;refine lq 3 80 14 ?_;refine vP 0 77 15 ?_;refine vP 4 81 31 ?_;refine oD 5 82 63 (fun K hK=>?_);refine oO Try.func85 #[.agg #[.int .i64 ae,.slice av ac.length aw],.int .i64 (rd l3 aa)] ?_;with_reducible refine(rf.calls ai ae _ _ ac (rd l3 aa) false _ ?ng ?ni cM.out).mono ?_
           (case ng=>exact nO (nT bn.out HB.out));(case ni=>exact bo.out);rintro e ew ⟨rfl,hb⟩;refine⟨_,rfl,?_⟩;replace ab:=nA ab hb;replace HB:=nJ HB hb;(try clear hb);refine hK.out _ _ ⟨nk ab 0,nk ab 1,(nE HB am)⟩ (fun hHeld=>?_);clear hK K;refine nQ 82 ?_;refine lq 6 83 127 ?_;refine lq 7 84 255 ?_;refine oC 8 85 511 ?_;refine oC 9 86 1023 ?_;refine oC 10 87 2047 ?_;refine oC 11 88 4095 ?_;refine oC 12 89 8191 ?_;refine oC 13 90 16383 ?_;refine oC 14 91 32767 ?_;refine oC 15 92 65535 ?_;refine oC 16 93 131071 ?_;refine oC 17 94 262143 ?_;refine oC 18 95 524287 ?_;refine oC 19 96 1048575 ?_;refine oC 20 97 2097151 ?_;refine oC 21 98 4194303 ?_;refine oC 22 99 8388607 ?_;refine oC 23 100 16777215 ?_;refine oC 24 101 33554431 ?_;refine oC 25 102 67108863 ?_;refine oC 26 103 134217727 ?_;refine lq 27 104 268435455 ?_;refine pM (pQ HT_.out (wY)) ?_;try go_wp2
           go_meet
           case rel=>exact⟨_,(true),(uQ),H',⟨El⟩,⟨nG ab.out⟩,⟨nC HB.out⟩⟩
         case rest=>
          clear ck;obtain⟨kq,bq,rfl,HA,bQ,ab,HB⟩:=hcut;cases kq with
          |zero=>exact absurd HA.out (by simp[oH.j3])
          |succ aR=>
           have H:=HA.out;clear HA;simp only[oH.j3]at H
           rcases pJ H with⟨h_,H_⟩|⟨h_,H_⟩<;> (subst h_;clear H;have H:=H_;clear H_)
           ·obtain rfl:=Option.some.inj H
            go_wp2
            go_ret
            exact⟨Gm,nC HB.out⟩
           ·skip
            by_cases bR:aa=0
            ·rw[if_pos bR]at H;have cT:=beq_iff_eq.mpr bR;have cU:=bne_eq_false_iff_eq.mpr bR;clear bR;have H':=dm H;clear H
             go_wp2
             go_roundg aR
             case measure=>have:=bI.out;have:=bJ.out;have:=bv.out;have:=bQ.out;omega
             case rel=>exact⟨(wrap64 (aa+1)),(uQ),H',⟨by have:=bI.out;have:=bJ.out;have:=bv.out;have:=bQ.out;omega⟩,⟨nG ab.out⟩,⟨nC HB.out⟩⟩
            ·rw[if_neg bR]at H;have cT:=beq_eq_false_iff_ne.mpr bR;have cU:=bne_iff_ne.mpr bR;obtain⟨aq,a_⟩:∃j_:Int,(wrap64 (aa - 1))=j_:=⟨_,rfl⟩;replace H:(if 0<=(aq) then(if(aq)<(l3.length:Int) then(if 0<=aa then(if aa<(l3.length:Int) then((v_.f aR ae ac (rd l3 (aq)) (rd l3 aa)).bind fun bc=>(if bc=true then(oH.l1 aR l1 l2 l3 aa 0 ae ac) else(some false))) else(none)) else(none)) else(none)) else(none))=some r:=by first|(rw[a_]at H;exact H)|(simp only[a_]at H⊢;exact H)
             have dk:(IntKind.i64.wrap (aa - 1))=aq:=(qA _).trans a_
             obtain⟨dt,H⟩:=oz H
             obtain⟨du,H⟩:=oz H
             obtain⟨dv,H⟩:=oz H
             obtain⟨dw,H⟩:=oz H;obtain⟨bc,dJ,H⟩:=ol H;(try dsimp only at H)
             rcases pJ H with⟨h_,H_⟩|⟨h_,H_⟩<;> (subst h_;clear H;have H:=H_;clear H_)
             ·have H':=dm H;clear H;try go_wp2
              replace ab:=dm (nV ab.out);replace HB:=dm (o9 HB.out);have bh:0<=((aq):Int):=nD;have bj:(aq)<(l3.length:Int):=nD;obtain⟨az,co,aA⟩:=oG ap.out (aq) bh bj;have aY:=aA;cases co;replace aA:=nE HB aA;replace bh:=eq_true bh;replace bj:=eq_true bj;have bk:0<=(aa:Int):=nD;have bl:aa<(l3.length:Int):=nD;obtain⟨b4,cp,aB⟩:=oG ap.out aa bk bl;have aZ:=aB;obtain rfl:az=b4:=(by injection cp);replace aB:=nE HB aB;replace bk:=eq_true bk;replace bl:=eq_true bl;refine pU 12 (S:=fun w'=>w'.cell? ⟨ao,0,none⟩=some (.int .i64 ae)/\w'.cell? ⟨ao,1,none⟩=some (.slice av ac.length aw)/\w'.cell? (az.add ((aq)).toNat)=some (.int .i64 (rd l3 (aq)))/\w'.cell? (az.add (aa).toNat)=some (.int .i64 (rd l3 aa))) [] ⟨nk ab 0,nk ab 1,(nE HB aY),(nE HB aZ)⟩ oH.Ee oH.Ea (fun hHeld HT_ HW_=>?_);generalize wc.drew=ex at ab HB aA aB hHeld⊢;refine lq 1 108 2 ?_;refine lq 2 109 6 ?_;refine lq 3 110 14 ?_;refine lq 4 111 30 ?_;refine lq 6 113 94 ?_;refine lq 7 114 222 ?_;refine lq 8 115 478 ?_;refine p8 0 107 479 ?_;refine p8 5 112 511 ?_;refine p8 9 116 1023 ?_;refine oD 10 117 2047 (fun K hK=>?_);refine ug Try.func86 (wY) rfl #[.agg #[.int .i64 ae,.slice av ac.length aw],.int .i64 (rd l3 (aq)),.int .i64 (rd l3 aa)] (by rfl) rfl rfl (KW) ?_;with_reducible refine(v_.calls aR ae _ _ ac (rd l3 (aq)) (rd l3 aa) true _ ?ng ?ni dJ.out).mono ?_
              (case ng=>exact nO (nT bn.out HB.out));(case ni=>exact bo.out);rintro e ey ⟨rfl,hb⟩;refine⟨_,rfl,?_⟩;replace ab:=nA ab hb;replace HB:=nJ HB hb;(try clear hb);refine hK.out _ _ ⟨nk ab 0,nk ab 1,(nE HB aY),(nE HB aZ)⟩ (fun hHeld=>?_);clear hK K;refine nQ 117 ?_;refine lq 11 118 4095 ?_;refine pM (pQ HT_.out (wY)) ?_;try go_wp2
              go_loopg [13] aR (fun kq dX w'=>∃ (af:Int),dX=.int .i64 af/\lm (oH.l1 kq l1 l2 l3 aa af ae ac=some r)/\lm (kq<=aR)/\lm (w'.heap[ao]? =some (.cells #[.int .i64 ae,(.slice av ac.length aw)] 31 (0,0)))/\lm (Below w.heap.size w w'))
              case atStart=>exact⟨(0),(uQ),H',⟨Nat.le_refl _⟩,⟨nG ab.out⟩,⟨nC HB.out⟩⟩
              case round=>
               clear H';(try clear ch bR cT cU dt du dv dw ci aA aB bh bk bj bl);obtain⟨af,rfl,HA,c_,ab,HB⟩:=hrel;cases gk with
               |zero=>exact absurd HA.out (by simp[oH.l1])
               |succ k5=>
                have H:=HA.out;clear HA;simp only[oH.l1]at H
                by_cases bZ:af<(l1.length:Int)
                ·rw[if_pos bZ]at H;have dx:=decide_eq_true bZ;clear bZ
                 obtain⟨ef,H⟩:=oz H;obtain⟨au,bH⟩:∃j_:Int,(wrap64 (aa - 1))=j_:=⟨_,rfl⟩;replace H:(if 0<=(au) then(if(au)<(l3.length:Int) then(if 0<=aa then(if aa<(l3.length:Int) then((tK.f (rd l3 (au)) (rd l3 aa)).bind fun bK=>(if(((ny l1 af).f0)==bK.1&&(((ny l1 af).f1)==bK.2))=true then(some false) else(oH.l1 k5 l1 l2 l3 aa (wrap64 (af+1)) ae ac))) else(none)) else(none)) else(none)) else(none))=some r:=by first|(rw[bH]at H;exact H)|(simp only[bH]at H⊢;exact H)
                 have dY:(IntKind.i64.wrap (aa - 1))=au:=(qA _).trans bH;clear a_ dk
                 obtain⟨eg,H⟩:=oz H
                 obtain⟨eh,H⟩:=oz H
                 obtain⟨ei,H⟩:=oz H
                 obtain⟨ej,H⟩:=oz H;obtain⟨⟨aU,aV⟩,dK,H⟩:=ol H;(try dsimp only at H)
                 by_cases bm:(((ny l1 af).f0)==aU&&(((ny l1 af).f1)==aV))=true
                 ·rw[if_pos bm]at H;have dy:(((ny l1 af).f0)==aU&&(((ny l1 af).f1)==aV))=true:=bm;(try(have dz:decide (((ny l1 af).f0)=aU&&(((ny l1 af).f1)==aV))=true:=by simpa using bm));(try(have dA:(((ny l1 af).f0)==aU&&(((ny l1 af).f1)==aV))=true:=by simpa using bm));clear bm;obtain rfl:=Option.some.inj H;try go_wp2
                  replace ab:=dm (nV ab.out);replace HB:=dm (o9 HB.out);have bB:0<=(af:Int):=nD;have bC:af<(l1.length:Int):=nD;obtain⟨ba,cq,aE,aF⟩:=qC dF.out af bB bC;have a6:=aF;have a7:=aE;cases cq;replace aE:=nE HB aE;replace aF:=nE HB aF;replace bB:=eq_true bB;replace bC:=eq_true bC;have bD:0<=((au):Int):=nD;have bE:(au)<(l3.length:Int):=nD;obtain⟨b5,cr,aG⟩:=oG ap.out (au) bD bE;have a8:=aG;obtain rfl:az=b5:=(by injection cr);replace aG:=nE HB aG;replace bD:=eq_true bD;replace bE:=eq_true bE;have bF:0<=(aa:Int):=nD;have bG:aa<(l3.length:Int):=nD;obtain⟨b6,ct,aH⟩:=oG ap.out aa bF bG;have a9:=aH;obtain rfl:az=b6:=(by injection ct);replace aH:=nE HB aH;replace bF:=eq_true bF;replace bG:=eq_true bG;refine pU 15 (S:=fun w'=>w'.cell? (ba.add ((af).toNat*2))=some (.int .i64 ((ny l1 af).f0))/\w'.cell? ⟨(ba.add ((af).toNat*2)).block,(ba.add ((af).toNat*2)).off+1,none⟩=some (.int .i64 ((ny l1 af).f1))/\w'.cell? (az.add ((au)).toNat)=some (.int .i64 (rd l3 (au)))/\w'.cell? (az.add (aa).toNat)=some (.int .i64 (rd l3 aa))) [] ⟨(nE HB a7),(nE HB a6),(nE HB a8),(nE HB a9)⟩ oH.JI oH.JB (fun hHeld HT_ HW_=>?_);generalize wr.drew=ez at ab HB aE aF aG aH hHeld⊢;refine lq 0 125 1 ?_;refine lq 1 126 3 ?_;refine lq 2 127 7 ?_;refine lq 4 129 23 ?_;refine lq 5 130 55 ?_;refine lq 6 131 119 ?_;refine lq 7 132 247 ?_;refine lq 9 134 759 ?_;refine lq 10 135 1783 ?_;refine lq 11 136 3831 ?_;refine p8 3 128 3839 ?_;refine p8 8 133 4095 ?_;refine p8 12 137 8191 ?_;refine oD 13 138 16383 (fun K hK=>?_);refine ug Try.func46 (wY) rfl #[.int .i64 (rd l3 (au)),.int .i64 (rd l3 aa)] (by rfl) rfl rfl (Kb) ?_;with_reducible refine(tK.calls (rd l3 (au)) (rd l3 aa) aU aV _ dK.out).mono ?_
                  rintro e eA ⟨rfl,hb⟩;refine⟨_,rfl,?_⟩;replace ab:=nA ab hb;replace HB:=nJ HB hb;(try clear hb);refine hK.out _ _ ⟨(nE HB a7),(nE HB a6),(nE HB a8),(nE HB a9)⟩ (fun hHeld=>?_);clear hK K;refine nQ 138 ?_;refine lq 14 139 32767 ?_;refine pM (pQ HT_.out (wY)) ?_;try go_wp2
                  go_ret
                  exact⟨by first|rfl|(simp[qa,qb]<;>rfl)|(simp only[←a_,←bH];first|rfl|(simp[qa,qb]<;>rfl))|(simp[*,qa,qb]<;>rfl),nC HB.out⟩
                 ·rw[if_neg bm]at H;have dy:(((ny l1 af).f0)==aU&&(((ny l1 af).f1)==aV))=false:=by simpa using bm
                  (try(have dz:decide (((ny l1 af).f0)=aU&&(((ny l1 af).f1)==aV))=false:=by simpa using bm));(try(have dA:(((ny l1 af).f0)==aU&&(((ny l1 af).f1)==aV))=false:=by simpa using bm));(try(have ek:¬ (((ny l1 af).f0)=aU&&(((ny l1 af).f1)==aV)):=by simpa using bm));clear bm;have H':=dm H;clear H;try go_wp2
                  replace ab:=dm (nV ab.out);replace HB:=dm (o9 HB.out);have bB:0<=(af:Int):=nD;have bC:af<(l1.length:Int):=nD;obtain⟨ba,cq,aE,aF⟩:=qC dF.out af bB bC;have a6:=aF;have a7:=aE;cases cq;replace aE:=nE HB aE;replace aF:=nE HB aF;replace bB:=eq_true bB;replace bC:=eq_true bC;have bD:0<=((au):Int):=nD;have bE:(au)<(l3.length:Int):=nD;obtain⟨b5,cr,aG⟩:=oG ap.out (au) bD bE;have a8:=aG;obtain rfl:az=b5:=(by injection cr);replace aG:=nE HB aG;replace bD:=eq_true bD;replace bE:=eq_true bE;have bF:0<=(aa:Int):=nD;have bG:aa<(l3.length:Int):=nD;obtain⟨b6,ct,aH⟩:=oG ap.out aa bF bG;have a9:=aH;obtain rfl:az=b6:=(by injection ct);replace aH:=nE HB aH;replace bF:=eq_true bF;replace bG:=eq_true bG;refine pU 15 (S:=fun w'=>w'.cell? (ba.add ((af).toNat*2))=some (.int .i64 ((ny l1 af).f0))/\w'.cell? ⟨(ba.add ((af).toNat*2)).block,(ba.add ((af).toNat*2)).off+1,none⟩=some (.int .i64 ((ny l1 af).f1))/\w'.cell? (az.add ((au)).toNat)=some (.int .i64 (rd l3 (au)))/\w'.cell? (az.add (aa).toNat)=some (.int .i64 (rd l3 aa))) [] ⟨(nE HB a7),(nE HB a6),(nE HB a8),(nE HB a9)⟩ oH.JI oH.JB (fun hHeld HT_ HW_=>?_);generalize wr.drew=eB at ab HB aE aF aG aH hHeld⊢;refine lq 0 125 1 ?_;refine lq 1 126 3 ?_;refine lq 2 127 7 ?_;refine lq 4 129 23 ?_;refine lq 5 130 55 ?_;refine lq 6 131 119 ?_;refine lq 7 132 247 ?_;refine lq 9 134 759 ?_;refine lq 10 135 1783 ?_;refine lq 11 136 3831 ?_;refine p8 3 128 3839 ?_;refine p8 8 133 4095 ?_;refine p8 12 137 8191 ?_;refine oD 13 138 16383 (fun K hK=>?_);refine ug Try.func46 (wY) rfl #[.int .i64 (rd l3 (au)),.int .i64 (rd l3 aa)] (by rfl) rfl rfl (Kb) ?_;with_reducible refine(tK.calls (rd l3 (au)) (rd l3 aa) aU aV _ dK.out).mono ?_
                  rintro e eC ⟨rfl,hb⟩;refine⟨_,rfl,?_⟩;replace ab:=nA ab hb;replace HB:=nJ HB hb;(try clear hb);refine hK.out _ _ ⟨(nE HB a7),(nE HB a6),(nE HB a8),(nE HB a9)⟩ (fun hHeld=>?_);clear hK K;refine nQ 138 ?_;refine lq 14 139 32767 ?_;refine pM (pQ HT_.out (wY)) ?_;try go_wp2
                  go_roundg k5
                  case measure=>have:=bI.out;have:=bJ.out;have:=bv.out;have:=bQ.out;have:=c_.out;omega
                  case rel=>exact⟨(wrap64 (af+1)),(uQ),H',⟨by have:=bI.out;have:=bJ.out;have:=bv.out;have:=bQ.out;have:=c_.out;omega⟩,⟨nG ab.out⟩,⟨nC HB.out⟩⟩
                ·rw[if_neg bZ]at H;have dx:=decide_eq_false bZ;clear bZ;have H':=dm H;clear H
                 go_wp2
                 go_roundg k5
                 case measure=>have:=bI.out;have:=bJ.out;have:=bv.out;have:=bQ.out;have:=c_.out;omega
                 case rel=>exact⟨(wrap64 (aa+1)),(uQ),H',⟨by have:=bI.out;have:=bJ.out;have:=bv.out;have:=bQ.out;have:=c_.out;omega⟩,⟨nG ab.out⟩,⟨nC HB.out⟩⟩
             ·obtain rfl:=Option.some.inj H;try go_wp2
              replace ab:=dm (nV ab.out);replace HB:=dm (o9 HB.out);have bh:0<=((aq):Int):=nD;have bj:(aq)<(l3.length:Int):=nD;obtain⟨az,co,aA⟩:=oG ap.out (aq) bh bj;have aY:=aA;cases co;replace aA:=nE HB aA;replace bh:=eq_true bh;replace bj:=eq_true bj;have bk:0<=(aa:Int):=nD;have bl:aa<(l3.length:Int):=nD;obtain⟨b4,cp,aB⟩:=oG ap.out aa bk bl;have aZ:=aB;obtain rfl:az=b4:=(by injection cp);replace aB:=nE HB aB;replace bk:=eq_true bk;replace bl:=eq_true bl;refine pU 12 (S:=fun w'=>w'.cell? ⟨ao,0,none⟩=some (.int .i64 ae)/\w'.cell? ⟨ao,1,none⟩=some (.slice av ac.length aw)/\w'.cell? (az.add ((aq)).toNat)=some (.int .i64 (rd l3 (aq)))/\w'.cell? (az.add (aa).toNat)=some (.int .i64 (rd l3 aa))) [] ⟨nk ab 0,nk ab 1,(nE HB aY),(nE HB aZ)⟩ oH.Ee oH.Ea (fun hHeld HT_ HW_=>?_);generalize wc.drew=eD at ab HB aA aB hHeld⊢;refine lq 1 108 2 ?_;refine lq 2 109 6 ?_;refine lq 3 110 14 ?_;refine lq 4 111 30 ?_;refine lq 6 113 94 ?_;refine lq 7 114 222 ?_;refine lq 8 115 478 ?_;refine p8 0 107 479 ?_;refine p8 5 112 511 ?_;refine p8 9 116 1023 ?_;refine oD 10 117 2047 (fun K hK=>?_);refine ug Try.func86 (wY) rfl #[.agg #[.int .i64 ae,.slice av ac.length aw],.int .i64 (rd l3 (aq)),.int .i64 (rd l3 aa)] (by rfl) rfl rfl (KW) ?_;with_reducible refine(v_.calls aR ae _ _ ac (rd l3 (aq)) (rd l3 aa) false _ ?ng ?ni dJ.out).mono ?_
              (case ng=>exact nO (nT bn.out HB.out));(case ni=>exact bo.out);rintro e eE ⟨rfl,hb⟩;refine⟨_,rfl,?_⟩;replace ab:=nA ab hb;replace HB:=nJ HB hb;(try clear hb);refine hK.out _ _ ⟨nk ab 0,nk ab 1,(nE HB aY),(nE HB aZ)⟩ (fun hHeld=>?_);clear hK K;refine nQ 117 ?_;refine lq 11 118 4095 ?_;refine pM (pQ HT_.out (wY)) ?_;try go_wp2
              go_ret
              exact⟨by first|rfl|(simp[qa,qb]<;>rfl)|(simp only[←a_];first|rfl|(simp[qa,qb]<;>rfl))|(simp[*,qa,qb]<;>rfl),nC HB.out⟩
      ·rw[if_neg bX]at H;have cH:=decide_eq_false bX;clear bX;obtain rfl:=Option.some.inj H
       go_wp2
       go_ret
       exact⟨Gm,nC HB.out⟩
end Go.Proofs.Ytgeonpciodepgaa.P
