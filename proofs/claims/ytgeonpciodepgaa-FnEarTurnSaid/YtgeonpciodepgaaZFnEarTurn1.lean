/- The proof's parts ahead of the row: of no condition of their own. -/
import Derived.Test.YtgeonpciodepgaaZFnEarTurn0
set_option linter.unusedVariables false
set_option linter.unusedSimpArgs false
namespace Go.Proofs.Ytgeonpciodepgaa.P
set_option maxHeartbeats 8000000
set_option maxRecDepth 100000
open Go.RowKit Go.Proofs.YtgeonpciodepgaaW.PrintWords Go.Proofs.YtgeonpciodepgaaW.PrintLast Go.Proofs.YtgeonpciodepgaaW.PrintMore
attribute [local go_sem] max2_int min2_int max_two min_two max_three min_three max_four min_four   -- for this text's walks alone
theorem caae {p:Prop} (h:p:=by exact G.bw af.out):p:=h
theorem caaf {p:Prop} (h:p:=by exact G.bw ac.out):p:=h
theorem caak {p:Prop} (h:p:=by(try simp only[List.map_toArray,List.map_cons,List.map_nil]);first|done|(simp only[aJ];rfl)|rfl|(simp only[List.length_drop,List.length_take];rfl)):p:=h
theorem caag {p:Prop} (h:p:=by rw[hg];exact Nat.ne_of_lt (blk_lt (g:=ah) (o:= .cells #[.int .i64 ag,.slice (some aj) aa.length az] 31 (0,0)) (G.cb ac.out))):p:=h
theorem caah {p:Prop} (h:p:=by rw[hg];exact Nat.ne_of_gt (blk_lt (g:=ah) (o:= .cells #[.int .i64 ag,.slice (some aj) aa.length az] 31 (0,0)) (G.cb ac.out))):p:=h
theorem caai {p:Prop} (h:p:=by rw[hg];exact Nat.ne_of_lt (blk_lt (g:=aq) (o:= .cells #[.int .i64 ag,.int .i64 aI] 59 (0,0)) (G.cb au.out))):p:=h
theorem caaj {p:Prop} (h:p:=by rw[hg];exact Nat.ne_of_gt (blk_lt (g:=aq) (o:= .cells #[.int .i64 ag,.int .i64 aI] 59 (0,0)) (G.cb au.out))):p:=h
theorem caac {p:Prop} (h:p:=by first|rfl|(simp[errW_none,errW_some]<;>rfl)|(simp[*,errW_none,errW_some]<;>rfl)):p:=h
theorem caad {p:Prop} (h:p:=by first|rfl|(simp;done)|(simp[*];done)):p:=h
theorem caaa {p:Prop} (h:p:=by rw[hg];exact(below_size (G.cB HB.out))):p:=h
theorem caab {p:Prop} (h:p:=by kernel_rfl):p:=h
def spec_l6In.f (a0:Int) (a1:Int) (a2:Int):Option (Bool):=if a0>=a1 then(some (decide (a0<=a2))) else(some false)
theorem spec_l6In.calls (a0:Int) (a1:Int) (a2:Int) (r:Bool) (w:World) (h:spec_l6In.f a0 a1 a2=some r):
  Calls Try.prog 75 #[.int .i64 a0,.int .i64 a1,.int .i64 a2] w fun e w'=>e= .returned (.bool r)/\Drawn0 w w':=by
 unfold spec_l6In.f at h;have H:=h;clear h
 by_cases c4:a0>=a1
 ·rw[if_pos c4] at H;have bG:=decide_eq_true c4;clear c4;obtain rfl:=Option.some.inj H
  go_enter Try.func75,Try.ntmps75
  go_wp2
  go_ret
  exact⟨caad,by repeat(first|exact Drawn0.refl _|apply Drawn0.step)⟩
 ·rw[if_neg c4] at H;have bG:=decide_eq_false c4;clear c4;obtain rfl:=Option.some.inj H
  go_enter Try.func75,Try.ntmps75
  go_wp2
  go_ret
  exact⟨caad,by repeat(first|exact Drawn0.refl _|apply Drawn0.step)⟩
def spec_l1Less.f (ag:Int) (aI:Int) (ax:Int) (aM:Int):Option (Bool):=if ag<ax then(some true) else(if ag=ax then(some (decide (aI<aM))) else(some false))
theorem spec_l1Less.calls (ag:Int) (aI:Int) (ax:Int) (aM:Int) (r:Bool) (w:World) (h:spec_l1Less.f ag aI ax aM=some r):
  Calls Try.prog 76 #[.agg #[.int .i64 ag,.int .i64 aI],.agg #[.int .i64 ax,.int .i64 aM]] w fun e w'=>e= .returned (.bool r)/\Below w.heap.size w w':=by
 have bH:=Try.underlying59;have HB:=G.m (Below.refl w.heap.size w);unfold spec_l1Less.f at h;have H:=h;clear h
 by_cases c3:ag<ax
 ·rw[if_pos c3] at H;have bI:=decide_eq_true c3;clear c3;obtain rfl:=Option.some.inj H
  go_enter Try.func76,Try.ntmps76
  go_wp2_with (first|((with_reducible refine G.h 2 rfl ?_);refine G.be 2 #[.int .i64 ag,.int .i64 aI] 59 ?_;intro aq hg w4 hbox hb;have au:=G.m (hbox);have bd:=G.m (caaa:w.heap.size<=aq);have bf:=G.m (caaa:w.heap.size<=aq);replace HB:=G.bs HB hb;clear hb hbox hg)|((with_reducible refine G.h 3 rfl ?_);refine G.be 3 #[.int .i64 ax,.int .i64 aM] 59 ?_;intro ay hg w5 hbox hb;have aQ:=G.m (hbox);have bh:=G.m (caaa:w.heap.size<=ay);have bj:=G.m (caaa:w.heap.size<=ay);replace HB:=G.bs HB hb;have aF:=G.m (caai:aq≠ay);have aG:=G.m (caaj:ay≠aq);replace au:=G.bb au hb;clear hb hbox hg;have dC:=aF.out;have dD:=aG.out;have⟨bv,bw,bx,bz⟩:=G.d2 (w:=w5) au;have⟨cO,cP,cQ,cS⟩:=G.d2 (w:=w5) aQ))
  go_ret
  exact⟨caac,G.cB HB.out⟩
 ·rw[if_neg c3] at H;have bI:=decide_eq_false c3;clear c3
  by_cases c9:ag=ax
  ·rw[if_pos c9] at H;have ba:=beq_iff_eq.mpr c9;have bJ:=bne_eq_false_iff_eq.mpr c9;clear c9;obtain rfl:=Option.some.inj H
   go_enter Try.func76,Try.ntmps76
   go_wp2_with (first|((with_reducible refine G.h 2 rfl ?_);refine G.be 2 #[.int .i64 ag,.int .i64 aI] 59 ?_;intro aq hg dF hbox hb;have au:=G.m (hbox);have bd:=G.m (caaa:w.heap.size<=aq);have bf:=G.m (caaa:w.heap.size<=aq);replace HB:=G.bs HB hb;clear hb hbox hg)|((with_reducible refine G.h 3 rfl ?_);refine G.be 3 #[.int .i64 ax,.int .i64 aM] 59 ?_;intro ay hg bD hbox hb;have aQ:=G.m (hbox);have bh:=G.m (caaa:w.heap.size<=ay);have bj:=G.m (caaa:w.heap.size<=ay);replace HB:=G.bs HB hb;have aF:=G.m (caai:aq≠ay);have aG:=G.m (caaj:ay≠aq);replace au:=G.bb au hb;clear hb hbox hg;have df:=aF.out;have dg:=aG.out;have⟨bK,bL,bM,bN⟩:=G.d2 (w:=bD) au;have⟨bO,bP,bQ,bR⟩:=G.d2 (w:=bD) aQ))
   go_ret
   exact⟨caac,G.cB HB.out⟩
  ·rw[if_neg c9] at H;have ba:=beq_eq_false_iff_ne.mpr c9;have bJ:=bne_iff_ne.mpr c9;obtain rfl:=Option.some.inj H
   go_enter Try.func76,Try.ntmps76
   go_wp2_with (first|((with_reducible refine G.h 2 rfl ?_);refine G.be 2 #[.int .i64 ag,.int .i64 aI] 59 ?_;intro aq hg dG hbox hb;have au:=G.m (hbox);have bd:=G.m (caaa:w.heap.size<=aq);have bf:=G.m (caaa:w.heap.size<=aq);replace HB:=G.bs HB hb;clear hb hbox hg)|((with_reducible refine G.h 3 rfl ?_);refine G.be 3 #[.int .i64 ax,.int .i64 aM] 59 ?_;intro ay hg bE hbox hb;have aQ:=G.m (hbox);have bh:=G.m (caaa:w.heap.size<=ay);have bj:=G.m (caaa:w.heap.size<=ay);replace HB:=G.bs HB hb;have aF:=G.m (caai:aq≠ay);have aG:=G.m (caaj:ay≠aq);replace au:=G.bb au hb;clear hb hbox hg;have dh:=aF.out;have di:=aG.out;have⟨bS,bT,bU,bV⟩:=G.d2 (w:=bE) au;have⟨bW,bX,bY,bZ⟩:=G.d2 (w:=bE) aQ))
   go_ret
   exact⟨caac,G.cB HB.out⟩
mutual
def spec_NetOk.j0:Nat->Bool->Int->List (S59)->Option (Bool)
 |0,_,_,_=>none
 |k+1,cT,aH,ao=>if cT=true then(some false) else(spec_NetOk.l0 k 0 aH ao)
def spec_NetOk.l0:Nat->Int->Int->List (S59)->Option (Bool)
 |0,_,_,_=>none
 |k+1,x3,aH,ao=>if x3<(ao.length:Int) then(if 0<=x3 then((spec_l6In.f ((rd_T59 ao x3).f0) 0 (wrap64 (aH - 1))).bind fun aY=>(if aY=true then((spec_l6In.f ((rd_T59 ao x3).f1) (wrap64 (((rd_T59 ao x3).f0)+1)) (wrap64 (aH - 1))).bind fun aN=>(if aN=true then(if x3>0 then(if 0<=(wrap64 (x3 - 1)) then(if(wrap64 (x3 - 1))<(ao.length:Int) then((spec_l1Less.f ((rd_T59 ao (wrap64 (x3 - 1))).f0) ((rd_T59 ao (wrap64 (x3 - 1))).f1) ((rd_T59 ao x3).f0) ((rd_T59 ao x3).f1)).bind fun aE=>(if aE=true then(spec_NetOk.l0 k (wrap64 (x3+1)) aH ao) else(some false))) else(none)) else(none)) else(spec_NetOk.l0 k (wrap64 (x3+1)) aH ao)) else(some false))) else(some false))) else(none)) else(some true)
end
def spec_NetOk.f (k:Nat) (ag:Int) (aa:List (S59)):Option (Bool):=(spec_l6In.f ag 0 8).bind fun aR=>(if aR=true then(spec_NetOk.j0 k (decide ((aa.length:Int)>64)) ag aa) else(spec_NetOk.j0 k true ag aa))
def spec_NetOk.T7:Bool×List (List Nat×List Nat):=(true,[([],[]),([0],[0]),([],[]),([2],[2]),([3],[3]),([1,4],[1,4]),([5],[5]),([6,5],[6]),([7],[7]),([8,7],[7,8]),([7],[7]),([10,7],[7,10]),([11,7],[7,11]),([7],[7]),([13,7],[7,13]),([14,7],[7,14]),([9,12,15,7,7],[7,9,12,15]),([16,7],[7,16]),([7,17],[7,17]),([18,16],[18]),([19],[19]),([20,19],[19,20]),([21,19,19],[19,21]),([22],[22]),([23,22],[22,23]),([22],[22]),([25,22],[22,25]),([24,26,22],[22,24,26]),([27,22],[22,27]),([22],[22]),([28,29,22,22],[22,28,29]),([30,22],[22,30]),([22,31,19],[19,22,31]),([19,32],[19,32])])
def spec_NetOk.B7:List Nat:=[0,1,0,4,12,31,63,127,255,511,255,1279,3327,255,8447,24831,65535,131071,262143,524287,1048575,2097151,4194303,8388607,16777215,8388607,41943039,134217727,268435455,8388607,1073741823,2147483647,4294967295,8589934591]
theorem spec_NetOk.tab7:rtab .any (opsOf Try.f32 7)=spec_NetOk.T7:=by kernel_rfl
theorem spec_NetOk.bits7:waitsOk spec_NetOk.T7.2 spec_NetOk.B7=true:=by kernel_rfl
theorem spec_NetOk.calls (k:Nat) (ag:Int) (aV:Option Addr) (az:Nat) (aa:List (S59)) (r:Bool) (w:World) (bk:Kd.C k59 w aV aa.length aa) (bl:aa.length<=az) (h:spec_NetOk.f k ag aa=some r):
  Calls Try.prog 32 #[.agg #[.int .i64 ag,.slice aV aa.length az]] w fun e w'=>e= .returned (.bool r)/\Below w.heap.size w w':=by
 have dE:=Try.underlying31;have bH:=Try.underlying59;have aK:=G.m bk;have dj:=G.m bl;clear bk bl;have HB:=G.m (Below.refl w.heap.size w);unfold spec_NetOk.f at h;have H:=h;clear h;have bA:=G.m H;clear H
 go_enter Try.func32,Try.ntmps32
 go_upto_region 1 with(first|((with_reducible refine G.h 1 rfl ?_);(try(refine gate_guard (by rfl) ?_;dsimp only));refine G.be 1 #[.int .i64 ag,.slice aV aa.length az] 31 ?_;intro ah hg w3 hbox hb;have ac:=G.m (hbox);have dk:=G.m (caaa:w.heap.size<=ah);have dl:=G.m (caaa:w.heap.size<=ah);replace HB:=G.bs HB hb;clear hb hbox hg))
 (try simp only[Act.put,List.setIfInBounds_toArray,List.set_cons_zero,List.set_cons_succ])
 go_cut [14] (fun cU wc=>∃ (kq:Nat) (aS:Bool),cU= .bool aS/\Aside0 (spec_NetOk.j0 kq aS ag aa=some r)/\Aside0 (kq<=k)/\Aside0 (wc.heap[ah]? =some (.cells #[.int .i64 ag,(.slice aV aa.length az)] 31 (0,0)))/\Aside0 (Below w.heap.size w wc))
 case first=>
  have H:=bA.out;clear bA;obtain⟨aR,A4,H⟩:=G.bi H;(try dsimp only at H)
  rcases G.bc H with⟨h_,H_⟩|⟨h_,H_⟩<;> (subst h_;clear H;have H:=H_;clear H_)
  ·have H':=G.m H;clear H;have⟨cW,cX,cY,cZ⟩:=G.d2 (w:=w3) ac
   go_wp2_with (first|((with_reducible refine G.f 75 rfl ?_);refine G.gL 7 Try.func75 #[.int .i64 ag,.int .i64 0,.int .i64 8] ?_;(with_reducible refine(spec_l6In.calls ag 0 8 true _ A4.out).mono ?_);rintro e w' ⟨rfl,⟨nd,rfl⟩⟩;refine⟨_,rfl,?_⟩))
   go_meet
   case rel=>exact⟨_,(decide ((aa.length:Int)>64)),(caad),H',⟨by first|omega|exact Nat.le_refl _⟩,⟨G.cb ac.out⟩,⟨G.cB HB.out⟩⟩
  ·have H':=G.m H;clear H;have⟨bv,bw,bx,bz⟩:=G.d2 (w:=w3) ac
   go_wp2_with (first|((with_reducible refine G.f 75 rfl ?_);refine G.gL 7 Try.func75 #[.int .i64 ag,.int .i64 0,.int .i64 8] ?_;(with_reducible refine(spec_l6In.calls ag 0 8 false _ A4.out).mono ?_);rintro e w' ⟨rfl,⟨nd,rfl⟩⟩;refine⟨_,rfl,?_⟩))
   go_meet
   case rel=>exact⟨_,(true),(caad),H',⟨by first|omega|exact Nat.le_refl _⟩,⟨G.cb ac.out⟩,⟨G.cB HB.out⟩⟩
 case rest=>
  clear bA;obtain⟨kq,aS,rfl,HA,bm,ac,HB⟩:=hcut;cases kq with
  |zero=>exact absurd HA.out (by simp[spec_NetOk.j0])
  |succ bB=>
   have H:=HA.out;clear HA;simp only[spec_NetOk.j0] at H
   rcases G.bc H with⟨h_,H_⟩|⟨h_,H_⟩<;> (subst h_;clear H;have H:=H_;clear H_)
   ·obtain rfl:=Option.some.inj H
    go_wp2
    go_ret
    exact⟨caac,G.cB HB.out⟩
   ·have H':=G.m H;clear H
    go_wp2
    go_loopg [3] bB (fun kq v3 w'=>∃ (ab:Int),v3= .int .i64 ab/\Aside0 (spec_NetOk.l0 kq ab ag aa=some r)/\Aside0 (kq<=bB)/\Aside0 (w'.heap[ah]? =some (.cells #[.int .i64 ag,(.slice aV aa.length az)] 31 (0,0)))/\Aside0 (Below w.heap.size w w'))
    case atStart=>exact⟨(0),(caad),H',⟨Nat.le_refl _⟩,⟨G.cb ac.out⟩,⟨G.cB HB.out⟩⟩
    case round=>
     clear H';(try clear c8);obtain⟨ab,rfl,HA,bn,ac,HB⟩:=hrel;cases gk with
     |zero=>exact absurd HA.out (by simp[spec_NetOk.l0])
     |succ k2=>
      have H:=HA.out;clear HA;simp only[spec_NetOk.l0] at H
      by_cases c9:ab<(aa.length:Int)
      ·rw[if_pos c9] at H;have ba:=decide_eq_true c9;clear c9
       obtain⟨dn,H⟩:=G.dp H;obtain⟨aY,aW,H⟩:=G.bi H;(try dsimp only at H)
       rcases G.bc H with⟨h_,H_⟩|⟨h_,H_⟩<;> (subst h_;clear H;have H:=H_;clear H_)
       ·obtain⟨aN,a5,H⟩:=G.bi H;(try dsimp only at H)
        rcases G.bc H with⟨h_,H_⟩|⟨h_,H_⟩<;> (subst h_;clear H;have H:=H_;clear H_)
        ·skip
         by_cases aX:ab>0
         ·rw[if_pos aX] at H;have bC:=decide_eq_true aX;clear aX;obtain⟨ai,aJ⟩:∃j_:Int,(wrap64 (ab - 1))=j_:=⟨_,rfl⟩;replace H:(if 0<=(ai) then(if(ai)<(aa.length:Int) then((spec_l1Less.f ((rd_T59 aa (ai)).f0) ((rd_T59 aa (ai)).f1) ((rd_T59 aa ab).f0) ((rd_T59 aa ab).f1)).bind fun aE=>(if aE=true then(spec_NetOk.l0 k2 (wrap64 (ab+1)) ag aa) else(some false))) else(none)) else(none))=some r:=by first|(rw[aJ] at H;exact H)|(simp only[aJ] at H⊢;exact H)
          (try rw[aJ] at aW);(try rw[aJ] at a5);have c_:(IntKind.i64.wrap (ab - 1))=ai:=(i64_w _).trans aJ
          obtain⟨dp,H⟩:=G.dp H
          obtain⟨dq,H⟩:=G.dp H;obtain⟨aE,bF,H⟩:=G.bi H;(try dsimp only at H)
          rcases G.bc H with⟨h_,H_⟩|⟨h_,H_⟩<;> (subst h_;clear H;have H:=H_;clear H_)
          ·have H':=G.m H;clear H;have⟨b1,b2,b3,b4⟩:=G.d2 (w:=wr) ac;have av:0<=(ab:Int):=G.da;have aw:ab<(aa.length:Int):=G.da;obtain⟨aj,aL,al,am⟩:=at_T59 aK.out ab av aw;cases aL;replace al:=G.hx HB al;replace am:=G.hx HB am;replace av:=eq_true av;replace aw:=eq_true aw;try go_wp2_with (first|((with_reducible refine G.h 4 rfl ?_);(try(refine gate_guard (by rfl) ?_;dsimp only));refine G.be 4 #[.int .i64 0,.int .i64 0] 59 ?_;intro ae hg a6 hbox hb;have af:=G.m (hbox);have aT:=G.m (caaa:w.heap.size<=ae);have aU:=G.m (caaa:w.heap.size<=ae);replace HB:=G.bs HB hb;have ak:=G.m (caag:ah≠ae);have ap:=G.m (caah:ae≠ah);replace ac:=G.bb ac hb;clear hb hbox hg;have dr:=ap.out;have dt:=ak.out;have⟨b5,b6,b7,b8⟩:=G.d2 (w:=a6) af))
           have n0:Aside0 (((a6.setCell ⟨ae,0,none⟩ (.int .i64 ((rd_T59 aa ab).f0))).setCell ⟨ae,1,none⟩ (.int .i64 ((rd_T59 aa ab).f1))).heap[ah]? =some (.cells #[.int .i64 ag,.slice (some aj) aa.length az] 31 (0,0))):=⟨caaf⟩;have n1:Aside0 (((a6.setCell ⟨ae,0,none⟩ (.int .i64 ((rd_T59 aa ab).f0))).setCell ⟨ae,1,none⟩ (.int .i64 ((rd_T59 aa ab).f1))).heap[ae]? =some (.cells #[.int .i64 ((rd_T59 aa ab).f0),.int .i64 ((rd_T59 aa ab).f1)] 59 (0,0))):=⟨caae⟩;have n2:Aside0 (Below w.heap.size w ((a6.setCell ⟨ae,0,none⟩ (.int .i64 ((rd_T59 aa ab).f0))).setCell ⟨ae,1,none⟩ (.int .i64 ((rd_T59 aa ab).f1)))):=⟨G.cB HB.out⟩;(try clear ac af HB);generalize((a6.setCell ⟨ae,0,none⟩ (.int .i64 ((rd_T59 aa ab).f0))).setCell ⟨ae,1,none⟩ (.int .i64 ((rd_T59 aa ab).f1)))=da at n0 n1 n2⊢;revert n0 n1 n2;intro ac af HB;replace ac:=G.m (blk_drew ac.out);replace af:=G.m (blk_drew af.out);replace HB:=G.m (below_drew1 HB.out);have aO:0<=((ai):Int):=G.da;have aP:(ai)<(aa.length:Int):=G.da;obtain⟨aZ,bc,aA,aB⟩:=at_T59 aK.out (ai) aO aP;have aC:=aB;have aD:=aA;obtain rfl:aj=aZ:=(by injection bc);replace aA:=G.hx HB aA;replace aB:=G.hx HB aB;replace aO:=eq_true aO;replace aP:=eq_true aP;refine G.st 34 (S:=fun w'=>w'.cell? ⟨ae,0,none⟩=some (.int .i64 ((rd_T59 aa ab).f0))/\w'.cell? ⟨ae,1,none⟩=some (.int .i64 ((rd_T59 aa ab).f1))/\w'.cell? ⟨ah,0,none⟩=some (.int .i64 ag)/\w'.cell? ⟨ah,1,none⟩=some (.slice (some aj) aa.length az)/\w'.cell? (aj.add (((ai)).toNat*2))=some (.int .i64 ((rd_T59 aa (ai)).f0))/\w'.cell? ⟨(aj.add (((ai)).toNat*2)).block,(aj.add (((ai)).toNat*2)).off+1,none⟩=some (.int .i64 ((rd_T59 aa (ai)).f1))) [] ⟨G.z af 0,G.z af 1,G.z ac 0,G.z ac 1,(G.hx HB aD),(G.hx HB aC)⟩ spec_NetOk.tab7 spec_NetOk.bits7 (fun hHeld HT_ HW_=> ?_);generalize da.drew=dH at ac af HB aA aB hHeld⊢;refine G.pu 0 27 1 ?_;refine G.pu 2 29 5 ?_;refine G.ta6 1 28 7 ?_;refine G.ta6 3 30 15 ?_;refine G.pu 4 31 31 ?_;refine G.on 5 32 63 (fun K hK=> ?_);refine G.gs Try.func75 #[.int .i64 ((rd_T59 aa ab).f0),.int .i64 0,.int .i64 (wrap64 (ag - 1))] ?_;with_reducible refine(spec_l6In.calls ((rd_T59 aa ab).f0) 0 (wrap64 (ag - 1)) true _ aW.out).mono ?_
           rintro e w' ⟨rfl,⟨nd,rfl⟩⟩;refine⟨_,rfl,?_⟩;refine hK.out _ _ ⟨G.z af 0,G.z af 1,G.z ac 0,G.z ac 1,(G.hx HB aD),(G.hx HB aC)⟩ (fun hHeld=> ?_);clear hK K;refine G.no 32 ?_;refine G.pu 6 33 127 ?_;refine G.pu 7 34 255 ?_;refine G.pu 8 35 511 ?_;refine G.pu 10 37 1535 ?_;refine G.pu 13 40 9727 ?_;refine G.ta6 9 36 10239 ?_;refine G.ta6 11 38 12287 ?_;refine G.pu 12 39 16383 ?_;refine G.ta6 14 41 32767 ?_;refine G.pu 15 42 65535 ?_;refine G.on 16 43 131071 (fun K hK=> ?_);refine G.gs Try.func75 #[.int .i64 ((rd_T59 aa ab).f1),.int .i64 (wrap64 (((rd_T59 aa ab).f0)+1)),.int .i64 (wrap64 (ag - 1))] ?_;with_reducible refine(spec_l6In.calls ((rd_T59 aa ab).f1) (wrap64 (((rd_T59 aa ab).f0)+1)) (wrap64 (ag - 1)) true _ a5.out).mono ?_
           rintro e w' ⟨rfl,⟨nd,rfl⟩⟩;refine⟨_,rfl,?_⟩;refine hK.out _ _ ⟨G.z af 0,G.z af 1,G.z ac 0,G.z ac 1,(G.hx HB aD),(G.hx HB aC)⟩ (fun hHeld=> ?_);clear hK K;refine G.no 43 ?_;refine G.pu 17 44 262143 ?_;refine G.pu 18 45 524287 ?_;refine G.pu 19 46 1048575 ?_;refine G.pu 20 47 2097151 ?_;refine G.pu 21 48 4194303 ?_;refine G.pu 22 49 8388607 ?_;refine G.pu 23 50 16777215 ?_;refine G.pu 25 52 50331647 ?_;refine G.pu 26 53 117440511 ?_;refine G.ta6 24 51 134217727 ?_;refine G.pu 27 54 268435455 ?_;refine G.ta6 28 55 536870911 ?_;refine G.ta6 29 56 1073741823 ?_;refine G.on 30 57 2147483647 (fun K hK=> ?_);refine goes_ Try.func76 (caab) rfl #[.agg #[.int .i64 ((rd_T59 aa (ai)).f0),.int .i64 ((rd_T59 aa (ai)).f1)],.agg #[.int .i64 ((rd_T59 aa ab).f0),.int .i64 ((rd_T59 aa ab).f1)]] (by rfl) rfl rfl (caak) ?_;with_reducible refine(spec_l1Less.calls ((rd_T59 aa (ai)).f0) ((rd_T59 aa (ai)).f1) ((rd_T59 aa ab).f0) ((rd_T59 aa ab).f1) true _ bF.out).mono ?_
           rintro e dI ⟨rfl,hb⟩;refine⟨_,rfl,?_⟩;replace ac:=G.bb ac hb;replace af:=G.bb af hb;replace HB:=G.bs HB hb;(try clear hb);refine hK.out _ _ ⟨G.z af 0,G.z af 1,G.z ac 0,G.z ac 1,(G.hx HB aD),(G.hx HB aC)⟩ (fun hHeld=> ?_);clear hK K;refine G.no 57 ?_;refine G.pu 31 58 4294967295 ?_;refine G.pu 32 59 8589934591 ?_;refine G.pu 33 60 17179869183 ?_;refine done_ (done_of HT_.out (caab)) ?_;try go_wp2
           go_roundg k2
           case measure=>have:=bm.out;have:=bn.out;omega
           case rel=>exact⟨(wrap64 (ab+1)),(caad),H',⟨by have:=bm.out;have:=bn.out;omega⟩,⟨G.cb ac.out⟩,⟨G.cB HB.out⟩⟩
          ·obtain rfl:=Option.some.inj H;have⟨b9,b_,ca,cd⟩:=G.d2 (w:=wr) ac;have av:0<=(ab:Int):=G.da;have aw:ab<(aa.length:Int):=G.da;obtain⟨aj,aL,al,am⟩:=at_T59 aK.out ab av aw;cases aL;replace al:=G.hx HB al;replace am:=G.hx HB am;replace av:=eq_true av;replace aw:=eq_true aw;try go_wp2_with (first|((with_reducible refine G.h 4 rfl ?_);(try(refine gate_guard (by rfl) ?_;dsimp only));refine G.be 4 #[.int .i64 0,.int .i64 0] 59 ?_;intro ae hg a7 hbox hb;have af:=G.m (hbox);have aT:=G.m (caaa:w.heap.size<=ae);have aU:=G.m (caaa:w.heap.size<=ae);replace HB:=G.bs HB hb;have ak:=G.m (caag:ah≠ae);have ap:=G.m (caah:ae≠ah);replace ac:=G.bb ac hb;clear hb hbox hg;have du:=ap.out;have dv:=ak.out;have⟨ce,cf,cg,ch⟩:=G.d2 (w:=a7) af))
           have n0:Aside0 (((a7.setCell ⟨ae,0,none⟩ (.int .i64 ((rd_T59 aa ab).f0))).setCell ⟨ae,1,none⟩ (.int .i64 ((rd_T59 aa ab).f1))).heap[ah]? =some (.cells #[.int .i64 ag,.slice (some aj) aa.length az] 31 (0,0))):=⟨caaf⟩;have n1:Aside0 (((a7.setCell ⟨ae,0,none⟩ (.int .i64 ((rd_T59 aa ab).f0))).setCell ⟨ae,1,none⟩ (.int .i64 ((rd_T59 aa ab).f1))).heap[ae]? =some (.cells #[.int .i64 ((rd_T59 aa ab).f0),.int .i64 ((rd_T59 aa ab).f1)] 59 (0,0))):=⟨caae⟩;have n2:Aside0 (Below w.heap.size w ((a7.setCell ⟨ae,0,none⟩ (.int .i64 ((rd_T59 aa ab).f0))).setCell ⟨ae,1,none⟩ (.int .i64 ((rd_T59 aa ab).f1)))):=⟨G.cB HB.out⟩;(try clear ac af HB);generalize((a7.setCell ⟨ae,0,none⟩ (.int .i64 ((rd_T59 aa ab).f0))).setCell ⟨ae,1,none⟩ (.int .i64 ((rd_T59 aa ab).f1)))=db at n0 n1 n2⊢;revert n0 n1 n2;intro ac af HB;replace ac:=G.m (blk_drew ac.out);replace af:=G.m (blk_drew af.out);replace HB:=G.m (below_drew1 HB.out);have aO:0<=((ai):Int):=G.da;have aP:(ai)<(aa.length:Int):=G.da;obtain⟨aZ,bc,aA,aB⟩:=at_T59 aK.out (ai) aO aP;have aC:=aB;have aD:=aA;obtain rfl:aj=aZ:=(by injection bc);replace aA:=G.hx HB aA;replace aB:=G.hx HB aB;replace aO:=eq_true aO;replace aP:=eq_true aP;refine G.st 34 (S:=fun w'=>w'.cell? ⟨ae,0,none⟩=some (.int .i64 ((rd_T59 aa ab).f0))/\w'.cell? ⟨ae,1,none⟩=some (.int .i64 ((rd_T59 aa ab).f1))/\w'.cell? ⟨ah,0,none⟩=some (.int .i64 ag)/\w'.cell? ⟨ah,1,none⟩=some (.slice (some aj) aa.length az)/\w'.cell? (aj.add (((ai)).toNat*2))=some (.int .i64 ((rd_T59 aa (ai)).f0))/\w'.cell? ⟨(aj.add (((ai)).toNat*2)).block,(aj.add (((ai)).toNat*2)).off+1,none⟩=some (.int .i64 ((rd_T59 aa (ai)).f1))) [] ⟨G.z af 0,G.z af 1,G.z ac 0,G.z ac 1,(G.hx HB aD),(G.hx HB aC)⟩ spec_NetOk.tab7 spec_NetOk.bits7 (fun hHeld HT_ HW_=> ?_);generalize db.drew=dJ at ac af HB aA aB hHeld⊢;refine G.pu 0 27 1 ?_;refine G.pu 2 29 5 ?_;refine G.ta6 1 28 7 ?_;refine G.ta6 3 30 15 ?_;refine G.pu 4 31 31 ?_;refine G.on 5 32 63 (fun K hK=> ?_);refine G.gs Try.func75 #[.int .i64 ((rd_T59 aa ab).f0),.int .i64 0,.int .i64 (wrap64 (ag - 1))] ?_;with_reducible refine(spec_l6In.calls ((rd_T59 aa ab).f0) 0 (wrap64 (ag - 1)) true _ aW.out).mono ?_
           rintro e w' ⟨rfl,⟨nd,rfl⟩⟩;refine⟨_,rfl,?_⟩;refine hK.out _ _ ⟨G.z af 0,G.z af 1,G.z ac 0,G.z ac 1,(G.hx HB aD),(G.hx HB aC)⟩ (fun hHeld=> ?_);clear hK K;refine G.no 32 ?_;refine G.pu 6 33 127 ?_;refine G.pu 7 34 255 ?_;refine G.pu 8 35 511 ?_;refine G.pu 10 37 1535 ?_;refine G.pu 13 40 9727 ?_;refine G.ta6 9 36 10239 ?_;refine G.ta6 11 38 12287 ?_;refine G.pu 12 39 16383 ?_;refine G.ta6 14 41 32767 ?_;refine G.pu 15 42 65535 ?_;refine G.on 16 43 131071 (fun K hK=> ?_);refine G.gs Try.func75 #[.int .i64 ((rd_T59 aa ab).f1),.int .i64 (wrap64 (((rd_T59 aa ab).f0)+1)),.int .i64 (wrap64 (ag - 1))] ?_;with_reducible refine(spec_l6In.calls ((rd_T59 aa ab).f1) (wrap64 (((rd_T59 aa ab).f0)+1)) (wrap64 (ag - 1)) true _ a5.out).mono ?_
           rintro e w' ⟨rfl,⟨nd,rfl⟩⟩;refine⟨_,rfl,?_⟩;refine hK.out _ _ ⟨G.z af 0,G.z af 1,G.z ac 0,G.z ac 1,(G.hx HB aD),(G.hx HB aC)⟩ (fun hHeld=> ?_);clear hK K;refine G.no 43 ?_;refine G.pu 17 44 262143 ?_;refine G.pu 18 45 524287 ?_;refine G.pu 19 46 1048575 ?_;refine G.pu 20 47 2097151 ?_;refine G.pu 21 48 4194303 ?_;refine G.pu 22 49 8388607 ?_;refine G.pu 23 50 16777215 ?_;refine G.pu 25 52 50331647 ?_;refine G.pu 26 53 117440511 ?_;refine G.ta6 24 51 134217727 ?_;refine G.pu 27 54 268435455 ?_;refine G.ta6 28 55 536870911 ?_;refine G.ta6 29 56 1073741823 ?_;refine G.on 30 57 2147483647 (fun K hK=> ?_);refine goes_ Try.func76 (caab) rfl #[.agg #[.int .i64 ((rd_T59 aa (ai)).f0),.int .i64 ((rd_T59 aa (ai)).f1)],.agg #[.int .i64 ((rd_T59 aa ab).f0),.int .i64 ((rd_T59 aa ab).f1)]] (by rfl) rfl rfl (caak) ?_;with_reducible refine(spec_l1Less.calls ((rd_T59 aa (ai)).f0) ((rd_T59 aa (ai)).f1) ((rd_T59 aa ab).f0) ((rd_T59 aa ab).f1) false _ bF.out).mono ?_
           rintro e dK ⟨rfl,hb⟩;refine⟨_,rfl,?_⟩;replace ac:=G.bb ac hb;replace af:=G.bb af hb;replace HB:=G.bs HB hb;(try clear hb);refine hK.out _ _ ⟨G.z af 0,G.z af 1,G.z ac 0,G.z ac 1,(G.hx HB aD),(G.hx HB aC)⟩ (fun hHeld=> ?_);clear hK K;refine G.no 57 ?_;refine G.pu 31 58 4294967295 ?_;refine G.pu 32 59 8589934591 ?_;refine G.pu 33 60 17179869183 ?_;refine done_ (done_of HT_.out (caab)) ?_;try go_wp2
           go_ret
           exact⟨by first|rfl|(simp[errW_none,errW_some]<;>rfl)|(simp only[←aJ];first|rfl|(simp[errW_none,errW_some]<;>rfl))|(simp[*,errW_none,errW_some]<;>rfl),G.cB HB.out⟩
         ·rw[if_neg aX] at H;have bC:=decide_eq_false aX;clear aX;have H':=G.m H;clear H;have⟨ci,cj,ck,cl⟩:=G.d2 (w:=wr) ac;have av:0<=(ab:Int):=G.da;have aw:ab<(aa.length:Int):=G.da;obtain⟨aj,aL,al,am⟩:=at_T59 aK.out ab av aw;cases aL;replace al:=G.hx HB al;replace am:=G.hx HB am;replace av:=eq_true av;replace aw:=eq_true aw;try go_wp2_with (first|((with_reducible refine G.h 4 rfl ?_);(try(refine gate_guard (by rfl) ?_;dsimp only));refine G.be 4 #[.int .i64 0,.int .i64 0] 59 ?_;intro ae hg a8 hbox hb;have af:=G.m (hbox);have aT:=G.m (caaa:w.heap.size<=ae);have aU:=G.m (caaa:w.heap.size<=ae);replace HB:=G.bs HB hb;have ak:=G.m (caag:ah≠ae);have ap:=G.m (caah:ae≠ah);replace ac:=G.bb ac hb;clear hb hbox hg;have dw:=ap.out;have dx:=ak.out;have⟨cm,cn,co,cp⟩:=G.d2 (w:=a8) af))
          have n0:Aside0 (((a8.setCell ⟨ae,0,none⟩ (.int .i64 ((rd_T59 aa ab).f0))).setCell ⟨ae,1,none⟩ (.int .i64 ((rd_T59 aa ab).f1))).heap[ah]? =some (.cells #[.int .i64 ag,.slice (some aj) aa.length az] 31 (0,0))):=⟨caaf⟩;have n1:Aside0 (((a8.setCell ⟨ae,0,none⟩ (.int .i64 ((rd_T59 aa ab).f0))).setCell ⟨ae,1,none⟩ (.int .i64 ((rd_T59 aa ab).f1))).heap[ae]? =some (.cells #[.int .i64 ((rd_T59 aa ab).f0),.int .i64 ((rd_T59 aa ab).f1)] 59 (0,0))):=⟨caae⟩;have n2:Aside0 (Below w.heap.size w ((a8.setCell ⟨ae,0,none⟩ (.int .i64 ((rd_T59 aa ab).f0))).setCell ⟨ae,1,none⟩ (.int .i64 ((rd_T59 aa ab).f1)))):=⟨G.cB HB.out⟩;(try clear ac af HB);generalize((a8.setCell ⟨ae,0,none⟩ (.int .i64 ((rd_T59 aa ab).f0))).setCell ⟨ae,1,none⟩ (.int .i64 ((rd_T59 aa ab).f1)))=dc at n0 n1 n2⊢;revert n0 n1 n2;intro ac af HB;replace ac:=G.m (blk_drew ac.out);replace af:=G.m (blk_drew af.out);replace HB:=G.m (below_drew1 HB.out);refine G.st 34 (S:=fun w'=>w'.cell? ⟨ae,0,none⟩=some (.int .i64 ((rd_T59 aa ab).f0))/\w'.cell? ⟨ae,1,none⟩=some (.int .i64 ((rd_T59 aa ab).f1))/\w'.cell? ⟨ah,0,none⟩=some (.int .i64 ag)/\w'.cell? ⟨ah,1,none⟩=some (.slice (some aj) aa.length az)) [] ⟨G.z af 0,G.z af 1,G.z ac 0,G.z ac 1⟩ spec_NetOk.tab7 spec_NetOk.bits7 (fun hHeld HT_ HW_=> ?_);generalize dc.drew=dL at ac af HB hHeld⊢;refine G.pu 0 27 1 ?_;refine G.pu 2 29 5 ?_;refine G.ta4 1 28 7 ?_;refine G.ta4 3 30 15 ?_;refine G.pu 4 31 31 ?_;refine G.on 5 32 63 (fun K hK=> ?_);refine G.gs Try.func75 #[.int .i64 ((rd_T59 aa ab).f0),.int .i64 0,.int .i64 (wrap64 (ag - 1))] ?_;with_reducible refine(spec_l6In.calls ((rd_T59 aa ab).f0) 0 (wrap64 (ag - 1)) true _ aW.out).mono ?_
          rintro e w' ⟨rfl,⟨nd,rfl⟩⟩;refine⟨_,rfl,?_⟩;refine hK.out _ _ ⟨G.z af 0,G.z af 1,G.z ac 0,G.z ac 1⟩ (fun hHeld=> ?_);clear hK K;refine G.no 32 ?_;refine G.pu 6 33 127 ?_;refine G.pu 7 34 255 ?_;refine G.pu 8 35 511 ?_;refine G.pu 10 37 1535 ?_;refine G.pu 13 40 9727 ?_;refine G.ta4 9 36 10239 ?_;refine G.ta4 11 38 12287 ?_;refine G.pu 12 39 16383 ?_;refine G.ta4 14 41 32767 ?_;refine G.pu 15 42 65535 ?_;refine G.on 16 43 131071 (fun K hK=> ?_);refine G.gs Try.func75 #[.int .i64 ((rd_T59 aa ab).f1),.int .i64 (wrap64 (((rd_T59 aa ab).f0)+1)),.int .i64 (wrap64 (ag - 1))] ?_;with_reducible refine(spec_l6In.calls ((rd_T59 aa ab).f1) (wrap64 (((rd_T59 aa ab).f0)+1)) (wrap64 (ag - 1)) true _ a5.out).mono ?_
          rintro e w' ⟨rfl,⟨nd,rfl⟩⟩;refine⟨_,rfl,?_⟩;refine hK.out _ _ ⟨G.z af 0,G.z af 1,G.z ac 0,G.z ac 1⟩ (fun hHeld=> ?_);clear hK K;refine G.no 43 ?_;refine G.pu 17 44 262143 ?_;refine G.pu 18 45 524287 ?_;refine G.pu 19 46 1048575 ?_;refine G.pu 20 47 2097151 ?_;refine G.pu 21 48 4194303 ?_;refine G.pu 22 49 8388607 ?_;refine G.pf 23 50 16777215 ?_;refine G.pf 24 51 33554431 ?_;refine G.pf 25 52 67108863 ?_;refine G.pf 26 53 134217727 ?_;refine G.pf 27 54 268435455 ?_;refine G.pf 28 55 536870911 ?_;refine G.pf 29 56 1073741823 ?_;refine G.pf 30 57 2147483647 ?_;refine G.pf 31 58 4294967295 ?_;refine G.pu 32 59 8589934591 ?_;refine G.pu 33 60 17179869183 ?_;refine done_ (done_of HT_.out (caab)) ?_;try go_wp2
          go_roundg k2
          case measure=>have:=bm.out;have:=bn.out;omega
          case rel=>exact⟨(wrap64 (ab+1)),(caad),H',⟨by have:=bm.out;have:=bn.out;omega⟩,⟨G.cb ac.out⟩,⟨G.cB HB.out⟩⟩
        ·obtain rfl:=Option.some.inj H;have⟨cq,cr,ct,cu⟩:=G.d2 (w:=wr) ac;have av:0<=(ab:Int):=G.da;have aw:ab<(aa.length:Int):=G.da;obtain⟨aj,aL,al,am⟩:=at_T59 aK.out ab av aw;cases aL;replace al:=G.hx HB al;replace am:=G.hx HB am;replace av:=eq_true av;replace aw:=eq_true aw;try go_wp2_with (first|((with_reducible refine G.h 4 rfl ?_);(try(refine gate_guard (by rfl) ?_;dsimp only));refine G.be 4 #[.int .i64 0,.int .i64 0] 59 ?_;intro ae hg a9 hbox hb;have af:=G.m (hbox);have aT:=G.m (caaa:w.heap.size<=ae);have aU:=G.m (caaa:w.heap.size<=ae);replace HB:=G.bs HB hb;have ak:=G.m (caag:ah≠ae);have ap:=G.m (caah:ae≠ah);replace ac:=G.bb ac hb;clear hb hbox hg;have dy:=ap.out;have dz:=ak.out;have⟨cv,cw,cx,cy⟩:=G.d2 (w:=a9) af))
         have n0:Aside0 (((a9.setCell ⟨ae,0,none⟩ (.int .i64 ((rd_T59 aa ab).f0))).setCell ⟨ae,1,none⟩ (.int .i64 ((rd_T59 aa ab).f1))).heap[ah]? =some (.cells #[.int .i64 ag,.slice (some aj) aa.length az] 31 (0,0))):=⟨caaf⟩;have n1:Aside0 (((a9.setCell ⟨ae,0,none⟩ (.int .i64 ((rd_T59 aa ab).f0))).setCell ⟨ae,1,none⟩ (.int .i64 ((rd_T59 aa ab).f1))).heap[ae]? =some (.cells #[.int .i64 ((rd_T59 aa ab).f0),.int .i64 ((rd_T59 aa ab).f1)] 59 (0,0))):=⟨caae⟩;have n2:Aside0 (Below w.heap.size w ((a9.setCell ⟨ae,0,none⟩ (.int .i64 ((rd_T59 aa ab).f0))).setCell ⟨ae,1,none⟩ (.int .i64 ((rd_T59 aa ab).f1)))):=⟨G.cB HB.out⟩;(try clear ac af HB);generalize((a9.setCell ⟨ae,0,none⟩ (.int .i64 ((rd_T59 aa ab).f0))).setCell ⟨ae,1,none⟩ (.int .i64 ((rd_T59 aa ab).f1)))=dd at n0 n1 n2⊢;revert n0 n1 n2;intro ac af HB;replace ac:=G.m (blk_drew ac.out);replace af:=G.m (blk_drew af.out);replace HB:=G.m (below_drew1 HB.out);refine G.st 34 (S:=fun w'=>w'.cell? ⟨ae,0,none⟩=some (.int .i64 ((rd_T59 aa ab).f0))/\w'.cell? ⟨ae,1,none⟩=some (.int .i64 ((rd_T59 aa ab).f1))/\w'.cell? ⟨ah,0,none⟩=some (.int .i64 ag)/\w'.cell? ⟨ah,1,none⟩=some (.slice (some aj) aa.length az)) [] ⟨G.z af 0,G.z af 1,G.z ac 0,G.z ac 1⟩ spec_NetOk.tab7 spec_NetOk.bits7 (fun hHeld HT_ HW_=> ?_);generalize dd.drew=dM at ac af HB hHeld⊢;refine G.pu 0 27 1 ?_;refine G.pu 2 29 5 ?_;refine G.ta4 1 28 7 ?_;refine G.ta4 3 30 15 ?_;refine G.pu 4 31 31 ?_;refine G.on 5 32 63 (fun K hK=> ?_);refine G.gs Try.func75 #[.int .i64 ((rd_T59 aa ab).f0),.int .i64 0,.int .i64 (wrap64 (ag - 1))] ?_;with_reducible refine(spec_l6In.calls ((rd_T59 aa ab).f0) 0 (wrap64 (ag - 1)) true _ aW.out).mono ?_
         rintro e w' ⟨rfl,⟨nd,rfl⟩⟩;refine⟨_,rfl,?_⟩;refine hK.out _ _ ⟨G.z af 0,G.z af 1,G.z ac 0,G.z ac 1⟩ (fun hHeld=> ?_);clear hK K;refine G.no 32 ?_;refine G.pu 6 33 127 ?_;refine G.pu 7 34 255 ?_;refine G.pu 8 35 511 ?_;refine G.pu 10 37 1535 ?_;refine G.pu 13 40 9727 ?_;refine G.ta4 9 36 10239 ?_;refine G.ta4 11 38 12287 ?_;refine G.pu 12 39 16383 ?_;refine G.ta4 14 41 32767 ?_;refine G.pu 15 42 65535 ?_;refine G.on 16 43 131071 (fun K hK=> ?_);refine G.gs Try.func75 #[.int .i64 ((rd_T59 aa ab).f1),.int .i64 (wrap64 (((rd_T59 aa ab).f0)+1)),.int .i64 (wrap64 (ag - 1))] ?_;with_reducible refine(spec_l6In.calls ((rd_T59 aa ab).f1) (wrap64 (((rd_T59 aa ab).f0)+1)) (wrap64 (ag - 1)) false _ a5.out).mono ?_
         rintro e w' ⟨rfl,⟨nd,rfl⟩⟩;refine⟨_,rfl,?_⟩;refine hK.out _ _ ⟨G.z af 0,G.z af 1,G.z ac 0,G.z ac 1⟩ (fun hHeld=> ?_);clear hK K;refine G.no 43 ?_;refine G.pu 17 44 262143 ?_;refine G.pu 18 45 524287 ?_;refine G.pu 19 46 1048575 ?_;refine G.pf 20 47 2097151 ?_;refine G.pf 21 48 4194303 ?_;refine G.pf 22 49 8388607 ?_;refine G.pf 23 50 16777215 ?_;refine G.pf 24 51 33554431 ?_;refine G.pf 25 52 67108863 ?_;refine G.pf 26 53 134217727 ?_;refine G.pf 27 54 268435455 ?_;refine G.pf 28 55 536870911 ?_;refine G.pf 29 56 1073741823 ?_;refine G.pf 30 57 2147483647 ?_;refine G.pf 31 58 4294967295 ?_;refine G.pf 32 59 8589934591 ?_;refine G.pu 33 60 17179869183 ?_;refine done_ (done_of HT_.out (caab)) ?_;try go_wp2
         go_ret
         exact⟨caac,G.cB HB.out⟩
       ·obtain rfl:=Option.some.inj H;have⟨cz,cA,cD,cE⟩:=G.d2 (w:=wr) ac;have av:0<=(ab:Int):=G.da;have aw:ab<(aa.length:Int):=G.da;obtain⟨aj,aL,al,am⟩:=at_T59 aK.out ab av aw;cases aL;replace al:=G.hx HB al;replace am:=G.hx HB am;replace av:=eq_true av;replace aw:=eq_true aw;try go_wp2_with (first|((with_reducible refine G.h 4 rfl ?_);(try(refine gate_guard (by rfl) ?_;dsimp only));refine G.be 4 #[.int .i64 0,.int .i64 0] 59 ?_;intro ae hg a_ hbox hb;have af:=G.m (hbox);have aT:=G.m (caaa:w.heap.size<=ae);have aU:=G.m (caaa:w.heap.size<=ae);replace HB:=G.bs HB hb;have ak:=G.m (caag:ah≠ae);have ap:=G.m (caah:ae≠ah);replace ac:=G.bb ac hb;clear hb hbox hg;have dA:=ap.out;have dB:=ak.out;have⟨cF,cG,cH,cI⟩:=G.d2 (w:=a_) af))
        have n0:Aside0 (((a_.setCell ⟨ae,0,none⟩ (.int .i64 ((rd_T59 aa ab).f0))).setCell ⟨ae,1,none⟩ (.int .i64 ((rd_T59 aa ab).f1))).heap[ah]? =some (.cells #[.int .i64 ag,.slice (some aj) aa.length az] 31 (0,0))):=⟨caaf⟩;have n1:Aside0 (((a_.setCell ⟨ae,0,none⟩ (.int .i64 ((rd_T59 aa ab).f0))).setCell ⟨ae,1,none⟩ (.int .i64 ((rd_T59 aa ab).f1))).heap[ae]? =some (.cells #[.int .i64 ((rd_T59 aa ab).f0),.int .i64 ((rd_T59 aa ab).f1)] 59 (0,0))):=⟨caae⟩;have n2:Aside0 (Below w.heap.size w ((a_.setCell ⟨ae,0,none⟩ (.int .i64 ((rd_T59 aa ab).f0))).setCell ⟨ae,1,none⟩ (.int .i64 ((rd_T59 aa ab).f1)))):=⟨G.cB HB.out⟩;(try clear ac af HB);generalize((a_.setCell ⟨ae,0,none⟩ (.int .i64 ((rd_T59 aa ab).f0))).setCell ⟨ae,1,none⟩ (.int .i64 ((rd_T59 aa ab).f1)))=de at n0 n1 n2⊢;revert n0 n1 n2;intro ac af HB;replace ac:=G.m (blk_drew ac.out);replace af:=G.m (blk_drew af.out);replace HB:=G.m (below_drew1 HB.out);refine G.st 34 (S:=fun w'=>w'.cell? ⟨ae,0,none⟩=some (.int .i64 ((rd_T59 aa ab).f0))/\w'.cell? ⟨ae,1,none⟩=some (.int .i64 ((rd_T59 aa ab).f1))/\w'.cell? ⟨ah,0,none⟩=some (.int .i64 ag)/\w'.cell? ⟨ah,1,none⟩=some (.slice (some aj) aa.length az)) [] ⟨G.z af 0,G.z af 1,G.z ac 0,G.z ac 1⟩ spec_NetOk.tab7 spec_NetOk.bits7 (fun hHeld HT_ HW_=> ?_);generalize de.drew=dN at ac af HB hHeld⊢;refine G.pu 0 27 1 ?_;refine G.pu 2 29 5 ?_;refine G.ta4 1 28 7 ?_;refine G.ta4 3 30 15 ?_;refine G.pu 4 31 31 ?_;refine G.on 5 32 63 (fun K hK=> ?_);refine G.gs Try.func75 #[.int .i64 ((rd_T59 aa ab).f0),.int .i64 0,.int .i64 (wrap64 (ag - 1))] ?_;with_reducible refine(spec_l6In.calls ((rd_T59 aa ab).f0) 0 (wrap64 (ag - 1)) false _ aW.out).mono ?_
        rintro e w' ⟨rfl,⟨nd,rfl⟩⟩;refine⟨_,rfl,?_⟩;refine hK.out _ _ ⟨G.z af 0,G.z af 1,G.z ac 0,G.z ac 1⟩ (fun hHeld=> ?_);clear hK K;refine G.no 32 ?_;refine G.pu 6 33 127 ?_;refine G.pu 7 34 255 ?_;refine G.pf 8 35 511 ?_;refine G.pf 9 36 1023 ?_;refine G.pf 10 37 2047 ?_;refine G.pf 11 38 4095 ?_;refine G.pf 12 39 8191 ?_;refine G.pf 13 40 16383 ?_;refine G.pf 14 41 32767 ?_;refine G.pf 15 42 65535 ?_;refine G.pf 16 43 131071 ?_;refine G.pf 17 44 262143 ?_;refine G.pu 18 45 524287 ?_;refine G.pu 19 46 1048575 ?_;refine G.pf 20 47 2097151 ?_;refine G.pf 21 48 4194303 ?_;refine G.pf 22 49 8388607 ?_;refine G.pf 23 50 16777215 ?_;refine G.pf 24 51 33554431 ?_;refine G.pf 25 52 67108863 ?_;refine G.pf 26 53 134217727 ?_;refine G.pf 27 54 268435455 ?_;refine G.pf 28 55 536870911 ?_;refine G.pf 29 56 1073741823 ?_;refine G.pf 30 57 2147483647 ?_;refine G.pf 31 58 4294967295 ?_;refine G.pf 32 59 8589934591 ?_;refine G.pu 33 60 17179869183 ?_;refine done_ (done_of HT_.out (caab)) ?_;try go_wp2
        go_ret
        exact⟨caac,G.cB HB.out⟩
      ·rw[if_neg c9] at H;have ba:=decide_eq_false c9;clear c9;obtain rfl:=Option.some.inj H;have⟨cJ,cL,cM,cN⟩:=G.d2 (w:=wr) ac
       go_wp2
       go_ret
       exact⟨caac,G.cB HB.out⟩
theorem caap {p:Prop} (h:p:=by(try simp only[List.map_toArray,List.map_cons,List.map_nil]);first|done|(simp only[bz];rfl)|rfl|(simp only[List.length_drop,List.length_take];rfl)):p:=h
theorem caan {p:Prop} (h:p:=by first|rfl|(simp[errW_none,errW_some]<;>rfl)|(simp[*,errW_none,errW_some]<;>rfl)):p:=h
theorem caal {p:Prop} (h:p:=by first|rfl|(simp;done)|(simp[*];done)):p:=h
theorem caam {p:Prop} (h:p:=by rw[hg];exact(below_size (G.cB HB.out))):p:=h
theorem caao {p:Prop} (h:p:=by kernel_rfl):p:=h
attribute [local go_sem high] eqA59
def spec_l1Tie.f (a0:Int) (a1:Int):Option (Int×Int):=if a0<a1 then(some (a0,a1)) else(some (a1,a0))
theorem spec_l1Tie.calls (a0:Int) (a1:Int) (r1:Int) (r2:Int) (w:World) (h:spec_l1Tie.f a0 a1=some (r1,r2)):
  Calls Try.prog 46 #[.int .i64 a0,.int .i64 a1] w fun e w'=>e= .returned (.agg #[.int .i64 r1,.int .i64 r2])/\Below w.heap.size w w':=by
 have bF:=Try.underlying59;have HB:=G.m (Below.refl w.heap.size w);unfold spec_l1Tie.f at h;have H:=h;clear h
 by_cases c3:a0<a1
 ·rw[if_pos c3] at H;have bC:=decide_eq_true c3;clear c3;simp only[Option.some.injEq,Prod.mk.injEq] at H;obtain⟨rfl,rfl⟩:=H
  go_enter Try.func46,Try.ntmps46
  go_wp2_with (first|((with_reducible refine G.h 4 rfl ?_);refine G.be 4 #[.int .i64 0,.int .i64 0] 59 ?_;intro aX hg w4 hbox hb;have bn:=G.m (hbox);have b8:=G.m (caam:w.heap.size<=aX);have b9:=G.m (caam:w.heap.size<=aX);replace HB:=G.bs HB hb;clear hb hbox hg;have⟨cS,cT,cU,cW⟩:=G.d2 (w:=w4) bn))
  refine bodyPost_ret (results_cell_row rfl _ _ aX 59 #[.int .i64 a0,.int .i64 a1] (0,0) _ rfl (G.bw bn.out) Try.underlying59 rfl (caao)) rfl ?_;exact⟨caan,G.cB HB.out⟩
 ·rw[if_neg c3] at H;have bC:=decide_eq_false c3;clear c3;simp only[Option.some.injEq,Prod.mk.injEq] at H;obtain⟨rfl,rfl⟩:=H
  go_enter Try.func46,Try.ntmps46
  go_wp2_with (first|((with_reducible refine G.h 4 rfl ?_);refine G.be 4 #[.int .i64 0,.int .i64 0] 59 ?_;intro aX hg w6 hbox hb;have bn:=G.m (hbox);have b8:=G.m (caam:w.heap.size<=aX);have b9:=G.m (caam:w.heap.size<=aX);replace HB:=G.bs HB hb;clear hb hbox hg;have⟨bT,bU,bV,bW⟩:=G.d2 (w:=w6) bn))
  refine bodyPost_ret (results_cell_row rfl _ _ aX 59 #[.int .i64 a1,.int .i64 a0] (0,0) _ rfl (G.bw bn.out) Try.underlying59 rfl (caao)) rfl ?_;exact⟨caan,G.cB HB.out⟩
def spec_l2Has.l0:Nat->List Int->Int->Int->Option (Bool)
 |0,_,_,_=>none
 |k+1,x0,x1,x5=>if x5<(x0.length:Int) then(if 0<=x5 then(if(rd x0 x5)=x1 then(some true) else(spec_l2Has.l0 k x0 x1 (wrap64 (x5+1)))) else(none)) else(some false)
def spec_l2Has.f (k:Nat) (l0:List Int) (a1:Int):Option (Bool):=spec_l2Has.l0 k l0 a1 0
theorem spec_l2Has.calls (k:Nat) (A0:Option Addr) (c0:Nat) (l0:List Int) (a1:Int) (r:Bool) (w:World) (bw:Kd.C (Kd.int .i64) w A0 l0.length l0) (bx:l0.length<=c0) (h:spec_l2Has.f k l0 a1=some r):
  Calls Try.prog 47 #[.slice A0 l0.length c0,.int .i64 a1] w fun e w'=>e= .returned (.bool r)/\Drawn0 w w':=by
 have a8:=G.m bw;have ch:=G.m bx;clear bw bx;unfold spec_l2Has.f at h;have H:=h;clear h;have H':=G.m H;clear H
 go_enter Try.func47,Try.ntmps47
 go_wp2
 go_loopg [5] k (fun kq v5 w'=>∃ (ak:Int),v5= .int .i64 ak/\Aside0 (spec_l2Has.l0 kq l0 a1 ak=some r)/\Aside0 (kq<=k)/\Drawn0 w w')
 case atStart=>exact⟨(0),(caal),H',⟨Nat.le_refl _⟩,by repeat(first|exact Drawn0.refl _|apply Drawn0.step)⟩
 case round=>
  clear H';try clear p2
  obtain⟨ak,rfl,HA,a5,⟨m1,rfl⟩⟩:=hrel;cases gk with
  |zero=>exact absurd HA.out (by simp[spec_l2Has.l0])
  |succ k1=>
   have H:=HA.out;clear HA;simp only[spec_l2Has.l0] at H
   by_cases c3:ak<(l0.length:Int)
   ·rw[if_pos c3] at H;have bC:=decide_eq_true c3;clear c3
    obtain⟨bX,H⟩:=G.dp H
    by_cases c5:(rd l0 ak)=a1
    ·rw[if_pos c5] at H;have br:=beq_iff_eq.mpr c5;have bG:=bne_eq_false_iff_eq.mpr c5;clear c5;obtain rfl:=Option.some.inj H;have a9:0<=(ak:Int):=G.da;have a_:ak<(l0.length:Int):=G.da;obtain⟨b_,bH,bQ⟩:=Kd.at_int a8.out ak a9 a_;cases bH;replace a9:=eq_true a9;replace a_:=eq_true a_
     go_wp2
     go_ret
     exact⟨caal,by repeat(first|exact Drawn0.refl _|apply Drawn0.step)⟩
    ·rw[if_neg c5] at H;have br:=beq_eq_false_iff_ne.mpr c5;have bG:=bne_iff_ne.mpr c5;have H':=G.m H;clear H;have a9:0<=(ak:Int):=G.da;have a_:ak<(l0.length:Int):=G.da;obtain⟨b_,bH,bQ⟩:=Kd.at_int a8.out ak a9 a_;cases bH;replace a9:=eq_true a9;replace a_:=eq_true a_
     go_wp2
     go_roundg k1
     case measure=>have:=a5.out;omega
     case rel=>exact⟨(wrap64 (ak+1)),(caal),H',⟨by have:=a5.out;omega⟩,by repeat(first|exact Drawn0.refl _|apply Drawn0.step)⟩
   ·rw[if_neg c3] at H;have bC:=decide_eq_false c3;clear c3;obtain rfl:=Option.some.inj H
    go_wp2
    go_ret
    exact⟨caal,by repeat(first|exact Drawn0.refl _|apply Drawn0.step)⟩
def spec_l1Knot.f (k:Nat) (ab:Int) (aa:List (S59)) (a1:Int):Option (Bool):=(spec_NetOk.f k ab aa).bind fun bu=>(if bu=true then((spec_l6In.f a1 0 (wrap64 (ab - 1))).bind fun aN=>(some aN)) else(some false))
theorem spec_l1Knot.calls (k:Nat) (ab:Int) (ao:Option Addr) (al:Nat) (aa:List (S59)) (a1:Int) (r:Bool) (w:World) (aK:Kd.C k59 w ao aa.length aa) (aL:aa.length<=al) (h:spec_l1Knot.f k ab aa a1=some r):
  Calls Try.prog 85 #[.agg #[.int .i64 ab,.slice ao aa.length al],.int .i64 a1] w fun e w'=>e= .returned (.bool r)/\Below w.heap.size w w':=by
 have bY:=Try.underlying31;have aG:=G.m aK;have aY:=G.m aL;clear aK aL;have HB:=G.m (Below.refl w.heap.size w);unfold spec_l1Knot.f at h;have H:=h;clear h;obtain⟨bu,A3,H⟩:=G.bi H;(try dsimp only at H)
 rcases G.bc H with⟨h_,H_⟩|⟨h_,H_⟩<;> (subst h_;clear H;have H:=H_;clear H_)
 ·obtain⟨aN,A5,H⟩:=G.bi H;(try dsimp only at H);obtain rfl:=Option.some.inj H
  go_enter Try.func85,Try.ntmps85
  go_wp2_with (first|((with_reducible refine G.h 2 rfl ?_);refine G.be 2 #[.int .i64 ab,.slice ao aa.length al] 31 ?_;intro bo hg w6 hbox hb;have aC:=G.m (hbox);have ca:=G.m (caam:w.heap.size<=bo);have cd:=G.m (caam:w.heap.size<=bo);replace HB:=G.bs HB hb;clear hb hbox hg;have⟨bT,bU,bV,bW⟩:=G.d2 (w:=w6) aC)|((with_reducible refine G.f 32 rfl ?_);refine G.gL 6 Try.func32 #[.agg #[.int .i64 ab,.slice ao aa.length al]] ?_;(with_reducible refine(spec_NetOk.calls k ab _ _ aa true _ ?side1 ?side2 A3.out).mono ?_);(case side1=>exact G.cC (Kd.C_below aG.out HB.out));(case side2=>exact aY.out);rintro e w8 ⟨rfl,hb⟩;refine⟨_,rfl,?_⟩;replace aC:=G.bb aC hb;replace HB:=G.bs HB hb;(try clear hb);have⟨bZ,b1,b2,b3⟩:=G.d2 (w:=w8) aC)|(go_at_call 75;(with_reducible refine(spec_l6In.calls a1 0 (wrap64 (ab - 1)) aN _ A5.out).mono ?_);rintro e w' ⟨rfl,⟨nd,rfl⟩⟩))
  go_ret
  exact⟨caan,G.cB HB.out⟩
 ·obtain rfl:=Option.some.inj H
  go_enter Try.func85,Try.ntmps85
  go_wp2_with (first|((with_reducible refine G.h 2 rfl ?_);refine G.be 2 #[.int .i64 ab,.slice ao aa.length al] 31 ?_;intro bo hg b4 hbox hb;have aC:=G.m (hbox);have ca:=G.m (caam:w.heap.size<=bo);have cd:=G.m (caam:w.heap.size<=bo);replace HB:=G.bs HB hb;clear hb hbox hg;have⟨cu,cv,cw,cx⟩:=G.d2 (w:=b4) aC)|((with_reducible refine G.f 32 rfl ?_);refine G.gL 6 Try.func32 #[.agg #[.int .i64 ab,.slice ao aa.length al]] ?_;(with_reducible refine(spec_NetOk.calls k ab _ _ aa false _ ?side1 ?side2 A3.out).mono ?_);(case side1=>exact G.cC (Kd.C_below aG.out HB.out));(case side2=>exact aY.out);rintro e b5 ⟨rfl,hb⟩;refine⟨_,rfl,?_⟩;replace aC:=G.bb aC hb;replace HB:=G.bs HB hb;(try clear hb)))
  go_ret
  exact⟨caan,G.cB HB.out⟩
def spec_l1Has.l0:Nat->Int->Int->Int->Int->List (S59)->Option (Bool)
 |0,_,_,_,_,_=>none
 |k+1,x1,x2,x7,bR,a6=>if x7<(a6.length:Int) then(if 0<=x7 then((spec_l1Tie.f x1 x2).bind fun bO=>(if(((rd_T59 a6 x7).f0)==bO.1&&(((rd_T59 a6 x7).f1)==bO.2))=true then(some true) else(spec_l1Has.l0 k x1 x2 (wrap64 (x7+1)) bR a6))) else(none)) else(some false)
def spec_l1Has.f (k:Nat) (ab:Int) (aa:List (S59)) (a1:Int) (a2:Int):Option (Bool):=spec_l1Has.l0 k a1 a2 0 ab aa
def spec_l1Has.T4:Bool×List (List Nat×List Nat):=(true,[([],[]),([0],[0]),([],[]),([1,2],[1,2]),([3],[3]),([],[]),([],[]),([5,6],[5,6]),([4,7],[4,7])])
def spec_l1Has.B4:List Nat:=[0,1,0,7,15,0,0,96,255]
theorem spec_l1Has.tab4:rtab .any (opsOf Try.f113 4)=spec_l1Has.T4:=by kernel_rfl
theorem spec_l1Has.bits4:waitsOk spec_l1Has.T4.2 spec_l1Has.B4=true:=by kernel_rfl
theorem spec_l1Has.calls (k:Nat) (ab:Int) (ao:Option Addr) (al:Nat) (aa:List (S59)) (a1:Int) (a2:Int) (r:Bool) (w:World) (aK:Kd.C k59 w ao aa.length aa) (aL:aa.length<=al) (h:spec_l1Has.f k ab aa a1 a2=some r):
  Calls Try.prog 113 #[.agg #[.int .i64 ab,.slice ao aa.length al],.int .i64 a1,.int .i64 a2] w fun e w'=>e= .returned (.bool r)/\Below w.heap.size w w':=by
 have bY:=Try.underlying31;have bF:=Try.underlying59;have aG:=G.m aK;have aY:=G.m aL;clear aK aL;have HB:=G.m (Below.refl w.heap.size w);unfold spec_l1Has.f at h;have H:=h;clear h;have H':=G.m H;clear H
 go_enter Try.func113,Try.ntmps113
 go_wp2_with (first|((with_reducible refine G.h 3 rfl ?_);refine G.be 3 #[.int .i64 ab,.slice ao aa.length al] 31 ?_;intro aZ hg w4 hbox hb;have af:=G.m (hbox);have de:=G.m (caam:w.heap.size<=aZ);have df:=G.m (caam:w.heap.size<=aZ);replace HB:=G.bs HB hb;clear hb hbox hg))
 go_loopg [7] k (fun kq v7 w'=>∃ (ac:Int),v7= .int .i64 ac/\Aside0 (spec_l1Has.l0 kq a1 a2 ac ab aa=some r)/\Aside0 (kq<=k)/\Aside0 (w'.heap[aZ]? =some (.cells #[.int .i64 ab,(.slice ao aa.length al)] 31 (0,0)))/\Aside0 (Below w.heap.size w w'))
 case atStart=>exact⟨(0),(caal),H',⟨Nat.le_refl _⟩,⟨G.cb af.out⟩,⟨G.cB HB.out⟩⟩
 case round=>
  clear H';obtain⟨ac,rfl,HA,a5,af,HB⟩:=hrel;cases gk with
  |zero=>exact absurd HA.out (by simp[spec_l1Has.l0])
  |succ k1=>
   have H:=HA.out;clear HA;simp only[spec_l1Has.l0] at H
   by_cases c5:ac<(aa.length:Int)
   ·rw[if_pos c5] at H;have br:=decide_eq_true c5;clear c5
    obtain⟨cn,H⟩:=G.dp H;obtain⟨⟨aI,aJ⟩,A7,H⟩:=G.bi H;(try dsimp only at H)
    by_cases c8:(((rd_T59 aa ac).f0)==aI&&(((rd_T59 aa ac).f1)==aJ))=true
    ·rw[if_pos c8] at H;have bA:(((rd_T59 aa ac).f0)==aI&&(((rd_T59 aa ac).f1)==aJ))=true:=c8;(try(have co:decide (((rd_T59 aa ac).f0)=aI&&(((rd_T59 aa ac).f1)==aJ))=true:=by simpa using c8));(try(have cp:(((rd_T59 aa ac).f0)==aI&&(((rd_T59 aa ac).f1)==aJ))=true:=by simpa using c8));clear c8;obtain rfl:=Option.some.inj H;have⟨bZ,b1,b2,b3⟩:=G.d2 (w:=wr) af;try go_wp2
     replace af:=G.m (blk_drew af.out);replace HB:=G.m (below_drew1 HB.out);have ba:0<=(ac:Int):=G.da;have bc:ac<(aa.length:Int):=G.da;obtain⟨aH,bI,aq,au⟩:=at_T59 aG.out ac ba bc;have aR:=au;have aS:=aq;cases bI;replace aq:=G.hx HB aq;replace au:=G.hx HB au;replace ba:=eq_true ba;replace bc:=eq_true bc;refine G.st 9 (S:=fun w'=>w'.cell? ⟨aZ,0,none⟩=some (.int .i64 ab)/\w'.cell? ⟨aZ,1,none⟩=some (.slice (some aH) aa.length al)/\w'.cell? (aH.add ((ac).toNat*2))=some (.int .i64 ((rd_T59 aa ac).f0))/\w'.cell? ⟨(aH.add ((ac).toNat*2)).block,(aH.add ((ac).toNat*2)).off+1,none⟩=some (.int .i64 ((rd_T59 aa ac).f1))) [] ⟨G.z af 0,G.z af 1,(G.hx HB aS),(G.hx HB aR)⟩ spec_l1Has.tab4 spec_l1Has.bits4 (fun hHeld HT_ HW_=> ?_);generalize wr.drew=b4 at af HB aq au hHeld⊢;refine G.pu 0 15 1 ?_;refine G.pu 2 17 5 ?_;refine G.pu 5 20 37 ?_;refine G.pu 6 21 101 ?_;refine G.ta4 1 16 103 ?_;refine G.pu 3 18 111 ?_;refine G.ta4 4 19 127 ?_;refine G.on 7 22 255 (fun K hK=> ?_);refine G.gs Try.func46 #[.int .i64 a1,.int .i64 a2] ?_;with_reducible refine(spec_l1Tie.calls a1 a2 aI aJ _ A7.out).mono ?_
     rintro e ci ⟨rfl,hb⟩;refine⟨_,rfl,?_⟩;replace af:=G.bb af hb;replace HB:=G.bs HB hb;(try clear hb);refine hK.out _ _ ⟨G.z af 0,G.z af 1,(G.hx HB aS),(G.hx HB aR)⟩ (fun hHeld=> ?_);clear hK K;refine G.no 22 ?_;refine G.pu 8 23 511 ?_;refine done_ (done_of HT_.out (caao)) ?_;try go_wp2
     go_ret
     exact⟨caan,G.cB HB.out⟩
    ·rw[if_neg c8] at H;have bA:(((rd_T59 aa ac).f0)==aI&&(((rd_T59 aa ac).f1)==aJ))=false:=by simpa using c8
     (try(have co:decide (((rd_T59 aa ac).f0)=aI&&(((rd_T59 aa ac).f1)==aJ))=false:=by simpa using c8));(try(have cp:(((rd_T59 aa ac).f0)==aI&&(((rd_T59 aa ac).f1)==aJ))=false:=by simpa using c8));(try(have dl:¬ (((rd_T59 aa ac).f0)=aI&&(((rd_T59 aa ac).f1)==aJ)):=by simpa using c8));clear c8;have H':=G.m H;clear H;have⟨cy,cz,cA,cD⟩:=G.d2 (w:=wr) af;try go_wp2
     replace af:=G.m (blk_drew af.out);replace HB:=G.m (below_drew1 HB.out);have ba:0<=(ac:Int):=G.da;have bc:ac<(aa.length:Int):=G.da;obtain⟨aH,bI,aq,au⟩:=at_T59 aG.out ac ba bc;have aR:=au;have aS:=aq;cases bI;replace aq:=G.hx HB aq;replace au:=G.hx HB au;replace ba:=eq_true ba;replace bc:=eq_true bc;refine G.st 9 (S:=fun w'=>w'.cell? ⟨aZ,0,none⟩=some (.int .i64 ab)/\w'.cell? ⟨aZ,1,none⟩=some (.slice (some aH) aa.length al)/\w'.cell? (aH.add ((ac).toNat*2))=some (.int .i64 ((rd_T59 aa ac).f0))/\w'.cell? ⟨(aH.add ((ac).toNat*2)).block,(aH.add ((ac).toNat*2)).off+1,none⟩=some (.int .i64 ((rd_T59 aa ac).f1))) [] ⟨G.z af 0,G.z af 1,(G.hx HB aS),(G.hx HB aR)⟩ spec_l1Has.tab4 spec_l1Has.bits4 (fun hHeld HT_ HW_=> ?_);generalize wr.drew=dp at af HB aq au hHeld⊢;refine G.pu 0 15 1 ?_;refine G.pu 2 17 5 ?_;refine G.pu 5 20 37 ?_;refine G.pu 6 21 101 ?_;refine G.ta4 1 16 103 ?_;refine G.pu 3 18 111 ?_;refine G.ta4 4 19 127 ?_;refine G.on 7 22 255 (fun K hK=> ?_);refine G.gs Try.func46 #[.int .i64 a1,.int .i64 a2] ?_;with_reducible refine(spec_l1Tie.calls a1 a2 aI aJ _ A7.out).mono ?_
     rintro e cX ⟨rfl,hb⟩;refine⟨_,rfl,?_⟩;replace af:=G.bb af hb;replace HB:=G.bs HB hb;(try clear hb);refine hK.out _ _ ⟨G.z af 0,G.z af 1,(G.hx HB aS),(G.hx HB aR)⟩ (fun hHeld=> ?_);clear hK K;refine G.no 22 ?_;refine G.pu 8 23 511 ?_;refine done_ (done_of HT_.out (caao)) ?_;try go_wp2
     go_roundg k1
     case measure=>have:=a5.out;omega
     case rel=>exact⟨(wrap64 (ac+1)),(caal),H',⟨by have:=a5.out;omega⟩,⟨G.cb af.out⟩,⟨G.cB HB.out⟩⟩
   ·rw[if_neg c5] at H;have br:=decide_eq_false c5;clear c5;obtain rfl:=Option.some.inj H;have⟨cE,cF,cG,cH⟩:=G.d2 (w:=wr) af
    go_wp2
    go_ret
    exact⟨caan,G.cB HB.out⟩
def spec_NetHas.f (k:Nat) (ab:Int) (aa:List (S59)) (a1:Int) (a2:Int):Option (Bool):=(spec_NetOk.f k ab aa).bind fun bv=>(if bv=true then((spec_l1Has.f k ab aa a1 a2).bind fun aO=>(some aO)) else(some false))
theorem spec_NetHas.calls (k:Nat) (ab:Int) (ao:Option Addr) (al:Nat) (aa:List (S59)) (a1:Int) (a2:Int) (r:Bool) (w:World) (aK:Kd.C k59 w ao aa.length aa) (aL:aa.length<=al) (h:spec_NetHas.f k ab aa a1 a2=some r):
  Calls Try.prog 86 #[.agg #[.int .i64 ab,.slice ao aa.length al],.int .i64 a1,.int .i64 a2] w fun e w'=>e= .returned (.bool r)/\Below w.heap.size w w':=by
 have bY:=Try.underlying31;have aG:=G.m aK;have aY:=G.m aL;clear aK aL;have HB:=G.m (Below.refl w.heap.size w);unfold spec_NetHas.f at h;have H:=h;clear h;obtain⟨bv,A4,H⟩:=G.bi H;(try dsimp only at H)
 rcases G.bc H with⟨h_,H_⟩|⟨h_,H_⟩<;> (subst h_;clear H;have H:=H_;clear H_)
 ·obtain⟨aO,A6,H⟩:=G.bi H;(try dsimp only at H);obtain rfl:=Option.some.inj H
  go_enter Try.func86,Try.ntmps86
  go_wp2_with (first|((with_reducible refine G.h 3 rfl ?_);refine G.be 3 #[.int .i64 ab,.slice ao aa.length al] 31 ?_;intro bp hg w7 hbox hb;have av:=G.m (hbox);have ce:=G.m (caam:w.heap.size<=bp);have cf:=G.m (caam:w.heap.size<=bp);replace HB:=G.bs HB hb;clear hb hbox hg;have⟨cY,cZ,c_,da⟩:=G.d2 (w:=w7) av)|((with_reducible refine G.f 32 rfl ?_);refine G.gL 8 Try.func32 #[.agg #[.int .i64 ab,.slice ao aa.length al]] ?_;(with_reducible refine(spec_NetOk.calls k ab _ _ aa true _ ?side1 ?side2 A4.out).mono ?_);(case side1=>exact G.cC (Kd.C_below aG.out HB.out));(case side2=>exact aY.out);rintro e w9 ⟨rfl,hb⟩;refine⟨_,rfl,?_⟩;replace av:=G.bb av hb;replace HB:=G.bs HB hb;(try clear hb);have⟨cI,cJ,cL,cM⟩:=G.d2 (w:=w9) av)|(go_at_call 113;(with_reducible refine(spec_l1Has.calls k ab _ _ aa a1 a2 aO _ ?side1 ?side2 A6.out).mono ?_);(case side1=>exact G.cC (Kd.C_below aG.out HB.out));(case side2=>exact aY.out);rintro e ci ⟨rfl,hb⟩;replace av:=G.bb av hb;replace HB:=G.bs HB hb;(try clear hb)))
  go_ret
  exact⟨caan,G.cB HB.out⟩
 ·obtain rfl:=Option.some.inj H
  go_enter Try.func86,Try.ntmps86
  go_wp2_with (first|((with_reducible refine G.h 3 rfl ?_);refine G.be 3 #[.int .i64 ab,.slice ao aa.length al] 31 ?_;intro bp hg b5 hbox hb;have av:=G.m (hbox);have ce:=G.m (caam:w.heap.size<=bp);have cf:=G.m (caam:w.heap.size<=bp);replace HB:=G.bs HB hb;clear hb hbox hg;have⟨cN,cO,cP,cQ⟩:=G.d2 (w:=b5) av)|((with_reducible refine G.f 32 rfl ?_);refine G.gL 8 Try.func32 #[.agg #[.int .i64 ab,.slice ao aa.length al]] ?_;(with_reducible refine(spec_NetOk.calls k ab _ _ aa false _ ?side1 ?side2 A4.out).mono ?_);(case side1=>exact G.cC (Kd.C_below aG.out HB.out));(case side2=>exact aY.out);rintro e cX ⟨rfl,hb⟩;refine⟨_,rfl,?_⟩;replace av:=G.bb av hb;replace HB:=G.bs HB hb;(try clear hb)))
  go_ret
  exact⟨caan,G.cB HB.out⟩
def cmp_Or_int.l0:Nat->Int->List Int->Int->Int->Option (Int)
 |0,_,_,_,_=>none
 |k+1,x3,x6,x7,x8=>if x8<x7 then(if 0<=x8 then(if x8<(x6.length:Int) then(if(rd x6 x8)=x3 then(cmp_Or_int.l0 k x3 x6 x7 (wrap64 (x8+1))) else(some (rd x6 x8))) else(none)) else(none)) else(some x3)
def cmp_Or_int.f (k:Nat) (l0:List Int):Option (Int):=cmp_Or_int.l0 k 0 l0 (l0.length:Int) 0
theorem cmp_Or_int.mono_l:∀k,(∀y0 y1 y2 y3,LeO (cmp_Or_int.l0 k y0 y1 y2 y3) (cmp_Or_int.l0 (k+1) y0 y1 y2 y3))
 |0=>fun _ _ _ _ r h=>by simp[cmp_Or_int.l0] at h
 |k+1=>by
  have ap:=cmp_Or_int.mono_l k
  ·intro y0 y1 y2 y3;unfold cmp_Or_int.l0
   repeat' first
   |(with_reducible exact ap _ _ _ _)
   |(with_reducible exact LeO.refl _)
   |(with_reducible exact LeO.none _)
   |(with_reducible refine LeO.ite ?_ ?_)
   |(with_reducible refine LeO.bind ?_ (fun _=> ?_))
   |exact ap _ _ _ _
   |exact LeO.none _
   |refine LeO.ite ?_ ?_
   |refine LeO.bind ?_ (fun _=> ?_)
theorem cmp_Or_int.mono:∀a0 k,LeO (cmp_Or_int.f k a0) (cmp_Or_int.f (k+1) a0):=by
 intro a0 k;have ap:=cmp_Or_int.mono_l k;unfold cmp_Or_int.f
 repeat' with_reducible first|exact ap _ _ _ _|exact LeO.refl _|exact LeO.none _|refine LeO.ite ?_ ?_|refine LeO.bind ?_ (fun _=> ?_)
theorem cmp_Or_int.calls (k:Nat) (A0:Option Addr) (c0:Nat) (l0:List Int) (r:Int) (w:World) (bw:Kd.C (Kd.int .i64) w A0 l0.length l0) (bx:l0.length<=c0) (h:cmp_Or_int.f k l0=some r):
  Calls Try.prog 109 #[.slice A0 l0.length c0] w fun e w'=>e= .returned (.int .i64 r)/\Drawn0 w w':=by
 have a8:=G.m bw;have ch:=G.m bx;clear bw bx;unfold cmp_Or_int.f at h;have H:=h;clear h;have H':=G.m H;clear H
 go_enter Try.func109,Try.ntmps109
 go_wp2
 go_loopg [8] k (fun kq v8 w'=>∃ (ai:Int),v8= .int .i64 ai/\Aside0 (cmp_Or_int.l0 kq 0 l0 (l0.length:Int) ai=some r)/\Aside0 (kq<=k)/\Drawn0 w w')
 case atStart=>exact⟨(0),(caal),H',⟨Nat.le_refl _⟩,by repeat(first|exact Drawn0.refl _|apply Drawn0.step)⟩
 case round=>
  clear H';try clear c1
  obtain⟨ai,rfl,HA,a5,⟨m1,rfl⟩⟩:=hrel;cases gk with
  |zero=>exact absurd HA.out (by simp[cmp_Or_int.l0])
  |succ k1=>
   have H:=HA.out;clear HA;simp only[cmp_Or_int.l0] at H
   by_cases c2:ai<(l0.length:Int)
   ·rw[if_pos c2] at H;have bJ:=decide_eq_true c2;clear c2
    obtain⟨bC,H⟩:=G.dp H
    obtain⟨bX,H⟩:=G.dp H
    by_cases c5:(rd l0 ai)=0
    ·rw[if_pos c5] at H;have br:=beq_iff_eq.mpr c5;have bG:=bne_eq_false_iff_eq.mpr c5;clear c5;have H':=G.m H;clear H;have bd:0<=(ai:Int):=G.da;have bf:ai<(l0.length:Int):=G.da;obtain⟨cg,bK,bS⟩:=Kd.at_int a8.out ai bd bf;cases bK;replace bd:=eq_true bd;replace bf:=eq_true bf
     go_wp2
     go_roundg k1
     case measure=>have:=a5.out;omega
     case rel=>exact⟨(wrap64 (ai+1)),(caal),H',⟨by have:=a5.out;omega⟩,by repeat(first|exact Drawn0.refl _|apply Drawn0.step)⟩
    ·rw[if_neg c5] at H;have br:=beq_eq_false_iff_ne.mpr c5;have bG:=bne_iff_ne.mpr c5;obtain rfl:=Option.some.inj H;have bd:0<=(ai:Int):=G.da;have bf:ai<(l0.length:Int):=G.da;obtain⟨cg,bK,bS⟩:=Kd.at_int a8.out ai bd bf;cases bK;replace bd:=eq_true bd;replace bf:=eq_true bf
     go_wp2
     go_ret
     exact⟨caal,by repeat(first|exact Drawn0.refl _|apply Drawn0.step)⟩
   ·rw[if_neg c2] at H;have bJ:=decide_eq_false c2;clear c2;obtain rfl:=Option.some.inj H
    go_wp2
    go_ret
    exact⟨caal,by repeat(first|exact Drawn0.refl _|apply Drawn0.step)⟩
def cmp_isNaN_int.f (a0:Int):Option (Bool):=some (a0 !=a0)
theorem cmp_isNaN_int.calls (a0:Int) (r:Bool) (w:World) (h:cmp_isNaN_int.f a0=some r):
  Calls Try.prog 129 #[.int .i64 a0] w fun e w'=>e= .returned (.bool r)/\Drawn0 w w':=by
 unfold cmp_isNaN_int.f at h;have H:=h;clear h;obtain rfl:=Option.some.inj H
 go_enter Try.func129,Try.ntmps129
 go_wp2
 go_ret
 exact⟨caal,by repeat(first|exact Drawn0.refl _|apply Drawn0.step)⟩
def cmp_Compare_int.f (a0:Int) (a1:Int):Option (Int):=(cmp_isNaN_int.f a0).bind fun bh=>((cmp_isNaN_int.f a1).bind fun aA=>(if bh=true then(if aA=true then(some 0) else(some (-1))) else(if aA=true then(some 1) else(if a0<a1 then(some (-1)) else(if a0>a1 then(some 1) else(some 0))))))
theorem cmp_Compare_int.calls (a0:Int) (a1:Int) (r:Int) (w:World) (h:cmp_Compare_int.f a0 a1=some r):
  Calls Try.prog 110 #[.int .i64 a0,.int .i64 a1] w fun e w'=>e= .returned (.int .i64 r)/\Drawn0 w w':=by
 unfold cmp_Compare_int.f at h;have H:=h;clear h;obtain⟨bh,A3,H⟩:=G.bi H;(try dsimp only at H);obtain⟨aA,A4,H⟩:=G.bi H;(try dsimp only at H)
 rcases G.bc H with⟨h_,H_⟩|⟨h_,H_⟩<;> (subst h_;clear H;have H:=H_;clear H_)
 ·skip
  rcases G.bc H with⟨h_,H_⟩|⟨h_,H_⟩<;> (subst h_;clear H;have H:=H_;clear H_)
  ·obtain rfl:=Option.some.inj H
   go_enter Try.func110,Try.ntmps110
   go_wp2_with (first|((with_reducible refine G.f 129 rfl ?_);refine G.gL 8 Try.func129 #[.int .i64 a0] ?_;(with_reducible refine(cmp_isNaN_int.calls a0 true _ A3.out).mono ?_);rintro e w' ⟨rfl,⟨nd,rfl⟩⟩;refine⟨_,rfl,?_⟩)|((with_reducible refine G.f 129 rfl ?_);refine G.gL 10 Try.func129 #[.int .i64 a1] ?_;(with_reducible refine(cmp_isNaN_int.calls a1 true _ A4.out).mono ?_);rintro e w' ⟨rfl,⟨nd,rfl⟩⟩;refine⟨_,rfl,?_⟩))
   go_ret
   exact⟨caal,by repeat(first|exact Drawn0.refl _|apply Drawn0.step)⟩
  ·obtain rfl:=Option.some.inj H
   go_enter Try.func110,Try.ntmps110
   go_wp2_with (first|((with_reducible refine G.f 129 rfl ?_);refine G.gL 8 Try.func129 #[.int .i64 a0] ?_;(with_reducible refine(cmp_isNaN_int.calls a0 true _ A3.out).mono ?_);rintro e w' ⟨rfl,⟨nd,rfl⟩⟩;refine⟨_,rfl,?_⟩)|((with_reducible refine G.f 129 rfl ?_);refine G.gL 10 Try.func129 #[.int .i64 a1] ?_;(with_reducible refine(cmp_isNaN_int.calls a1 false _ A4.out).mono ?_);rintro e w' ⟨rfl,⟨nd,rfl⟩⟩;refine⟨_,rfl,?_⟩))
   go_ret
   exact⟨caal,by repeat(first|exact Drawn0.refl _|apply Drawn0.step)⟩
 ·skip
  rcases G.bc H with⟨h_,H_⟩|⟨h_,H_⟩<;> (subst h_;clear H;have H:=H_;clear H_)
  ·obtain rfl:=Option.some.inj H
   go_enter Try.func110,Try.ntmps110
   go_wp2_with (first|((with_reducible refine G.f 129 rfl ?_);refine G.gL 8 Try.func129 #[.int .i64 a0] ?_;(with_reducible refine(cmp_isNaN_int.calls a0 false _ A3.out).mono ?_);rintro e w' ⟨rfl,⟨nd,rfl⟩⟩;refine⟨_,rfl,?_⟩)|((with_reducible refine G.f 129 rfl ?_);refine G.gL 10 Try.func129 #[.int .i64 a1] ?_;(with_reducible refine(cmp_isNaN_int.calls a1 true _ A4.out).mono ?_);rintro e w' ⟨rfl,⟨nd,rfl⟩⟩;refine⟨_,rfl,?_⟩))
   go_ret
   exact⟨caal,by repeat(first|exact Drawn0.refl _|apply Drawn0.step)⟩
  ·skip
   by_cases c8:a0<a1
   ·rw[if_pos c8] at H;have bA:=decide_eq_true c8;clear c8;obtain rfl:=Option.some.inj H
    go_enter Try.func110,Try.ntmps110
    go_wp2_with (first|((with_reducible refine G.f 129 rfl ?_);refine G.gL 8 Try.func129 #[.int .i64 a0] ?_;(with_reducible refine(cmp_isNaN_int.calls a0 false _ A3.out).mono ?_);rintro e w' ⟨rfl,⟨nd,rfl⟩⟩;refine⟨_,rfl,?_⟩)|((with_reducible refine G.f 129 rfl ?_);refine G.gL 10 Try.func129 #[.int .i64 a1] ?_;(with_reducible refine(cmp_isNaN_int.calls a1 false _ A4.out).mono ?_);rintro e w' ⟨rfl,⟨nd,rfl⟩⟩;refine⟨_,rfl,?_⟩))
    go_ret
    exact⟨caal,by repeat(first|exact Drawn0.refl _|apply Drawn0.step)⟩
   ·rw[if_neg c8] at H;have bA:=decide_eq_false c8;clear c8
    by_cases c9:a0>a1
    ·rw[if_pos c9] at H;have cq:=decide_eq_true c9;clear c9;obtain rfl:=Option.some.inj H
     go_enter Try.func110,Try.ntmps110
     go_wp2_with (first|((with_reducible refine G.f 129 rfl ?_);refine G.gL 8 Try.func129 #[.int .i64 a0] ?_;(with_reducible refine(cmp_isNaN_int.calls a0 false _ A3.out).mono ?_);rintro e w' ⟨rfl,⟨nd,rfl⟩⟩;refine⟨_,rfl,?_⟩)|((with_reducible refine G.f 129 rfl ?_);refine G.gL 10 Try.func129 #[.int .i64 a1] ?_;(with_reducible refine(cmp_isNaN_int.calls a1 false _ A4.out).mono ?_);rintro e w' ⟨rfl,⟨nd,rfl⟩⟩;refine⟨_,rfl,?_⟩))
     go_ret
     exact⟨caal,by repeat(first|exact Drawn0.refl _|apply Drawn0.step)⟩
    ·rw[if_neg c9] at H;have cq:=decide_eq_false c9;clear c9;obtain rfl:=Option.some.inj H
     go_enter Try.func110,Try.ntmps110
     go_wp2_with (first|((with_reducible refine G.f 129 rfl ?_);refine G.gL 8 Try.func129 #[.int .i64 a0] ?_;(with_reducible refine(cmp_isNaN_int.calls a0 false _ A3.out).mono ?_);rintro e w' ⟨rfl,⟨nd,rfl⟩⟩;refine⟨_,rfl,?_⟩)|((with_reducible refine G.f 129 rfl ?_);refine G.gL 10 Try.func129 #[.int .i64 a1] ?_;(with_reducible refine(cmp_isNaN_int.calls a1 false _ A4.out).mono ?_);rintro e w' ⟨rfl,⟨nd,rfl⟩⟩;refine⟨_,rfl,?_⟩))
     go_ret
     exact⟨caal,by repeat(first|exact Drawn0.refl _|apply Drawn0.step)⟩
def impl_tieOrder.f (k:Nat) (ab:Int) (aD:Int) (a4:Int) (aP:Int):Option (Int):=(cmp_Compare_int.f ab a4).bind fun aE=>((cmp_Compare_int.f aD aP).bind fun aB=>((cmp_Or_int.f k (([aE,aB]:List Int))).bind fun aF=>(some aF)))
theorem impl_tieOrder.mono:∀a0 a1 a2 a3 k,LeO (impl_tieOrder.f k a0 a1 a2 a3) (impl_tieOrder.f (k+1) a0 a1 a2 a3):=by
 intro a0 a1 a2 a3 k;unfold impl_tieOrder.f
 repeat' with_reducible first|exact cmp_Or_int.mono _ _|exact LeO.refl _|exact LeO.none _|refine LeO.ite ?_ ?_|refine LeO.bind ?_ (fun _=> ?_)
def impl_tieOrder.T1:Bool×List (List Nat×List Nat):=(true,[([],[]),([0],[0]),([],[]),([2],[2]),([1,3],[1,3]),([],[]),([5],[5]),([],[]),([7],[7]),([6,8,4],[6,8]),([4,9],[4,9]),([10,9],[10]),([11,11,0,1,2,3,4,5,6,7,8,9,10,11],[11])])
def impl_tieOrder.B1:List Nat:=[0,1,0,4,15,0,32,0,128,511,1023,2047,4095]
theorem impl_tieOrder.tab1:rtab .any (opsOf Try.f80 1)=impl_tieOrder.T1:=by kernel_rfl
theorem impl_tieOrder.bits1:waitsOk impl_tieOrder.T1.2 impl_tieOrder.B1=true:=by kernel_rfl
theorem impl_tieOrder.calls (k:Nat) (ab:Int) (aD:Int) (a4:Int) (aP:Int) (r:Int) (w:World) (h:impl_tieOrder.f k ab aD a4 aP=some r):
  Calls Try.prog 80 #[.agg #[.int .i64 ab,.int .i64 aD],.agg #[.int .i64 a4,.int .i64 aP]] w fun e w'=>e= .returned (.int .i64 r)/\Below w.heap.size w w':=by
 have bF:=Try.underlying59;have HB:=G.m (Below.refl w.heap.size w);unfold impl_tieOrder.f at h;have H:=h;clear h;obtain⟨aE,A3,H⟩:=G.bi H;(try dsimp only at H);obtain⟨aB,A4,H⟩:=G.bi H;(try dsimp only at H);obtain⟨bL,bq⟩:∃y_:List Int,y_=(([aE,aB]:List Int)):=⟨_,rfl⟩;replace H:((cmp_Or_int.f k bL).bind fun aF=>(some aF))=some r:=G.y0 bq H
 have bP:=G.m bq;clear bq;obtain⟨aF,A5,H⟩:=G.bi H;(try dsimp only at H);obtain rfl:=Option.some.inj H
 go_enter Try.func80,Try.ntmps80;try go_wp2_with (first|((with_reducible refine G.h 2 rfl ?_);refine G.be 2 #[.int .i64 ab,.int .i64 aD] 59 ?_;intro aM hg w6 hbox hb;have ag:=G.m (hbox);have dg:=G.m (caam:w.heap.size<=aM);have dh:=G.m (caam:w.heap.size<=aM);replace HB:=G.bs HB hb;clear hb hbox hg)|((with_reducible refine G.h 3 rfl ?_);refine G.be 3 #[.int .i64 a4,.int .i64 aP] 59 ?_;intro a7 hg w7 hbox hb;have aj:=G.m (hbox);have di:=G.m (caam:w.heap.size<=a7);have dj:=G.m (caam:w.heap.size<=a7);replace HB:=G.bs HB hb;have cj:=G.m ((by rw[hg];exact Nat.ne_of_lt (blk_lt (g:=aM) (o:= .cells #[.int .i64 ab,.int .i64 aD] 59 (0,0)) (G.cb ag.out)):aM≠a7));have ck:=G.m ((by rw[hg];exact Nat.ne_of_gt (blk_lt (g:=aM) (o:= .cells #[.int .i64 ab,.int .i64 aD] 59 (0,0)) (G.cb ag.out)):a7≠aM));replace ag:=G.bb ag hb;clear hb hbox hg))
 replace ag:=G.m (blk_drew ag.out);replace aj:=G.m (blk_drew aj.out);replace HB:=G.m (below_drew1 HB.out);refine G.st 13 (S:=fun w'=>w'.cell? ⟨aM,0,none⟩=some (.int .i64 ab)/\w'.cell? ⟨aM,1,none⟩=some (.int .i64 aD)/\w'.cell? ⟨a7,0,none⟩=some (.int .i64 a4)/\w'.cell? ⟨a7,1,none⟩=some (.int .i64 aP)) [] ⟨G.z ag 0,G.z ag 1,G.z aj 0,G.z aj 1⟩ impl_tieOrder.tab1 impl_tieOrder.bits1 (fun hHeld HT_ HW_=> ?_);generalize w7.drew=w8 at ag aj HB hHeld⊢;refine G.pu 0 5 1 ?_;refine G.pu 2 7 5 ?_;refine G.pu 5 10 37 ?_;refine G.pu 7 12 165 ?_;refine G.ta4 1 6 167 ?_;refine G.ta4 3 8 175 ?_;refine G.ta4 6 11 239 ?_;refine G.ta4 8 13 495 ?_;refine G.on 4 9 511 (fun K hK=> ?_);refine G.gs Try.func110 #[.int .i64 ab,.int .i64 a4] ?_;with_reducible refine(cmp_Compare_int.calls ab a4 aE _ A3.out).mono ?_
 rintro e w' ⟨rfl,⟨nd,rfl⟩⟩;refine⟨_,rfl,?_⟩;refine hK.out _ _ ⟨G.z ag 0,G.z ag 1,G.z aj 0,G.z aj 1⟩ (fun hHeld=> ?_);clear hK K;refine G.no 9 ?_;refine G.on 9 14 1023 (fun K hK=> ?_);refine G.gs Try.func110 #[.int .i64 aD,.int .i64 aP] ?_;with_reducible refine(cmp_Compare_int.calls aD aP aB _ A4.out).mono ?_
 rintro e w' ⟨rfl,⟨nd,rfl⟩⟩;refine⟨_,rfl,?_⟩;refine hK.out _ _ ⟨G.z ag 0,G.z ag 1,G.z aj 0,G.z aj 1⟩ (fun hHeld=> ?_);clear hK K;refine G.no 14 ?_;refine G.on 10 15 2047 (fun K hK=> ?_);refine Kd.R_lit_step (Kd.int .i64) _ 3 ?hg (N:=15) ?hd (xs:=([aE,aB]:List Int)) (inner:=[.int .i64 aE,.int .i64 aB]) (ok:=fun _=>True) (okp:=fun _=>True) ?hr ?hp (fun _ hk=>hk) trivial (Below.refl _ _) (Nat.le_refl _) (by simp) ?_;(case hd=>rfl);(case hg=>rfl);(case hr=>first|(go_simp;done)|(go_simp;rfl));(case hp=>exact(Reps.one (show Kd.M (Kd.int .i64) _ _ _ aE [.int .i64 aE] from rfl) (Reps.one (show Kd.M (Kd.int .i64) _ _ _ aB [.int .i64 aB] from rfl) (Reps.none _ _))));intro dn w9 bB hb hg_ hnew_;clear hg_ hnew_;(first|rw[←bP.out] at bB|(simp only[Int.reduceToNat] at bB;rw[←bP.out] at bB));have bD:=G.m (Kd.R_lower bB (below_size (G.cB HB.out)));replace ag:=G.bb ag hb;replace aj:=G.bb aj hb;replace HB:=G.bs HB hb;clear hb bB;obtain⟨cr,ct,b7⟩:=Kd.R_slice bD.out;(first|subst b7|(injection b7 with cl db cm;have dc:=cl.symm;have dd:=cm.symm;clear cl db cm;subst dc;subst dd));refine hK.out _ _ ⟨G.z ag 0,G.z ag 1,G.z aj 0,G.z aj 1⟩ (fun hHeld=> ?_);clear hK K;refine G.no 15 ?_;refine G.on 11 16 4095 (fun K hK=> ?_);refine G.gs Try.func109 #[.slice cr bL.length ct] ?_;with_reducible refine(cmp_Or_int.calls k _ _ bL aF _ ?side1 ?side2 A5.out).mono ?_
 (case side1=>exact G.cC (Kd.R_reads' bD.out).2.2);(case side2=>exact(Kd.R_reads' bD.out).2.1);rintro e w' ⟨rfl,⟨nd,rfl⟩⟩;refine⟨_,rfl,?_⟩;refine hK.out _ _ ⟨G.z ag 0,G.z ag 1,G.z aj 0,G.z aj 1⟩ (fun hHeld=> ?_);clear hK K;refine G.no 16 ?_;refine G.pu 12 4 8191 ?_;refine done_ (done_of HT_.out (caao)) ?_;try go_wp2
 go_ret
 exact⟨caan,G.cB HB.out⟩
def impl_ascending.l0:Nat->List (S59)->Int->Option (Bool)
 |0,_,_=>none
 |k+1,x0,x3=>if x3<(x0.length:Int) then(if 0<=(wrap64 (x3 - 1)) then(if(wrap64 (x3 - 1))<(x0.length:Int) then(if 0<=x3 then((impl_tieOrder.f k ((rd_T59 x0 (wrap64 (x3 - 1))).f0) ((rd_T59 x0 (wrap64 (x3 - 1))).f1) ((rd_T59 x0 x3).f0) ((rd_T59 x0 x3).f1)).bind fun aQ=>(if aQ>=0 then(some false) else(impl_ascending.l0 k x0 (wrap64 (x3+1))))) else(none)) else(none)) else(none)) else(some true)
def impl_ascending.f (k:Nat) (l0:List (S59)):Option (Bool):=impl_ascending.l0 k l0 1
theorem impl_ascending.mono_l:∀k,(∀y0 y1,LeO (impl_ascending.l0 k y0 y1) (impl_ascending.l0 (k+1) y0 y1))
 |0=>fun _ _ r h=>by simp[impl_ascending.l0] at h
 |k+1=>by
  have ap:=impl_ascending.mono_l k
  ·intro y0 y1;unfold impl_ascending.l0
   repeat' first
   |(with_reducible exact ap _ _)
   |(with_reducible exact impl_tieOrder.mono _ _ _ _ _)
   |(with_reducible exact LeO.refl _)
   |(with_reducible exact LeO.none _)
   |(with_reducible refine LeO.ite ?_ ?_)
   |(with_reducible refine LeO.bind ?_ (fun _=> ?_))
   |exact ap _ _
   |exact impl_tieOrder.mono _ _ _ _ _
   |exact LeO.none _
   |refine LeO.ite ?_ ?_
   |refine LeO.bind ?_ (fun _=> ?_)
theorem impl_ascending.mono:∀a0 k,LeO (impl_ascending.f k a0) (impl_ascending.f (k+1) a0):=by
 intro a0 k;have ap:=impl_ascending.mono_l k;unfold impl_ascending.f
 repeat' with_reducible first|exact ap _ _|exact impl_tieOrder.mono _ _ _ _ _|exact LeO.refl _|exact LeO.none _|refine LeO.ite ?_ ?_|refine LeO.bind ?_ (fun _=> ?_)
def impl_ascending.T4:Bool×List (List Nat×List Nat):=(true,[([],[]),([],[]),([1],[1]),([0,2],[0,2]),([3],[3]),([],[]),([],[]),([5,6],[5,6]),([7],[7]),([4,8],[4,8]),([9],[9])])
def impl_ascending.B4:List Nat:=[0,0,2,7,15,0,0,96,224,511,1023]
theorem impl_ascending.tab4:rtab .any (opsOf Try.f88 4)=impl_ascending.T4:=by kernel_rfl
theorem impl_ascending.bits4:waitsOk impl_ascending.T4.2 impl_ascending.B4=true:=by kernel_rfl
theorem impl_ascending.calls (k:Nat) (A0:Option Addr) (c0:Nat) (l0:List (S59)) (r:Bool) (w:World) (bw:Kd.C k59 w A0 l0.length l0) (bx:l0.length<=c0) (h:impl_ascending.f k l0=some r):
  Calls Try.prog 88 #[.slice A0 l0.length c0] w fun e w'=>e= .returned (.bool r)/\Below w.heap.size w w':=by
 have bF:=Try.underlying59;have a8:=G.m bw;have ch:=G.m bx;clear bw bx;have HB:=G.m (Below.refl w.heap.size w);unfold impl_ascending.f at h;have H:=h;clear h;have H':=G.m H;clear H
 go_enter Try.func88,Try.ntmps88
 go_wp2
 go_loopg [3] k (fun kq v3 w'=>∃ (ae:Int),v3= .int .i64 ae/\Aside0 (impl_ascending.l0 kq l0 ae=some r)/\Aside0 (kq<=k)/\Aside0 (Below w.heap.size w w'))
 case atStart=>exact⟨(1),(caal),H',⟨Nat.le_refl _⟩,⟨G.cB HB.out⟩⟩
 case round=>
  clear H';obtain⟨ae,rfl,HA,a5,HB⟩:=hrel;cases gk with
  |zero=>exact absurd HA.out (by simp[impl_ascending.l0])
  |succ k1=>
   have H:=HA.out;clear HA;simp only[impl_ascending.l0] at H
   by_cases c2:ae<(l0.length:Int)
   ·rw[if_pos c2] at H;have bJ:=decide_eq_true c2;clear c2;obtain⟨ah,bz⟩:∃j_:Int,(wrap64 (ae - 1))=j_:=⟨_,rfl⟩;replace H:(if 0<=(ah) then(if(ah)<(l0.length:Int) then(if 0<=ae then((impl_tieOrder.f k1 ((rd_T59 l0 (ah)).f0) ((rd_T59 l0 (ah)).f1) ((rd_T59 l0 ae).f0) ((rd_T59 l0 ae).f1)).bind fun aQ=>(if aQ>=0 then(some false) else(impl_ascending.l0 k1 l0 (wrap64 (ae+1))))) else(none)) else(none)) else(none))=some r:=by first|(rw[bz] at H;exact H)|(simp only[bz] at H⊢;exact H)
    have dk:(IntKind.i64.wrap (ae - 1))=ah:=(i64_w _).trans bz
    obtain⟨bX,H⟩:=G.dp H
    obtain⟨br,H⟩:=G.dp H
    obtain⟨cn,H⟩:=G.dp H;obtain⟨aQ,A7,H⟩:=G.bi H;(try dsimp only at H)
    by_cases c8:aQ>=0
    ·rw[if_pos c8] at H;have bA:=decide_eq_true c8;clear c8;obtain rfl:=Option.some.inj H;try go_wp2
     replace HB:=G.m (below_drew1 HB.out);have bj:0<=((ah):Int):=G.da;have bk:(ah)<(l0.length:Int):=G.da;obtain⟨am,bM,aw,ax⟩:=at_T59 a8.out (ah) bj bk;have aT:=ax;have aU:=aw;cases bM;replace aw:=G.hx HB aw;replace ax:=G.hx HB ax;replace bj:=eq_true bj;replace bk:=eq_true bk;have bl:0<=(ae:Int):=G.da;have bm:ae<(l0.length:Int):=G.da;obtain⟨bE,bN,ay,az⟩:=at_T59 a8.out ae bl bm;have aV:=az;have aW:=ay;obtain rfl:am=bE:=(by injection bN);replace ay:=G.hx HB ay;replace az:=G.hx HB az;replace bl:=eq_true bl;replace bm:=eq_true bm;refine G.st 11 (S:=fun w'=>w'.cell? (am.add (((ah)).toNat*2))=some (.int .i64 ((rd_T59 l0 (ah)).f0))/\w'.cell? ⟨(am.add (((ah)).toNat*2)).block,(am.add (((ah)).toNat*2)).off+1,none⟩=some (.int .i64 ((rd_T59 l0 (ah)).f1))/\w'.cell? (am.add ((ae).toNat*2))=some (.int .i64 ((rd_T59 l0 ae).f0))/\w'.cell? ⟨(am.add ((ae).toNat*2)).block,(am.add ((ae).toNat*2)).off+1,none⟩=some (.int .i64 ((rd_T59 l0 ae).f1))) [] ⟨(G.hx HB aU),(G.hx HB aT),(G.hx HB aW),(G.hx HB aV)⟩ impl_ascending.tab4 impl_ascending.bits4 (fun hHeld HT_ HW_=> ?_);generalize wr.drew=w9 at HB aw ax ay az hHeld⊢;refine G.pu 0 10 1 ?_;refine G.pu 1 11 3 ?_;refine G.pu 2 12 7 ?_;refine G.pu 3 13 15 ?_;refine G.pu 5 15 47 ?_;refine G.pu 6 16 111 ?_;refine G.pu 7 17 239 ?_;refine G.ta4 4 14 255 ?_;refine G.ta4 8 18 511 ?_;refine G.on 9 19 1023 (fun K hK=> ?_);refine goes_ Try.func80 (caao) rfl #[.agg #[.int .i64 ((rd_T59 l0 (ah)).f0),.int .i64 ((rd_T59 l0 (ah)).f1)],.agg #[.int .i64 ((rd_T59 l0 ae).f0),.int .i64 ((rd_T59 l0 ae).f1)]] (by rfl) rfl rfl (caap) ?_;with_reducible refine(impl_tieOrder.calls k1 ((rd_T59 l0 (ah)).f0) ((rd_T59 l0 (ah)).f1) ((rd_T59 l0 ae).f0) ((rd_T59 l0 ae).f1) aQ _ A7.out).mono ?_
     rintro e b4 ⟨rfl,hb⟩;refine⟨_,rfl,?_⟩;replace HB:=G.bs HB hb;(try clear hb);refine hK.out _ _ ⟨(G.hx HB aU),(G.hx HB aT),(G.hx HB aW),(G.hx HB aV)⟩ (fun hHeld=> ?_);clear hK K;refine G.no 19 ?_;refine G.pu 10 20 2047 ?_;refine done_ (done_of HT_.out (caao)) ?_;try go_wp2
     go_ret
     exact⟨by first|rfl|(simp[errW_none,errW_some]<;>rfl)|(simp only[←bz];first|rfl|(simp[errW_none,errW_some]<;>rfl))|(simp[*,errW_none,errW_some]<;>rfl),G.cB HB.out⟩
    ·rw[if_neg c8] at H;have bA:=decide_eq_false c8;clear c8;have H':=G.m H;clear H;try go_wp2
     replace HB:=G.m (below_drew1 HB.out);have bj:0<=((ah):Int):=G.da;have bk:(ah)<(l0.length:Int):=G.da;obtain⟨am,bM,aw,ax⟩:=at_T59 a8.out (ah) bj bk;have aT:=ax;have aU:=aw;cases bM;replace aw:=G.hx HB aw;replace ax:=G.hx HB ax;replace bj:=eq_true bj;replace bk:=eq_true bk;have bl:0<=(ae:Int):=G.da;have bm:ae<(l0.length:Int):=G.da;obtain⟨bE,bN,ay,az⟩:=at_T59 a8.out ae bl bm;have aV:=az;have aW:=ay;obtain rfl:am=bE:=(by injection bN);replace ay:=G.hx HB ay;replace az:=G.hx HB az;replace bl:=eq_true bl;replace bm:=eq_true bm;refine G.st 11 (S:=fun w'=>w'.cell? (am.add (((ah)).toNat*2))=some (.int .i64 ((rd_T59 l0 (ah)).f0))/\w'.cell? ⟨(am.add (((ah)).toNat*2)).block,(am.add (((ah)).toNat*2)).off+1,none⟩=some (.int .i64 ((rd_T59 l0 (ah)).f1))/\w'.cell? (am.add ((ae).toNat*2))=some (.int .i64 ((rd_T59 l0 ae).f0))/\w'.cell? ⟨(am.add ((ae).toNat*2)).block,(am.add ((ae).toNat*2)).off+1,none⟩=some (.int .i64 ((rd_T59 l0 ae).f1))) [] ⟨(G.hx HB aU),(G.hx HB aT),(G.hx HB aW),(G.hx HB aV)⟩ impl_ascending.tab4 impl_ascending.bits4 (fun hHeld HT_ HW_=> ?_);generalize wr.drew=ci at HB aw ax ay az hHeld⊢;refine G.pu 0 10 1 ?_;refine G.pu 1 11 3 ?_;refine G.pu 2 12 7 ?_;refine G.pu 3 13 15 ?_;refine G.pu 5 15 47 ?_;refine G.pu 6 16 111 ?_;refine G.pu 7 17 239 ?_;refine G.ta4 4 14 255 ?_;refine G.ta4 8 18 511 ?_;refine G.on 9 19 1023 (fun K hK=> ?_);refine goes_ Try.func80 (caao) rfl #[.agg #[.int .i64 ((rd_T59 l0 (ah)).f0),.int .i64 ((rd_T59 l0 (ah)).f1)],.agg #[.int .i64 ((rd_T59 l0 ae).f0),.int .i64 ((rd_T59 l0 ae).f1)]] (by rfl) rfl rfl (caap) ?_;with_reducible refine(impl_tieOrder.calls k1 ((rd_T59 l0 (ah)).f0) ((rd_T59 l0 (ah)).f1) ((rd_T59 l0 ae).f0) ((rd_T59 l0 ae).f1) aQ _ A7.out).mono ?_
     rintro e b5 ⟨rfl,hb⟩;refine⟨_,rfl,?_⟩;replace HB:=G.bs HB hb;(try clear hb);refine hK.out _ _ ⟨(G.hx HB aU),(G.hx HB aT),(G.hx HB aW),(G.hx HB aV)⟩ (fun hHeld=> ?_);clear hK K;refine G.no 19 ?_;refine G.pu 10 20 2047 ?_;refine done_ (done_of HT_.out (caao)) ?_;try go_wp2
     go_roundg k1
     case measure=>have:=a5.out;omega
     case rel=>exact⟨(wrap64 (ae+1)),(caal),H',⟨by have:=a5.out;omega⟩,⟨G.cB HB.out⟩⟩
   ·rw[if_neg c2] at H;have bJ:=decide_eq_false c2;clear c2;obtain rfl:=Option.some.inj H
    go_wp2
    go_ret
    exact⟨caan,G.cB HB.out⟩
theorem caat {p:Prop} (h:p:=by rw[hg];exact Nat.ne_of_lt (blk_lt (g:=ao) (o:= .cells #[.int .i64 af,.slice (some aL) aa.length av] 31 (0,0)) (G.cb ac.out))):p:=h
theorem caau {p:Prop} (h:p:=by rw[hg];exact Nat.ne_of_gt (blk_lt (g:=ao) (o:= .cells #[.int .i64 af,.slice (some aL) aa.length av] 31 (0,0)) (G.cb ac.out))):p:=h
theorem caar {p:Prop} (h:p:=by first|rfl|(simp[errW_none,errW_some]<;>rfl)|(simp[*,errW_none,errW_some]<;>rfl)):p:=h
theorem caas {p:Prop} (h:p:=by first|rfl|(simp;done)|(simp[*];done)):p:=h
theorem caaq {p:Prop} (h:p:=by rw[hg];exact(below_size (G.cB HB.out))):p:=h
attribute [local go_sem high] eqA59
mutual
def impl_NetOk.j0:Nat->Bool->Int->List (S59)->Option (Bool)
 |0,_,_,_=>none
 |k+1,cv,aG,ay=>if cv=true then(some false) else(impl_NetOk.l0 k ay (ay.length:Int) 0 aG ay)
def impl_NetOk.l0:Nat->List (S59)->Int->Int->Int->List (S59)->Option (Bool)
 |0,_,_,_,_,_=>none
 |k+1,aU,bO,aQ,aG,ay=>if aQ<bO then(if 0<=aQ then(if aQ<(aU.length:Int) then(if((rd_T59 aU aQ).f0)<0 then(some false) else(if((rd_T59 aU aQ).f0)>=((rd_T59 aU aQ).f1) then(some false) else(if((rd_T59 aU aQ).f1)>=aG then(some false) else(impl_NetOk.l0 k aU bO (wrap64 (aQ+1)) aG ay)))) else(none)) else(none)) else((impl_ascending.f k ay).bind fun a4=>(some a4))
end
def impl_NetOk.f (k:Nat) (af:Int) (aa:List (S59)):Option (Bool):=if af<0 then(impl_NetOk.j0 k true af aa) else(impl_NetOk.j0 k (decide (af>8)) af aa)
theorem impl_NetOk.mono_l:∀k,(∀y0 y1 y2,LeO (impl_NetOk.j0 k y0 y1 y2) (impl_NetOk.j0 (k+1) y0 y1 y2))/\(∀y0 y1 y2 y3 y4,LeO (impl_NetOk.l0 k y0 y1 y2 y3 y4) (impl_NetOk.l0 (k+1) y0 y1 y2 y3 y4))
 |0=>⟨fun _ _ _ r h=>by simp[impl_NetOk.j0] at h,fun _ _ _ _ _ r h=>by simp[impl_NetOk.l0] at h⟩
 |k+1=>by
  obtain⟨aE,bd⟩:=impl_NetOk.mono_l k;refine⟨?_,?_⟩<;>intros
  all_goals first|unfold impl_NetOk.j0|unfold impl_NetOk.l0
  repeat' with_reducible first|exact aE _ _ _|exact bd _ _ _ _ _|exact impl_ascending.mono _ _|exact LeO.refl _|exact LeO.none _|refine LeO.ite ?_ ?_|refine LeO.bind ?_ (fun _=> ?_)
theorem impl_NetOk.mono:∀a0 a1 k,LeO (impl_NetOk.f k a0 a1) (impl_NetOk.f (k+1) a0 a1):=by
 intro a0 a1 k;obtain⟨aE,bd⟩:=impl_NetOk.mono_l k;unfold impl_NetOk.f
 repeat' with_reducible first|exact aE _ _ _|exact bd _ _ _ _ _|exact impl_ascending.mono _ _|exact LeO.refl _|exact LeO.none _|refine LeO.ite ?_ ?_|refine LeO.bind ?_ (fun _=> ?_)
theorem impl_NetOk.calls (k:Nat) (af:Int) (aw:Option Addr) (av:Nat) (aa:List (S59)) (r:Bool) (w:World) (aM:Kd.C k59 w aw aa.length aa) (aN:aa.length<=av) (h:impl_NetOk.f k af aa=some r):
  Calls Try.prog 50 #[.agg #[.int .i64 af,.slice aw aa.length av]] w fun e w'=>e= .returned (.bool r)/\Below w.heap.size w w':=by
 have bV:=Try.underlying31;have bo:=Try.underlying59;have aB:=G.m aM;have a5:=G.m aN;clear aM aN;have HB:=G.m (Below.refl w.heap.size w);unfold impl_NetOk.f at h;have H:=h;clear h;have bz:=G.m H;clear H
 go_enter Try.func50,Try.ntmps50
 go_upto_region 1 with(first|((with_reducible refine G.h 1 rfl ?_);refine G.be 1 #[.int .i64 af,.slice aw aa.length av] 31 ?_;intro ao hg w3 hbox hb;have ac:=G.m (hbox);have cH:=G.m (caaq:w.heap.size<=ao);have cI:=G.m (caaq:w.heap.size<=ao);replace HB:=G.bs HB hb;clear hb hbox hg))
 (try simp only[Act.put,List.setIfInBounds_toArray,List.set_cons_zero,List.set_cons_succ])
 go_cut [12] (fun cw wc=>∃ (kq:Nat) (aR:Bool),cw= .bool aR/\Aside0 (impl_NetOk.j0 kq aR af aa=some r)/\Aside0 (kq<=k)/\Aside0 (wc.heap[ao]? =some (.cells #[.int .i64 af,(.slice aw aa.length av)] 31 (0,0)))/\Aside0 (Below w.heap.size w wc))
 case first=>
  have H:=bz.out;clear bz
  by_cases c4:af<0
  ·rw[if_pos c4] at H;have aH:=decide_eq_true c4;clear c4;(first|rw[aH]|(simp only[i64_w,i32_w];rw[aH])|skip);have H':=G.m H;clear H;have⟨bA,bB,bC,bD⟩:=G.d2 (w:=w3) ac
   go_wp2
   go_meet
   case rel=>exact⟨_,(true),(caas),H',⟨by first|omega|exact Nat.le_refl _⟩,⟨G.cb ac.out⟩,⟨G.cB HB.out⟩⟩
  ·rw[if_neg c4] at H;have aH:=decide_eq_false c4;clear c4;(first|rw[aH]|(simp only[i64_w,i32_w];rw[aH])|skip);have H':=G.m H;clear H;have⟨bE,bF,bG,bH⟩:=G.d2 (w:=w3) ac
   go_wp2
   go_meet
   case rel=>exact⟨_,(decide (af>8)),(caas),H',⟨by first|omega|exact Nat.le_refl _⟩,⟨G.cb ac.out⟩,⟨G.cB HB.out⟩⟩
 case rest=>
  clear bz;obtain⟨kq,aR,rfl,HA,bP,ac,HB⟩:=hcut;cases kq with
  |zero=>exact absurd HA.out (by simp[impl_NetOk.j0])
  |succ bI=>
   have H:=HA.out;clear HA;simp only[impl_NetOk.j0] at H
   rcases G.bc H with⟨h_,H_⟩|⟨h_,H_⟩<;> (subst h_;clear H;have H:=H_;clear H_)
   ·obtain rfl:=Option.some.inj H
    go_wp2
    go_ret
    exact⟨caar,G.cB HB.out⟩
   ·have H':=G.m H;clear H;have⟨bf,bh,bj,bk⟩:=G.d2 (w:=wc) ac
    go_wp2
    go_loopg [16] bI (fun kq cx w'=>∃ (ab:Int),cx= .int .i64 ab/\Aside0 (impl_NetOk.l0 kq aa (aa.length:Int) ab af aa=some r)/\Aside0 (kq<=bI)/\Aside0 (w'.heap[ao]? =some (.cells #[.int .i64 af,(.slice aw aa.length av)] 31 (0,0)))/\Aside0 (Below w.heap.size w w'))
    case atStart=>exact⟨(0),(caas),H',⟨Nat.le_refl _⟩,⟨G.cb ac.out⟩,⟨G.cB HB.out⟩⟩
    case round=>
     clear H';(try clear c7 bf bh bj bk);obtain⟨ab,rfl,HA,bQ,ac,HB⟩:=hrel;cases gk with
     |zero=>exact absurd HA.out (by simp[impl_NetOk.l0])
     |succ k2=>
      have H:=HA.out;clear HA;simp only[impl_NetOk.l0] at H
      by_cases c9:ab<(aa.length:Int)
      ·rw[if_pos c9] at H;have bW:=decide_eq_true c9;clear c9
       obtain⟨cJ,H⟩:=G.dp H
       obtain⟨cL,H⟩:=G.dp H
       by_cases aV:((rd_T59 aa ab).f0)<0
       ·rw[if_pos aV] at H;have bK:=decide_eq_true aV;clear aV;obtain rfl:=Option.some.inj H;have aq:0<=(ab:Int):=G.da;have au:ab<(aa.length:Int):=G.da;obtain⟨aL,aI,al,am⟩:=at_T59 aB.out ab aq au;cases aI;replace al:=G.hx HB al;replace am:=G.hx HB am;replace aq:=eq_true aq;replace au:=eq_true au
        go_wp2_with (first|((with_reducible refine G.h 4 rfl ?_);refine G.be 4 #[.int .i64 0,.int .i64 0] 59 ?_;intro ai hg cy hbox hb;have aC:=G.m (hbox);have a6:=G.m (caaq:w.heap.size<=ai);have a7:=G.m (caaq:w.heap.size<=ai);replace HB:=G.bs HB hb;have aj:=G.m (caat:ao≠ai);have ap:=G.m (caau:ai≠ao);replace ac:=G.bb ac hb;clear hb hbox hg;have cM:=ap.out;have cN:=aj.out;have⟨b1,b2,b3,b4⟩:=G.d2 (w:=cy) aC))
        go_ret
        exact⟨caar,G.cB HB.out⟩
       ·rw[if_neg aV] at H;have bK:=decide_eq_false aV;clear aV
        by_cases aW:((rd_T59 aa ab).f0)>=((rd_T59 aa ab).f1)
        ·rw[if_pos aW] at H;have bL:=decide_eq_true aW;clear aW;obtain rfl:=Option.some.inj H;have aq:0<=(ab:Int):=G.da;have au:ab<(aa.length:Int):=G.da;obtain⟨aL,aI,al,am⟩:=at_T59 aB.out ab aq au;cases aI;replace al:=G.hx HB al;replace am:=G.hx HB am;replace aq:=eq_true aq;replace au:=eq_true au
         go_wp2_with (first|((with_reducible refine G.h 4 rfl ?_);refine G.be 4 #[.int .i64 0,.int .i64 0] 59 ?_;intro ai hg cz hbox hb;have aC:=G.m (hbox);have a6:=G.m (caaq:w.heap.size<=ai);have a7:=G.m (caaq:w.heap.size<=ai);replace HB:=G.bs HB hb;have aj:=G.m (caat:ao≠ai);have ap:=G.m (caau:ai≠ao);replace ac:=G.bb ac hb;clear hb hbox hg;have cO:=ap.out;have cP:=aj.out;have⟨b5,b6,b7,b8⟩:=G.d2 (w:=cz) aC))
         go_ret
         exact⟨caar,G.cB HB.out⟩
        ·rw[if_neg aW] at H;have bL:=decide_eq_false aW;clear aW
         by_cases aX:((rd_T59 aa ab).f1)>=af
         ·rw[if_pos aX] at H;have bM:=decide_eq_true aX;clear aX;obtain rfl:=Option.some.inj H;have aq:0<=(ab:Int):=G.da;have au:ab<(aa.length:Int):=G.da;obtain⟨aL,aI,al,am⟩:=at_T59 aB.out ab aq au;cases aI;replace al:=G.hx HB al;replace am:=G.hx HB am;replace aq:=eq_true aq;replace au:=eq_true au
          go_wp2_with (first|((with_reducible refine G.h 4 rfl ?_);refine G.be 4 #[.int .i64 0,.int .i64 0] 59 ?_;intro ai hg bR hbox hb;have aC:=G.m (hbox);have a6:=G.m (caaq:w.heap.size<=ai);have a7:=G.m (caaq:w.heap.size<=ai);replace HB:=G.bs HB hb;have aj:=G.m (caat:ao≠ai);have ap:=G.m (caau:ai≠ao);replace ac:=G.bb ac hb;clear hb hbox hg;have cQ:=ap.out;have cS:=aj.out;have⟨b9,b_,ca,cd⟩:=G.d2 (w:=bR) aC;have⟨ce,cf,cg,ch⟩:=G.d2 (w:=bR) ac))
          go_ret
          exact⟨caar,G.cB HB.out⟩
         ·rw[if_neg aX] at H;have bM:=decide_eq_false aX;clear aX;have H':=G.m H;clear H;have aq:0<=(ab:Int):=G.da;have au:ab<(aa.length:Int):=G.da;obtain⟨aL,aI,al,am⟩:=at_T59 aB.out ab aq au;cases aI;replace al:=G.hx HB al;replace am:=G.hx HB am;replace aq:=eq_true aq;replace au:=eq_true au
          go_wp2_with (first|((with_reducible refine G.h 4 rfl ?_);refine G.be 4 #[.int .i64 0,.int .i64 0] 59 ?_;intro ai hg bS hbox hb;have aC:=G.m (hbox);have a6:=G.m (caaq:w.heap.size<=ai);have a7:=G.m (caaq:w.heap.size<=ai);replace HB:=G.bs HB hb;have aj:=G.m (caat:ao≠ai);have ap:=G.m (caau:ai≠ao);replace ac:=G.bb ac hb;clear hb hbox hg;have cT:=ap.out;have cU:=aj.out;have⟨ci,cj,ck,cl⟩:=G.d2 (w:=bS) aC;have⟨cm,cn,co,cp⟩:=G.d2 (w:=bS) ac))
          go_roundg k2
          case measure=>have:=bP.out;have:=bQ.out;omega
          case rel=>exact⟨(wrap64 (ab+1)),(caas),H',⟨by have:=bP.out;have:=bQ.out;omega⟩,⟨G.bw ac.out⟩,⟨G.cB HB.out⟩⟩
      ·rw[if_neg c9] at H;have bW:=decide_eq_false c9;clear c9;obtain⟨a4,cA,H⟩:=G.bi H;(try dsimp only at H);obtain rfl:=Option.some.inj H;have⟨cq,cr,ct,cu⟩:=G.d2 (w:=wr) ac
       go_wp2_with (first|((with_reducible refine G.f 88 rfl ?_);refine G.gL 40 Try.func88 #[.slice aw aa.length av] ?_;(with_reducible refine(impl_ascending.calls k2 _ _ aa a4 _ ?side1 ?side2 cA.out).mono ?_);(case side1=>exact G.cC (Kd.C_below aB.out HB.out));(case side2=>exact a5.out);rintro e dg ⟨rfl,hb⟩;refine⟨_,rfl,?_⟩;replace ac:=G.bb ac hb;replace HB:=G.bs HB hb;(try clear hb)))
       go_ret
       exact⟨caar,G.cB HB.out⟩
def impl_tie.f (a0:Int) (a1:Int):Option (Int×Int):=some (mn a0 a1,mx a0 a1)
theorem impl_tie.calls (a0:Int) (a1:Int) (r1:Int) (r2:Int) (w:World) (h:impl_tie.f a0 a1=some (r1,r2)):
  Calls Try.prog 53 #[.int .i64 a0,.int .i64 a1] w fun e w'=>e= .returned (.agg #[.int .i64 r1,.int .i64 r2])/\Below w.heap.size w w':=by
 have bo:=Try.underlying59;have HB:=G.m (Below.refl w.heap.size w);unfold impl_tie.f at h;have H:=h;clear h;obtain⟨bl,a8⟩:∃j_:Int,(mn a0 a1)=j_:=⟨_,rfl⟩;replace H:(some (bl,mx a0 a1))=some (r1,r2):=by first|(rw[a8] at H;exact H)|(simp only[a8] at H⊢;exact H)
 have cW:(if a1<a0 then a1 else a0)=bl:=a8;obtain⟨bJ,a9⟩:∃j_:Int,(mx a0 a1)=j_:=⟨_,rfl⟩;replace H:(some (bl,bJ))=some (r1,r2):=by first|(rw[a9] at H;exact H)|(simp only[a9] at H⊢;exact H)
 have cX:(if a0<a1 then a1 else a0)=bJ:=a9;simp only[Option.some.injEq,Prod.mk.injEq] at H;obtain⟨rfl,rfl⟩:=H
 go_enter Try.func53,Try.ntmps53
 go_wp2_with (first|((with_reducible refine G.h 4 rfl ?_);refine G.be 4 #[.int .i64 0,.int .i64 0] 59 ?_;intro a_ hg w5 hbox hb;have br:=G.m (hbox);have cY:=G.m (caaq:w.heap.size<=a_);have cZ:=G.m (caaq:w.heap.size<=a_);replace HB:=G.bs HB hb;clear hb hbox hg;have⟨bE,bF,bG,bH⟩:=G.d2 (w:=w5) br))
 refine bodyPost_ret (results_cell_row rfl _ _ a_ 59 #[.int .i64 bl,.int .i64 bJ] (0,0) _ rfl (G.bw br.out) Try.underlying59 rfl (by kernel_rfl)) rfl ?_;exact⟨by first|rfl|(simp[errW_none,errW_some]<;>rfl)|(simp only[←a8,←a9];first|rfl|(simp[errW_none,errW_some]<;>rfl))|(simp[*,errW_none,errW_some]<;>rfl),G.cB HB.out⟩
def slices_Index_impl_Tie_impl_Tie.l0:Nat->List (S59)->Int->Int->Int->Int->Option (Int)
 |0,_,_,_,_,_=>none
 |k+1,x0,x7,x8,aY,aZ=>if x8<x7 then(if 0<=x8 then(if x8<(x0.length:Int) then(if(aY==((rd_T59 x0 x8).f0)&&(aZ==((rd_T59 x0 x8).f1)))=true then(some x8) else(slices_Index_impl_Tie_impl_Tie.l0 k x0 x7 (wrap64 (x8+1)) aY aZ)) else(none)) else(none)) else(some (-1))
def slices_Index_impl_Tie_impl_Tie.f (k:Nat) (l0:List (S59)) (ag:Int) (ah:Int):Option (Int):=slices_Index_impl_Tie_impl_Tie.l0 k l0 (l0.length:Int) 0 ag ah
theorem slices_Index_impl_Tie_impl_Tie.mono_l:∀k,(∀y0 y1 y2 y3 y4,LeO (slices_Index_impl_Tie_impl_Tie.l0 k y0 y1 y2 y3 y4) (slices_Index_impl_Tie_impl_Tie.l0 (k+1) y0 y1 y2 y3 y4))
 |0=>fun _ _ _ _ _ r h=>by simp[slices_Index_impl_Tie_impl_Tie.l0] at h
 |k+1=>by
  have aE:=slices_Index_impl_Tie_impl_Tie.mono_l k
  ·intro y0 y1 y2 y3 y4;unfold slices_Index_impl_Tie_impl_Tie.l0
   repeat' first
   |(with_reducible exact aE _ _ _ _ _)
   |(with_reducible exact LeO.refl _)
   |(with_reducible exact LeO.none _)
   |(with_reducible refine LeO.ite ?_ ?_)
   |(with_reducible refine LeO.bind ?_ (fun _=> ?_))
   |exact aE _ _ _ _ _
   |exact LeO.none _
   |refine LeO.ite ?_ ?_
   |refine LeO.bind ?_ (fun _=> ?_)
theorem slices_Index_impl_Tie_impl_Tie.mono:∀a0 a1 a2 k,LeO (slices_Index_impl_Tie_impl_Tie.f k a0 a1 a2) (slices_Index_impl_Tie_impl_Tie.f (k+1) a0 a1 a2):=by
 intro a0 a1 a2 k;have aE:=slices_Index_impl_Tie_impl_Tie.mono_l k;unfold slices_Index_impl_Tie_impl_Tie.f
 repeat' with_reducible first|exact aE _ _ _ _ _|exact LeO.refl _|exact LeO.none _|refine LeO.ite ?_ ?_|refine LeO.bind ?_ (fun _=> ?_)
theorem slices_Index_impl_Tie_impl_Tie.calls (k:Nat) (A0:Option Addr) (c0:Nat) (l0:List (S59)) (ag:Int) (ah:Int) (r:Int) (w:World) (bm:Kd.C k59 w A0 l0.length l0) (bn:l0.length<=c0) (h:slices_Index_impl_Tie_impl_Tie.f k l0 ag ah=some r):
  Calls Try.prog 111 #[.slice A0 l0.length c0,.agg #[.int .i64 ag,.int .i64 ah]] w fun e w'=>e= .returned (.int .i64 r)/\Below w.heap.size w w':=by
 have bo:=Try.underlying59;have bu:=G.m bm;have bT:=G.m bn;clear bm bn;have HB:=G.m (Below.refl w.heap.size w);unfold slices_Index_impl_Tie_impl_Tie.f at h;have H:=h;clear h;have H':=G.m H;clear H
 go_enter Try.func111,Try.ntmps111
 go_wp2_with (first|((with_reducible refine G.h 3 rfl ?_);refine G.be 3 #[.int .i64 ag,.int .i64 ah] 59 ?_;intro ax hg w3 hbox hb;have aD:=G.m (hbox);have bv:=G.m (caaq:w.heap.size<=ax);have bw:=G.m (caaq:w.heap.size<=ax);replace HB:=G.bs HB hb;clear hb hbox hg))
 repeat(go_quiet (first|((with_reducible refine G.h 3 rfl ?_);refine G.be 3 #[.int .i64 ag,.int .i64 ah] 59 ?_;intro ax hg w3 hbox hb;have aD:=G.m (hbox);have bv:=G.m (caaq:w.heap.size<=ax);have bw:=G.m (caaq:w.heap.size<=ax);replace HB:=G.bs HB hb;clear hb hbox hg));try go_wp2_with (first|((with_reducible refine G.h 3 rfl ?_);refine G.be 3 #[.int .i64 ag,.int .i64 ah] 59 ?_;intro ax hg w3 hbox hb;have aD:=G.m (hbox);have bv:=G.m (caaq:w.heap.size<=ax);have bw:=G.m (caaq:w.heap.size<=ax);replace HB:=G.bs HB hb;clear hb hbox hg)))
 go_loopg [8] k (fun kq v8 w'=>∃ (ae:Int),v8= .int .i64 ae/\Aside0 (slices_Index_impl_Tie_impl_Tie.l0 kq l0 (l0.length:Int) ae ag ah=some r)/\Aside0 (kq<=k)/\Aside0 (w'.heap[ax]? =some (.cells #[.int .i64 ag,.int .i64 ah] 59 (0,0)))/\Aside0 (Below w.heap.size w w'))
 case atStart=>exact⟨(0),(caas),H',⟨Nat.le_refl _⟩,⟨G.cb aD.out⟩,⟨G.cB HB.out⟩⟩
 case round=>
  clear H';obtain⟨ae,rfl,HA,bU,aD,HB⟩:=hrel;cases gk with
  |zero=>exact absurd HA.out (by simp[slices_Index_impl_Tie_impl_Tie.l0])
  |succ k1=>
   have H:=HA.out;clear HA;simp only[slices_Index_impl_Tie_impl_Tie.l0] at H
   by_cases c4:ae<(l0.length:Int)
   ·rw[if_pos c4] at H;have aH:=decide_eq_true c4;clear c4
    obtain⟨dd,H⟩:=G.dp H
    obtain⟨de,H⟩:=G.dp H
    by_cases c7:(ag==((rd_T59 l0 ae).f0)&&(ah==((rd_T59 l0 ae).f1)))=true
    ·rw[if_pos c7] at H;have bX:(ag==((rd_T59 l0 ae).f0)&&(ah==((rd_T59 l0 ae).f1)))=true:=c7;(try(have bY:decide (ag=((rd_T59 l0 ae).f0)&&(ah==((rd_T59 l0 ae).f1)))=true:=by simpa using c7));(try(have bZ:(ag==((rd_T59 l0 ae).f0)&&(ah==((rd_T59 l0 ae).f1)))=true:=by simpa using c7));clear c7;obtain rfl:=Option.some.inj H;have⟨bf,bh,bj,bk⟩:=G.d2 (w:=wr) aD;have aJ:0<=(ae:Int):=G.da;have aK:ae<(l0.length:Int):=G.da;obtain⟨bN,bp,az,aA⟩:=at_T59 bu.out ae aJ aK;cases bp;replace az:=G.hx HB az;replace aA:=G.hx HB aA;replace aJ:=eq_true aJ;replace aK:=eq_true aK
     go_wp2
     repeat(go_quiet (fail);try go_wp2)
     go_ret
     exact⟨caar,G.cB HB.out⟩
    ·rw[if_neg c7] at H;have bX:(ag==((rd_T59 l0 ae).f0)&&(ah==((rd_T59 l0 ae).f1)))=false:=by simpa using c7
     (try(have bY:decide (ag=((rd_T59 l0 ae).f0)&&(ah==((rd_T59 l0 ae).f1)))=false:=by simpa using c7));(try(have bZ:(ag==((rd_T59 l0 ae).f0)&&(ah==((rd_T59 l0 ae).f1)))=false:=by simpa using c7));(try(have df:¬ (ag=((rd_T59 l0 ae).f0)&&(ah==((rd_T59 l0 ae).f1))):=by simpa using c7));clear c7;have H':=G.m H;clear H;have⟨cD,cE,cF,cG⟩:=G.d2 (w:=wr) aD;have aJ:0<=(ae:Int):=G.da;have aK:ae<(l0.length:Int):=G.da;obtain⟨bN,bp,az,aA⟩:=at_T59 bu.out ae aJ aK;cases bp;replace az:=G.hx HB az;replace aA:=G.hx HB aA;replace aJ:=eq_true aJ;replace aK:=eq_true aK
     go_wp2
     repeat(go_quiet (fail);try go_wp2)
     go_roundg k1
     case measure=>have:=bU.out;omega
     case rel=>exact⟨(wrap64 (ae+1)),(caas),H',⟨by have:=bU.out;omega⟩,⟨G.cb aD.out⟩,⟨G.cB HB.out⟩⟩
   ·rw[if_neg c4] at H;have aH:=decide_eq_false c4;clear c4;obtain rfl:=Option.some.inj H
    go_wp2
    repeat(go_quiet (fail);try go_wp2)
    go_ret
    exact⟨caar,G.cB HB.out⟩
def slices_Contains_impl_Tie_impl_Tie.f (k:Nat) (l0:List (S59)) (ag:Int) (ah:Int):Option (Bool):=(slices_Index_impl_Tie_impl_Tie.f k l0 ag ah).bind fun aP=>(some (decide (aP>=0)))
theorem slices_Contains_impl_Tie_impl_Tie.mono:∀a0 a1 a2 k,LeO (slices_Contains_impl_Tie_impl_Tie.f k a0 a1 a2) (slices_Contains_impl_Tie_impl_Tie.f (k+1) a0 a1 a2):=by
 intro a0 a1 a2 k;unfold slices_Contains_impl_Tie_impl_Tie.f
 repeat' with_reducible first|exact slices_Index_impl_Tie_impl_Tie.mono _ _ _ _|exact LeO.refl _|exact LeO.none _|refine LeO.ite ?_ ?_|refine LeO.bind ?_ (fun _=> ?_)
theorem slices_Contains_impl_Tie_impl_Tie.calls (k:Nat) (A0:Option Addr) (c0:Nat) (l0:List (S59)) (ag:Int) (ah:Int) (r:Bool) (w:World) (bm:Kd.C k59 w A0 l0.length l0) (bn:l0.length<=c0) (h:slices_Contains_impl_Tie_impl_Tie.f k l0 ag ah=some r):
  Calls Try.prog 81 #[.slice A0 l0.length c0,.agg #[.int .i64 ag,.int .i64 ah]] w fun e w'=>e= .returned (.bool r)/\Below w.heap.size w w':=by
 have bo:=Try.underlying59;have bu:=G.m bm;have bT:=G.m bn;clear bm bn;have HB:=G.m (Below.refl w.heap.size w);unfold slices_Contains_impl_Tie_impl_Tie.f at h;have H:=h;clear h;obtain⟨aP,A3,H⟩:=G.bi H;(try dsimp only at H);obtain rfl:=Option.some.inj H
 go_enter Try.func81,Try.ntmps81
 go_wp2_with (first|((with_reducible refine G.h 3 rfl ?_);refine G.be 3 #[.int .i64 ag,.int .i64 ah] 59 ?_;intro bx hg w4 hbox hb;have aS:=G.m (hbox);have c_:=G.m (caaq:w.heap.size<=bx);have da:=G.m (caaq:w.heap.size<=bx);replace HB:=G.bs HB hb;clear hb hbox hg;have⟨bA,bB,bC,bD⟩:=G.d2 (w:=w4) aS)|((with_reducible refine G.f 111 rfl ?_);refine G.gL 7 Try.func111 #[.slice A0 l0.length c0,.agg #[.int .i64 ag,.int .i64 ah]] ?_;(with_reducible refine(slices_Index_impl_Tie_impl_Tie.calls k _ _ l0 ag ah aP _ ?side1 ?side2 A3.out).mono ?_);(case side1=>exact G.cC (Kd.C_below bu.out HB.out));(case side2=>exact bT.out);rintro e w6 ⟨rfl,hb⟩;refine⟨_,rfl,?_⟩;replace aS:=G.bb aS hb;replace HB:=G.bs HB hb;(try clear hb)))
 go_ret
 exact⟨caar,G.cB HB.out⟩
def impl_Net_has.f (k:Nat) (af:Int) (aa:List (S59)) (a1:Int) (a2:Int):Option (Bool):=(impl_tie.f a1 a2).bind fun aO=>((slices_Contains_impl_Tie_impl_Tie.f k aa aO.1 aO.2).bind fun aF=>(some aF))
theorem impl_Net_has.mono:∀a0 a1 a2 a3 k,LeO (impl_Net_has.f k a0 a1 a2 a3) (impl_Net_has.f (k+1) a0 a1 a2 a3):=by
 intro a0 a1 a2 a3 k;unfold impl_Net_has.f
 repeat' with_reducible first|exact slices_Contains_impl_Tie_impl_Tie.mono _ _ _ _|exact LeO.refl _|exact LeO.none _|refine LeO.ite ?_ ?_|refine LeO.bind ?_ (fun _=> ?_)
theorem impl_Net_has.calls (k:Nat) (af:Int) (aw:Option Addr) (av:Nat) (aa:List (S59)) (a1:Int) (a2:Int) (r:Bool) (w:World) (aM:Kd.C k59 w aw aa.length aa) (aN:aa.length<=av) (h:impl_Net_has.f k af aa a1 a2=some r):
  Calls Try.prog 65 #[.agg #[.int .i64 af,.slice aw aa.length av],.int .i64 a1,.int .i64 a2] w fun e w'=>e= .returned (.bool r)/\Below w.heap.size w w':=by
 have bV:=Try.underlying31;have aB:=G.m aM;have a5:=G.m aN;clear aM aN;have HB:=G.m (Below.refl w.heap.size w);unfold impl_Net_has.f at h;have H:=h;clear h;obtain⟨⟨ba,bc⟩,A4,H⟩:=G.bi H;(try dsimp only at H);obtain⟨aF,A5,H⟩:=G.bi H;(try dsimp only at H);obtain rfl:=Option.some.inj H
 go_enter Try.func65,Try.ntmps65;try go_wp2_with (first|((with_reducible refine G.h 3 rfl ?_);refine G.be 3 #[.int .i64 af,.slice aw aa.length av] 31 ?_;intro aT hg w6 hbox hb;have ak:=G.m (hbox);have db:=G.m (caaq:w.heap.size<=aT);have dc:=G.m (caaq:w.heap.size<=aT);replace HB:=G.bs HB hb;clear hb hbox hg))
 replace ak:=G.m (blk_drew ak.out);replace HB:=G.m (below_drew1 HB.out);refine start_ (n:=7) (S:=fun w'=>w'.cell? ⟨aT,0,none⟩=some (.int .i64 af)/\w'.cell? ⟨aT,1,none⟩=some (.slice aw aa.length av)) (ds:=[]) (G.fl 7 0) (by kernel_rfl) rfl (by kernel_rfl) ⟨G.z ak 0,G.z ak 1⟩ (fun hHeld=> ?_);generalize w6.drew=w7 at ak HB hHeld⊢;refine G.pu 0 7 1 ?_;refine G.pu 2 9 5 ?_;refine G.pu 3 10 13 ?_;refine G.ta2 1 8 15 ?_;refine one_ (i:=4) (N:=some 11) (G.fl 7 31) rfl rfl (by kernel_rfl) (by decide) (fun K hK=> ?_);refine G.gs Try.func53 #[.int .i64 a1,.int .i64 a2] ?_;with_reducible refine(impl_tie.calls a1 a2 ba bc _ A4.out).mono ?_
 rintro e w8 ⟨rfl,hb⟩;refine⟨_,rfl,?_⟩;replace ak:=G.bb ak hb;replace HB:=G.bs HB hb;(try clear hb);refine hK.out _ _ ⟨G.z ak 0,G.z ak 1⟩ (fun hHeld=> ?_);clear hK K;refine G.no 11 ?_;refine one_ (i:=5) (N:=some 12) (G.fl 7 63) rfl rfl (by kernel_rfl) (by decide) (fun K hK=> ?_);refine G.gs Try.func81 #[.slice aw aa.length av,.agg #[.int .i64 ba,.int .i64 bc]] ?_;with_reducible refine(slices_Contains_impl_Tie_impl_Tie.calls k _ _ aa ba bc aF _ ?side1 ?side2 A5.out).mono ?_
 (case side1=>exact G.cC (Kd.C_below aB.out HB.out));(case side2=>exact a5.out);rintro e w9 ⟨rfl,hb⟩;refine⟨_,rfl,?_⟩;replace ak:=G.bb ak hb;replace HB:=G.bs HB hb;(try clear hb);refine hK.out _ _ ⟨G.z ak 0,G.z ak 1⟩ (fun hHeld=> ?_);clear hK K;refine G.no 12 ?_;refine G.pu 6 6 127 ?_;refine done_ (by kernel_rfl) ?_;try go_wp2
 go_ret
 exact⟨caar,G.cB HB.out⟩
theorem cabD {p:Prop} (h:p:=by(try simp only[List.map_toArray,List.map_cons,List.map_nil]);first|done|(rw[show(l0.take (af:Int).toNat).length=af.toNat from(by rw[List.length_take];have h_:(af:Int)<=(l0.length:Int):=G.da;omega)]<;>rfl)|rfl|(simp only[List.length_drop,List.length_take];rfl)):p:=h
theorem cabE {p:Prop} (h:p:=by(try simp only[List.map_toArray,List.map_cons,List.map_nil]);first|done|(simp only[az];rfl)|rfl|(simp only[List.length_drop,List.length_take];rfl)):p:=h
theorem cabC {p:Prop} (h:p:=by first|rfl|(simp[errW_none,errW_some]<;>rfl)|(simp[*,errW_none,errW_some]<;>rfl)):p:=h
theorem cabz {p:Prop} (h:p:=by first|rfl|(simp;done)|(simp[*];done)):p:=h
theorem cabB {p:Prop} (h:p:=by rw[hg];exact(below_size (G.cB HB.out))):p:=h
theorem cabA {p:Prop} (h:p:=by kernel_rfl):p:=h
def impl_Net_knot.f (ae:Int) (ac:List (S59)) (a1:Int):Option (Bool):=if a1>=0 then(some (decide (a1<ae))) else(some false)
theorem impl_Net_knot.calls (ae:Int) (aj:Option Addr) (ak:Nat) (ac:List (S59)) (a1:Int) (r:Bool) (w:World) (aK:Kd.C k59 w aj ac.length ac) (aL:ac.length<=ak) (h:impl_Net_knot.f ae ac a1=some r):
  Calls Try.prog 78 #[.agg #[.int .i64 ae,.slice aj ac.length ak],.int .i64 a1] w fun e w'=>e= .returned (.bool r)/\Below w.heap.size w w':=by
 have bz:=Try.underlying31;have aw:=G.m aK;have ax:=G.m aL;clear aK aL;have HB:=G.m (Below.refl w.heap.size w);unfold impl_Net_knot.f at h;have H:=h;clear h
 by_cases c3:a1>=0
 ·rw[if_pos c3] at H;have aT:=decide_eq_true c3;clear c3;obtain rfl:=Option.some.inj H
  go_enter Try.func78,Try.ntmps78
  go_wp2_with (first|((with_reducible refine G.h 2 rfl ?_);refine G.be 2 #[.int .i64 ae,.slice aj ac.length ak] 31 ?_;intro aM hg w4 hbox hb;have a8:=G.m (hbox);have bp:=G.m (cabB:w.heap.size<=aM);have bq:=G.m (cabB:w.heap.size<=aM);replace HB:=G.bs HB hb;clear hb hbox hg;have⟨bC,bD,bE,bF⟩:=G.d2 (w:=w4) a8))
  go_ret
  exact⟨cabC,G.cB HB.out⟩
 ·rw[if_neg c3] at H;have aT:=decide_eq_false c3;clear c3;obtain rfl:=Option.some.inj H
  go_enter Try.func78,Try.ntmps78
  go_wp2_with (first|((with_reducible refine G.h 2 rfl ?_);refine G.be 2 #[.int .i64 ae,.slice aj ac.length ak] 31 ?_;intro aM hg w6 hbox hb;have a8:=G.m (hbox);have bp:=G.m (cabB:w.heap.size<=aM);have bq:=G.m (cabB:w.heap.size<=aM);replace HB:=G.bs HB hb;clear hb hbox hg))
  go_ret
  exact⟨cabC,G.cB HB.out⟩
def impl_Net_walk.l0:Nat->List Int->List Int->Int->Int->Int->List (S59)->Option (Bool)
 |0,_,_,_,_,_,_=>none
 |k+1,x1,x7,x8,x9,aA,aB=>if x9<x8 then(if 0<=x9 then(if x9<(x7.length:Int) then((impl_Net_knot.f aA aB (rd x7 x9)).bind fun aU=>(if aU=true then(if x9>0 then(if 0<=(wrap64 (x9 - 1)) then(if(wrap64 (x9 - 1))<(x1.length:Int) then((impl_Net_has.f k aA aB (rd x1 (wrap64 (x9 - 1))) (rd x7 x9)).bind fun av=>(if av=true then(impl_Net_walk.l0 k x1 x7 x8 (wrap64 (x9+1)) aA aB) else(some false))) else(none)) else(none)) else(impl_Net_walk.l0 k x1 x7 x8 (wrap64 (x9+1)) aA aB)) else(some false))) else(none)) else(none)) else(some true)
def impl_Net_walk.f (k:Nat) (ae:Int) (ac:List (S59)) (l1:List Int):Option (Bool):=impl_Net_walk.l0 k l1 l1 (l1.length:Int) 0 ae ac
theorem impl_Net_walk.mono_l:∀k,(∀y0 y1 y2 y3 y4 y5,LeO (impl_Net_walk.l0 k y0 y1 y2 y3 y4 y5) (impl_Net_walk.l0 (k+1) y0 y1 y2 y3 y4 y5))
 |0=>fun _ _ _ _ _ _ r h=>by simp[impl_Net_walk.l0] at h
 |k+1=>by
  have au:=impl_Net_walk.mono_l k
  ·intro y0 y1 y2 y3 y4 y5;unfold impl_Net_walk.l0
   repeat' first
   |(with_reducible exact au _ _ _ _ _ _)
   |(with_reducible exact impl_Net_has.mono _ _ _ _ _)
   |(with_reducible exact LeO.refl _)
   |(with_reducible exact LeO.none _)
   |(with_reducible refine LeO.ite ?_ ?_)
   |(with_reducible refine LeO.bind ?_ (fun _=> ?_))
   |exact au _ _ _ _ _ _
   |exact impl_Net_has.mono _ _ _ _ _
   |exact LeO.none _
   |refine LeO.ite ?_ ?_
   |refine LeO.bind ?_ (fun _=> ?_)
theorem impl_Net_walk.mono:∀a0 a1 a2 k,LeO (impl_Net_walk.f k a0 a1 a2) (impl_Net_walk.f (k+1) a0 a1 a2):=by
 intro a0 a1 a2 k;have au:=impl_Net_walk.mono_l k;unfold impl_Net_walk.f
 repeat' with_reducible first|exact au _ _ _ _ _ _|exact impl_Net_has.mono _ _ _ _ _|exact LeO.refl _|exact LeO.none _|refine LeO.ite ?_ ?_|refine LeO.bind ?_ (fun _=> ?_)
def impl_Net_walk.T4:Bool×List (List Nat×List Nat):=(true,[([],[]),([],[]),([0,1],[0,1]),([2],[2]),([3,2],[3]),([4],[4]),([5,4],[4,5]),([6,4,4],[4,6]),([7],[7]),([7],[7]),([7],[7]),([10,7],[7,10]),([9,11,7],[7,9,11]),([12,7],[7,12]),([7],[7]),([8,13,14,7,7],[7,8,13,14]),([15,7],[7,15]),([7,16,4],[4,7,16]),([4,17],[4,17])])
def impl_Net_walk.B4:List Nat:=[0,0,3,7,15,31,63,127,255,255,255,1279,3839,7935,255,32767,65535,131071,262143]
theorem impl_Net_walk.tab4:rtab .any (opsOf Try.f51 4)=impl_Net_walk.T4:=by kernel_rfl
theorem impl_Net_walk.bits4:waitsOk impl_Net_walk.T4.2 impl_Net_walk.B4=true:=by kernel_rfl
theorem impl_Net_walk.calls (k:Nat) (ae:Int) (aj:Option Addr) (ak:Nat) (ac:List (S59)) (A1:Option Addr) (c1:Nat) (l1:List Int) (r:Bool) (w:World) (aK:Kd.C k59 w aj ac.length ac) (aL:ac.length<=ak) (hr1:Kd.C (Kd.int .i64) w A1 l1.length l1) (bu:l1.length<=c1) (h:impl_Net_walk.f k ae ac l1=some r):
  Calls Try.prog 51 #[.agg #[.int .i64 ae,.slice aj ac.length ak],.slice A1 l1.length c1] w fun e w'=>e= .returned (.bool r)/\Below w.heap.size w w':=by
 have bz:=Try.underlying31;have aw:=G.m aK;have ax:=G.m aL;clear aK aL;have aS:=G.m hr1;have bO:=G.m bu;clear hr1 bu;have HB:=G.m (Below.refl w.heap.size w);unfold impl_Net_walk.f at h;have H:=h;clear h;have H':=G.m H;clear H
 go_enter Try.func51,Try.ntmps51
 go_wp2_with (first|((with_reducible refine G.h 2 rfl ?_);refine G.be 2 #[.int .i64 ae,.slice aj ac.length ak] 31 ?_;intro ap hg w3 hbox hb;have aa:=G.m (hbox);have bI:=G.m (cabB:w.heap.size<=ap);have bJ:=G.m (cabB:w.heap.size<=ap);replace HB:=G.bs HB hb;clear hb hbox hg))
 go_loopg [9] k (fun kq v9 w'=>∃ (ab:Int),v9= .int .i64 ab/\Aside0 (impl_Net_walk.l0 kq l1 l1 (l1.length:Int) ab ae ac=some r)/\Aside0 (kq<=k)/\Aside0 (w'.heap[ap]? =some (.cells #[.int .i64 ae,(.slice aj ac.length ak)] 31 (0,0)))/\Aside0 (Below w.heap.size w w'))
 case atStart=>exact⟨(0),(cabz),H',⟨Nat.le_refl _⟩,⟨G.cb aa.out⟩,⟨G.cB HB.out⟩⟩
 case round=>
  clear H';obtain⟨ab,rfl,HA,aC,aa,HB⟩:=hrel;cases gk with
  |zero=>exact absurd HA.out (by simp[impl_Net_walk.l0])
  |succ k1=>
   have H:=HA.out;clear HA;simp only[impl_Net_walk.l0] at H
   by_cases c4:ab<(l1.length:Int)
   ·rw[if_pos c4] at H;have a3:=decide_eq_true c4;clear c4
    obtain⟨bj,H⟩:=G.dp H
    obtain⟨a4,H⟩:=G.dp H;obtain⟨aU,A7,H⟩:=G.bi H;(try dsimp only at H)
    rcases G.bc H with⟨h_,H_⟩|⟨h_,H_⟩<;> (subst h_;clear H;have H:=H_;clear H_)
    ·skip
     by_cases c9:ab>0
     ·rw[if_pos c9] at H;have bA:=decide_eq_true c9;clear c9;obtain⟨ag,az⟩:∃j_:Int,(wrap64 (ab - 1))=j_:=⟨_,rfl⟩;replace H:(if 0<=(ag) then(if(ag)<(l1.length:Int) then((impl_Net_has.f k1 ae ac (rd l1 (ag)) (rd l1 ab)).bind fun av=>(if av=true then(impl_Net_walk.l0 k1 l1 l1 (l1.length:Int) (wrap64 (ab+1)) ae ac) else(some false))) else(none)) else(none))=some r:=by first|(rw[az] at H;exact H)|(simp only[az] at H⊢;exact H)
      (try rw[az] at A7);have bG:(IntKind.i64.wrap (ab - 1))=ag:=(i64_w _).trans az
      obtain⟨bK,H⟩:=G.dp H
      obtain⟨bL,H⟩:=G.dp H;obtain⟨av,bv,H⟩:=G.bi H;(try dsimp only at H)
      rcases G.bc H with⟨h_,H_⟩|⟨h_,H_⟩<;> (subst h_;clear H;have H:=H_;clear H_)
      ·have H':=G.m H;clear H;have am:0<=(ab:Int):=G.da;have ao:ab<(l1.length:Int):=G.da;obtain⟨ay,aD,ai⟩:=Kd.at_int aS.out ab am ao;cases aD;replace ai:=G.hx HB ai;replace am:=eq_true am;replace ao:=eq_true ao;try go_wp2
       replace aa:=G.m (blk_drew aa.out);replace HB:=G.m (below_drew1 HB.out);have aE:0<=((ag):Int):=G.da;have aF:(ag)<(l1.length:Int):=G.da;obtain⟨aV,a5,al⟩:=Kd.at_int aS.out (ag) aE aF;have aq:=al;obtain rfl:ay=aV:=(by injection a5);replace al:=G.hx HB al;replace aE:=eq_true aE;replace aF:=eq_true aF;refine G.st 19 (S:=fun w'=>w'.cell? ⟨ap,0,none⟩=some (.int .i64 ae)/\w'.cell? ⟨ap,1,none⟩=some (.slice aj ac.length ak)/\w'.cell? (ay.add ((ag)).toNat)=some (.int .i64 (rd l1 (ag)))) [] ⟨G.z aa 0,G.z aa 1,(G.hx HB aq)⟩ impl_Net_walk.tab4 impl_Net_walk.bits4 (fun hHeld HT_ HW_=> ?_);generalize wr.drew=bP at aa HB al hHeld⊢;refine G.pu 1 15 2 ?_;refine G.ta3 0 14 3 ?_;refine G.on 2 16 7 (fun K hK=> ?_);refine G.gs Try.func78 #[.agg #[.int .i64 ae,.slice aj ac.length ak],.int .i64 (rd l1 ab)] ?_;with_reducible refine(impl_Net_knot.calls ae _ _ ac (rd l1 ab) true _ ?side1 ?side2 A7.out).mono ?_
       (case side1=>exact G.cC (Kd.C_below aw.out HB.out));(case side2=>exact ax.out);rintro e bQ ⟨rfl,hb⟩;refine⟨_,rfl,?_⟩;replace aa:=G.bb aa hb;replace HB:=G.bs HB hb;(try clear hb);refine hK.out _ _ ⟨G.z aa 0,G.z aa 1,(G.hx HB aq)⟩ (fun hHeld=> ?_);clear hK K;refine G.no 16 ?_;refine G.pu 3 17 15 ?_;refine G.pu 4 18 31 ?_;refine G.pu 5 19 63 ?_;refine G.pu 6 20 127 ?_;refine G.pu 7 21 255 ?_;refine G.pu 9 23 767 ?_;refine G.pu 10 24 1791 ?_;refine G.pu 11 25 3839 ?_;refine G.pu 12 26 7935 ?_;refine G.pu 14 28 24319 ?_;refine G.ta3 8 22 24575 ?_;refine G.ta3 13 27 32767 ?_;refine G.on 15 29 65535 (fun K hK=> ?_);refine goes_ Try.func65 (cabA) rfl #[.agg #[.int .i64 ae,.slice aj ac.length ak],.int .i64 (rd l1 (ag)),.int .i64 (rd l1 ab)] (by rfl) rfl rfl (cabE) ?_;with_reducible refine(impl_Net_has.calls k1 ae _ _ ac (rd l1 (ag)) (rd l1 ab) true _ ?side1 ?side2 bv.out).mono ?_
       (case side1=>exact G.cC (Kd.C_below aw.out HB.out));(case side2=>exact ax.out);rintro e bR ⟨rfl,hb⟩;refine⟨_,rfl,?_⟩;replace aa:=G.bb aa hb;replace HB:=G.bs HB hb;(try clear hb);refine hK.out _ _ ⟨G.z aa 0,G.z aa 1,(G.hx HB aq)⟩ (fun hHeld=> ?_);clear hK K;refine G.no 29 ?_;refine G.pu 16 30 131071 ?_;refine G.pu 17 31 262143 ?_;refine G.pu 18 32 524287 ?_;refine done_ (done_of HT_.out (cabA)) ?_;try go_wp2
       go_roundg k1
       case measure=>have:=aC.out;omega
       case rel=>exact⟨(wrap64 (ab+1)),(cabz),H',⟨by have:=aC.out;omega⟩,⟨G.cb aa.out⟩,⟨G.cB HB.out⟩⟩
      ·obtain rfl:=Option.some.inj H;have am:0<=(ab:Int):=G.da;have ao:ab<(l1.length:Int):=G.da;obtain⟨ay,aD,ai⟩:=Kd.at_int aS.out ab am ao;cases aD;replace ai:=G.hx HB ai;replace am:=eq_true am;replace ao:=eq_true ao;try go_wp2
       replace aa:=G.m (blk_drew aa.out);replace HB:=G.m (below_drew1 HB.out);have aE:0<=((ag):Int):=G.da;have aF:(ag)<(l1.length:Int):=G.da;obtain⟨aV,a5,al⟩:=Kd.at_int aS.out (ag) aE aF;have aq:=al;obtain rfl:ay=aV:=(by injection a5);replace al:=G.hx HB al;replace aE:=eq_true aE;replace aF:=eq_true aF;refine G.st 19 (S:=fun w'=>w'.cell? ⟨ap,0,none⟩=some (.int .i64 ae)/\w'.cell? ⟨ap,1,none⟩=some (.slice aj ac.length ak)/\w'.cell? (ay.add ((ag)).toNat)=some (.int .i64 (rd l1 (ag)))) [] ⟨G.z aa 0,G.z aa 1,(G.hx HB aq)⟩ impl_Net_walk.tab4 impl_Net_walk.bits4 (fun hHeld HT_ HW_=> ?_);generalize wr.drew=bS at aa HB al hHeld⊢;refine G.pu 1 15 2 ?_;refine G.ta3 0 14 3 ?_;refine G.on 2 16 7 (fun K hK=> ?_);refine G.gs Try.func78 #[.agg #[.int .i64 ae,.slice aj ac.length ak],.int .i64 (rd l1 ab)] ?_;with_reducible refine(impl_Net_knot.calls ae _ _ ac (rd l1 ab) true _ ?side1 ?side2 A7.out).mono ?_
       (case side1=>exact G.cC (Kd.C_below aw.out HB.out));(case side2=>exact ax.out);rintro e bT ⟨rfl,hb⟩;refine⟨_,rfl,?_⟩;replace aa:=G.bb aa hb;replace HB:=G.bs HB hb;(try clear hb);refine hK.out _ _ ⟨G.z aa 0,G.z aa 1,(G.hx HB aq)⟩ (fun hHeld=> ?_);clear hK K;refine G.no 16 ?_;refine G.pu 3 17 15 ?_;refine G.pu 4 18 31 ?_;refine G.pu 5 19 63 ?_;refine G.pu 6 20 127 ?_;refine G.pu 7 21 255 ?_;refine G.pu 9 23 767 ?_;refine G.pu 10 24 1791 ?_;refine G.pu 11 25 3839 ?_;refine G.pu 12 26 7935 ?_;refine G.pu 14 28 24319 ?_;refine G.ta3 8 22 24575 ?_;refine G.ta3 13 27 32767 ?_;refine G.on 15 29 65535 (fun K hK=> ?_);refine goes_ Try.func65 (cabA) rfl #[.agg #[.int .i64 ae,.slice aj ac.length ak],.int .i64 (rd l1 (ag)),.int .i64 (rd l1 ab)] (by rfl) rfl rfl (cabE) ?_;with_reducible refine(impl_Net_has.calls k1 ae _ _ ac (rd l1 (ag)) (rd l1 ab) false _ ?side1 ?side2 bv.out).mono ?_
       (case side1=>exact G.cC (Kd.C_below aw.out HB.out));(case side2=>exact ax.out);rintro e bU ⟨rfl,hb⟩;refine⟨_,rfl,?_⟩;replace aa:=G.bb aa hb;replace HB:=G.bs HB hb;(try clear hb);refine hK.out _ _ ⟨G.z aa 0,G.z aa 1,(G.hx HB aq)⟩ (fun hHeld=> ?_);clear hK K;refine G.no 29 ?_;refine G.pu 16 30 131071 ?_;refine G.pu 17 31 262143 ?_;refine G.pu 18 32 524287 ?_;refine done_ (done_of HT_.out (cabA)) ?_;try go_wp2
       go_ret
       exact⟨by first|rfl|(simp[errW_none,errW_some]<;>rfl)|(simp only[←az];first|rfl|(simp[errW_none,errW_some]<;>rfl))|(simp[*,errW_none,errW_some]<;>rfl),G.cB HB.out⟩
     ·rw[if_neg c9] at H;have bA:=decide_eq_false c9;clear c9;have H':=G.m H;clear H;have am:0<=(ab:Int):=G.da;have ao:ab<(l1.length:Int):=G.da;obtain⟨ay,aD,ai⟩:=Kd.at_int aS.out ab am ao;cases aD;replace ai:=G.hx HB ai;replace am:=eq_true am;replace ao:=eq_true ao;try go_wp2
      replace aa:=G.m (blk_drew aa.out);replace HB:=G.m (below_drew1 HB.out);refine G.st 19 (S:=fun w'=>w'.cell? ⟨ap,0,none⟩=some (.int .i64 ae)/\w'.cell? ⟨ap,1,none⟩=some (.slice aj ac.length ak)) [] ⟨G.z aa 0,G.z aa 1⟩ impl_Net_walk.tab4 impl_Net_walk.bits4 (fun hHeld HT_ HW_=> ?_);generalize wr.drew=bV at aa HB hHeld⊢;refine G.pu 1 15 2 ?_;refine G.ta2 0 14 3 ?_;refine G.on 2 16 7 (fun K hK=> ?_);refine G.gs Try.func78 #[.agg #[.int .i64 ae,.slice aj ac.length ak],.int .i64 (rd l1 ab)] ?_;with_reducible refine(impl_Net_knot.calls ae _ _ ac (rd l1 ab) true _ ?side1 ?side2 A7.out).mono ?_
      (case side1=>exact G.cC (Kd.C_below aw.out HB.out));(case side2=>exact ax.out);rintro e bW ⟨rfl,hb⟩;refine⟨_,rfl,?_⟩;replace aa:=G.bb aa hb;replace HB:=G.bs HB hb;(try clear hb);refine hK.out _ _ ⟨G.z aa 0,G.z aa 1⟩ (fun hHeld=> ?_);clear hK K;refine G.no 16 ?_;refine G.pu 3 17 15 ?_;refine G.pu 4 18 31 ?_;refine G.pu 5 19 63 ?_;refine G.pu 6 20 127 ?_;refine G.pu 7 21 255 ?_;refine G.pf 8 22 511 ?_;refine G.pf 9 23 1023 ?_;refine G.pf 10 24 2047 ?_;refine G.pf 11 25 4095 ?_;refine G.pf 12 26 8191 ?_;refine G.pf 13 27 16383 ?_;refine G.pf 14 28 32767 ?_;refine G.pf 15 29 65535 ?_;refine G.pf 16 30 131071 ?_;refine G.pu 17 31 262143 ?_;refine G.pu 18 32 524287 ?_;refine done_ (done_of HT_.out (cabA)) ?_;try go_wp2
      go_roundg k1
      case measure=>have:=aC.out;omega
      case rel=>exact⟨(wrap64 (ab+1)),(cabz),H',⟨by have:=aC.out;omega⟩,⟨G.cb aa.out⟩,⟨G.cB HB.out⟩⟩
    ·obtain rfl:=Option.some.inj H;have am:0<=(ab:Int):=G.da;have ao:ab<(l1.length:Int):=G.da;obtain⟨ay,aD,ai⟩:=Kd.at_int aS.out ab am ao;cases aD;replace ai:=G.hx HB ai;replace am:=eq_true am;replace ao:=eq_true ao;try go_wp2
     replace aa:=G.m (blk_drew aa.out);replace HB:=G.m (below_drew1 HB.out);refine G.st 19 (S:=fun w'=>w'.cell? ⟨ap,0,none⟩=some (.int .i64 ae)/\w'.cell? ⟨ap,1,none⟩=some (.slice aj ac.length ak)) [] ⟨G.z aa 0,G.z aa 1⟩ impl_Net_walk.tab4 impl_Net_walk.bits4 (fun hHeld HT_ HW_=> ?_);generalize wr.drew=bX at aa HB hHeld⊢;refine G.pu 1 15 2 ?_;refine G.ta2 0 14 3 ?_;refine G.on 2 16 7 (fun K hK=> ?_);refine G.gs Try.func78 #[.agg #[.int .i64 ae,.slice aj ac.length ak],.int .i64 (rd l1 ab)] ?_;with_reducible refine(impl_Net_knot.calls ae _ _ ac (rd l1 ab) false _ ?side1 ?side2 A7.out).mono ?_
     (case side1=>exact G.cC (Kd.C_below aw.out HB.out));(case side2=>exact ax.out);rintro e bY ⟨rfl,hb⟩;refine⟨_,rfl,?_⟩;replace aa:=G.bb aa hb;replace HB:=G.bs HB hb;(try clear hb);refine hK.out _ _ ⟨G.z aa 0,G.z aa 1⟩ (fun hHeld=> ?_);clear hK K;refine G.no 16 ?_;refine G.pu 3 17 15 ?_;refine G.pu 4 18 31 ?_;refine G.pf 5 19 63 ?_;refine G.pf 6 20 127 ?_;refine G.pf 7 21 255 ?_;refine G.pf 8 22 511 ?_;refine G.pf 9 23 1023 ?_;refine G.pf 10 24 2047 ?_;refine G.pf 11 25 4095 ?_;refine G.pf 12 26 8191 ?_;refine G.pf 13 27 16383 ?_;refine G.pf 14 28 32767 ?_;refine G.pf 15 29 65535 ?_;refine G.pf 16 30 131071 ?_;refine G.pf 17 31 262143 ?_;refine G.pu 18 32 524287 ?_;refine done_ (done_of HT_.out (cabA)) ?_;try go_wp2
     go_ret
     exact⟨cabC,G.cB HB.out⟩
   ·rw[if_neg c4] at H;have a3:=decide_eq_false c4;clear c4;obtain rfl:=Option.some.inj H
    go_wp2
    go_ret
    exact⟨cabC,G.cB HB.out⟩
def slices_Index_int_int.l0:Nat->List Int->Int->Int->Int->Option (Int)
 |0,_,_,_,_=>none
 |k+1,x0,x1,x7,x8=>if x8<x7 then(if 0<=x8 then(if x8<(x0.length:Int) then(if x1=(rd x0 x8) then(some x8) else(slices_Index_int_int.l0 k x0 x1 x7 (wrap64 (x8+1)))) else(none)) else(none)) else(some (-1))
def slices_Index_int_int.f (k:Nat) (l0:List Int) (a1:Int):Option (Int):=slices_Index_int_int.l0 k l0 a1 (l0.length:Int) 0
theorem slices_Index_int_int.mono_l:∀k,(∀y0 y1 y2 y3,LeO (slices_Index_int_int.l0 k y0 y1 y2 y3) (slices_Index_int_int.l0 (k+1) y0 y1 y2 y3))
 |0=>fun _ _ _ _ r h=>by simp[slices_Index_int_int.l0] at h
 |k+1=>by
  have au:=slices_Index_int_int.mono_l k
  ·intro y0 y1 y2 y3;unfold slices_Index_int_int.l0
   repeat' first
   |(with_reducible exact au _ _ _ _)
   |(with_reducible exact LeO.refl _)
   |(with_reducible exact LeO.none _)
   |(with_reducible refine LeO.ite ?_ ?_)
   |(with_reducible refine LeO.bind ?_ (fun _=> ?_))
   |exact au _ _ _ _
   |exact LeO.none _
   |refine LeO.ite ?_ ?_
   |refine LeO.bind ?_ (fun _=> ?_)
theorem slices_Index_int_int.mono:∀a0 a1 k,LeO (slices_Index_int_int.f k a0 a1) (slices_Index_int_int.f (k+1) a0 a1):=by
 intro a0 a1 k;have au:=slices_Index_int_int.mono_l k;unfold slices_Index_int_int.f
 repeat' with_reducible first|exact au _ _ _ _|exact LeO.refl _|exact LeO.none _|refine LeO.ite ?_ ?_|refine LeO.bind ?_ (fun _=> ?_)
theorem slices_Index_int_int.calls (k:Nat) (A0:Option Addr) (c0:Nat) (l0:List Int) (a1:Int) (r:Int) (w:World) (aQ:Kd.C (Kd.int .i64) w A0 l0.length l0) (aR:l0.length<=c0) (h:slices_Index_int_int.f k l0 a1=some r):
  Calls Try.prog 114 #[.slice A0 l0.length c0,.int .i64 a1] w fun e w'=>e= .returned (.int .i64 r)/\Drawn0 w w':=by
 have aN:=G.m aQ;have aZ:=G.m aR;clear aQ aR;unfold slices_Index_int_int.f at h;have H:=h;clear h;have H':=G.m H;clear H
 go_enter Try.func114,Try.ntmps114
 go_wp2
 go_loopg [8] k (fun kq v8 w'=>∃ (ah:Int),v8= .int .i64 ah/\Aside0 (slices_Index_int_int.l0 kq l0 a1 (l0.length:Int) ah=some r)/\Aside0 (kq<=k)/\Drawn0 w w')
 case atStart=>exact⟨(0),(cabz),H',⟨Nat.le_refl _⟩,by repeat(first|exact Drawn0.refl _|apply Drawn0.step)⟩
 case round=>
  clear H';obtain⟨ah,rfl,HA,aC,⟨m1,rfl⟩⟩:=hrel;cases gk with
  |zero=>exact absurd HA.out (by simp[slices_Index_int_int.l0])
  |succ k1=>
   have H:=HA.out;clear HA;simp only[slices_Index_int_int.l0] at H
   by_cases c3:ah<(l0.length:Int)
   ·rw[if_pos c3] at H;have aT:=decide_eq_true c3;clear c3
    obtain⟨a3,H⟩:=G.dp H
    obtain⟨bj,H⟩:=G.dp H
    by_cases c6:a1=(rd l0 ah)
    ·rw[if_pos c6] at H;have a4:=beq_iff_eq.mpr c6;have bk:=bne_eq_false_iff_eq.mpr c6;clear c6;obtain rfl:=Option.some.inj H;have aG:0<=(ah:Int):=G.da;have aH:ah<(l0.length:Int):=G.da;obtain⟨br,a6,bf⟩:=Kd.at_int aN.out ah aG aH;cases a6;replace aG:=eq_true aG;replace aH:=eq_true aH
     go_wp2
     go_ret
     exact⟨cabz,by repeat(first|exact Drawn0.refl _|apply Drawn0.step)⟩
    ·rw[if_neg c6] at H;have a4:=beq_eq_false_iff_ne.mpr c6;have bk:=bne_iff_ne.mpr c6;have H':=G.m H;clear H;have aG:0<=(ah:Int):=G.da;have aH:ah<(l0.length:Int):=G.da;obtain⟨br,a6,bf⟩:=Kd.at_int aN.out ah aG aH;cases a6;replace aG:=eq_true aG;replace aH:=eq_true aH
     go_wp2
     go_roundg k1
     case measure=>have:=aC.out;omega
     case rel=>exact⟨(wrap64 (ah+1)),(cabz),H',⟨by have:=aC.out;omega⟩,by repeat(first|exact Drawn0.refl _|apply Drawn0.step)⟩
   ·rw[if_neg c3] at H;have aT:=decide_eq_false c3;clear c3;obtain rfl:=Option.some.inj H
    go_wp2
    go_ret
    exact⟨cabz,by repeat(first|exact Drawn0.refl _|apply Drawn0.step)⟩
def slices_Contains_int_int.f (k:Nat) (l0:List Int) (a1:Int):Option (Bool):=(slices_Index_int_int.f k l0 a1).bind fun aP=>(some (decide (aP>=0)))
theorem slices_Contains_int_int.mono:∀a0 a1 k,LeO (slices_Contains_int_int.f k a0 a1) (slices_Contains_int_int.f (k+1) a0 a1):=by
 intro a0 a1 k;unfold slices_Contains_int_int.f
 repeat' with_reducible first|exact slices_Index_int_int.mono _ _ _|exact LeO.refl _|exact LeO.none _|refine LeO.ite ?_ ?_|refine LeO.bind ?_ (fun _=> ?_)
theorem slices_Contains_int_int.calls (k:Nat) (A0:Option Addr) (c0:Nat) (l0:List Int) (a1:Int) (r:Bool) (w:World) (aQ:Kd.C (Kd.int .i64) w A0 l0.length l0) (aR:l0.length<=c0) (h:slices_Contains_int_int.f k l0 a1=some r):
  Calls Try.prog 89 #[.slice A0 l0.length c0,.int .i64 a1] w fun e w'=>e= .returned (.bool r)/\Drawn0 w w':=by
 have aN:=G.m aQ;have aZ:=G.m aR;clear aQ aR;unfold slices_Contains_int_int.f at h;have H:=h;clear h;obtain⟨aP,A3,H⟩:=G.bi H;(try dsimp only at H);obtain rfl:=Option.some.inj H
 go_enter Try.func89,Try.ntmps89
 go_wp2_with (first|((with_reducible refine G.f 114 rfl ?_);refine G.gL 7 Try.func114 #[.slice A0 l0.length c0,.int .i64 a1] ?_;(with_reducible refine(slices_Index_int_int.calls k _ _ l0 a1 aP _ ?side1 ?side2 A3.out).mono ?_);(case side1=>exact G.cC aN.out);(case side2=>exact aZ.out);rintro e w' ⟨rfl,⟨nd,rfl⟩⟩;refine⟨_,rfl,?_⟩))
 go_ret
 exact⟨cabz,by repeat(first|exact Drawn0.refl _|apply Drawn0.step)⟩
def impl_different.l0:Nat->List Int->List Int->Int->Int->Option (Bool)
 |0,_,_,_,_=>none
 |k+1,x0,x5,x6,x7=>if x7<x6 then(if 0<=x7 then(if x7<(x5.length:Int) then(if x7<=(x0.length:Int) then((slices_Contains_int_int.f k (x0.take (x7:Int).toNat) (rd x5 x7)).bind fun aW=>(if aW=true then(some false) else(impl_different.l0 k x0 x5 x6 (wrap64 (x7+1))))) else(none)) else(none)) else(none)) else(some true)
def impl_different.f (k:Nat) (l0:List Int):Option (Bool):=impl_different.l0 k l0 l0 (l0.length:Int) 0
theorem impl_different.mono_l:∀k,(∀y0 y1 y2 y3,LeO (impl_different.l0 k y0 y1 y2 y3) (impl_different.l0 (k+1) y0 y1 y2 y3))
 |0=>fun _ _ _ _ r h=>by simp[impl_different.l0] at h
 |k+1=>by
  have au:=impl_different.mono_l k
  ·intro y0 y1 y2 y3;unfold impl_different.l0
   repeat' first
   |(with_reducible exact au _ _ _ _)
   |(with_reducible exact slices_Contains_int_int.mono _ _ _)
   |(with_reducible exact LeO.refl _)
   |(with_reducible exact LeO.none _)
   |(with_reducible refine LeO.ite ?_ ?_)
   |(with_reducible refine LeO.bind ?_ (fun _=> ?_))
   |exact au _ _ _ _
   |exact slices_Contains_int_int.mono _ _ _
   |exact LeO.none _
   |refine LeO.ite ?_ ?_
   |refine LeO.bind ?_ (fun _=> ?_)
theorem impl_different.mono:∀a0 k,LeO (impl_different.f k a0) (impl_different.f (k+1) a0):=by
 intro a0 k;have au:=impl_different.mono_l k;unfold impl_different.f
 repeat' with_reducible first|exact au _ _ _ _|exact slices_Contains_int_int.mono _ _ _|exact LeO.refl _|exact LeO.none _|refine LeO.ite ?_ ?_|refine LeO.bind ?_ (fun _=> ?_)
theorem impl_different.calls (k:Nat) (A0:Option Addr) (c0:Nat) (l0:List Int) (r:Bool) (w:World) (aQ:Kd.C (Kd.int .i64) w A0 l0.length l0) (aR:l0.length<=c0) (h:impl_different.f k l0=some r):
  Calls Try.prog 52 #[.slice A0 l0.length c0] w fun e w'=>e= .returned (.bool r)/\Drawn0 w w':=by
 have aN:=G.m aQ;have aZ:=G.m aR;clear aQ aR;unfold impl_different.f at h;have H:=h;clear h;have H':=G.m H;clear H
 go_enter Try.func52,Try.ntmps52
 go_wp2
 go_loopg [7] k (fun kq v7 w'=>∃ (af:Int),v7= .int .i64 af/\Aside0 (impl_different.l0 kq l0 l0 (l0.length:Int) af=some r)/\Aside0 (kq<=k)/\Drawn0 w w')
 case atStart=>exact⟨(0),(cabz),H',⟨Nat.le_refl _⟩,by repeat(first|exact Drawn0.refl _|apply Drawn0.step)⟩
 case round=>
  clear H';obtain⟨af,rfl,HA,aC,⟨m1,rfl⟩⟩:=hrel;cases gk with
  |zero=>exact absurd HA.out (by simp[impl_different.l0])
  |succ k1=>
   have H:=HA.out;clear HA;simp only[impl_different.l0] at H
   by_cases c2:af<(l0.length:Int)
   ·rw[if_pos c2] at H;have bB:=decide_eq_true c2;clear c2
    obtain⟨aT,H⟩:=G.dp H
    obtain⟨a3,H⟩:=G.dp H;have bj:=eq_true (of_decide_eq_true (G.asm):0<=af)
    obtain⟨c6,H⟩:=G.ip H;have a4:=eq_true c6;have bk:=decide_eq_true c6;clear c6;obtain⟨aW,A7,H⟩:=G.bi H;(try dsimp only at H)
    rcases G.bc H with⟨h_,H_⟩|⟨h_,H_⟩<;> (subst h_;clear H;have H:=H_;clear H_)
    ·obtain rfl:=Option.some.inj H;have aI:0<=(af:Int):=G.da;have aJ:af<(l0.length:Int):=G.da;obtain⟨aO,a7,bh⟩:=Kd.at_int aN.out af aI aJ;cases a7;replace aI:=eq_true aI;replace aJ:=eq_true aJ;obtain⟨bZ,bl,_,bm,_⟩:=info_parts info3;obtain⟨bM,bw,bx⟩:=print_take_of (P:=Try.prog) (Value.int .i64) 0 45 3 .i64 Try.underlying45 bl bm (some aO) c0 l0 af G.da G.da aZ.out;have aX:=G.m (Kd.C_of_reads (h1:=fun _=>rfl) (bw _ (Kd.reads_of_C aN.out)));have aY:=G.m bx;clear bw bx bl bm
     go_wp2_with (first|((with_reducible refine gate_callee (f:=89) rfl ?_);refine goesL_ (some 16) rfl rfl Try.func89 (cabA) rfl #[.slice (some aO) (l0.take (af:Int).toNat).length c0,.int .i64 (rd l0 af)] rfl (cabD) ?_;(with_reducible refine(slices_Contains_int_int.calls k1 _ _ (l0.take (af:Int).toNat) (rd l0 af) true _ ?side1 ?side2 A7.out).mono ?_);(case side1=>exact G.cC aX.out);(case side2=>exact aY.out);rintro e w' ⟨rfl,⟨nd,rfl⟩⟩;refine⟨_,rfl,?_⟩))
     go_ret
     exact⟨cabz,by repeat(first|exact Drawn0.refl _|apply Drawn0.step)⟩
    ·have H':=G.m H;clear H;have aI:0<=(af:Int):=G.da;have aJ:af<(l0.length:Int):=G.da;obtain⟨aO,a7,bh⟩:=Kd.at_int aN.out af aI aJ;cases a7;replace aI:=eq_true aI;replace aJ:=eq_true aJ;obtain⟨bN,bc,_,bd,_⟩:=info_parts info3;obtain⟨bH,bn,bo⟩:=print_take_of (P:=Try.prog) (Value.int .i64) 0 45 3 .i64 Try.underlying45 bc bd (some aO) c0 l0 af G.da G.da aZ.out;have aX:=G.m (Kd.C_of_reads (h1:=fun _=>rfl) (bn _ (Kd.reads_of_C aN.out)));have aY:=G.m bo;clear bn bo bc bd
     go_wp2_with (first|((with_reducible refine gate_callee (f:=89) rfl ?_);refine goesL_ (some 16) rfl rfl Try.func89 (cabA) rfl #[.slice (some aO) (l0.take (af:Int).toNat).length c0,.int .i64 (rd l0 af)] rfl (cabD) ?_;(with_reducible refine(slices_Contains_int_int.calls k1 _ _ (l0.take (af:Int).toNat) (rd l0 af) false _ ?side1 ?side2 A7.out).mono ?_);(case side1=>exact G.cC aX.out);(case side2=>exact aY.out);rintro e w' ⟨rfl,⟨nd,rfl⟩⟩;refine⟨_,rfl,?_⟩))
     go_roundg k1
     case measure=>have:=aC.out;omega
     case rel=>exact⟨(wrap64 (af+1)),(cabz),H',⟨by have:=aC.out;omega⟩,by repeat(first|exact Drawn0.refl _|apply Drawn0.step)⟩
   ·rw[if_neg c2] at H;have bB:=decide_eq_false c2;clear c2;obtain rfl:=Option.some.inj H
    go_wp2
    go_ret
    exact⟨cabz,by repeat(first|exact Drawn0.refl _|apply Drawn0.step)⟩
theorem cacI {p:Prop} (h:p:=by first|rfl|(simp;done)|(simp[*];done)):p:=h
def slices_Index_bool_bool.l0:Nat->List Bool->Bool->Int->Int->Option (Int)
 |0,_,_,_,_=>none
 |k+1,x0,x1,x7,x8=>if x8<x7 then(if 0<=x8 then(if x8<(x0.length:Int) then(if(x1==(rdOf false x0 x8))=true then(some x8) else(slices_Index_bool_bool.l0 k x0 x1 x7 (wrap64 (x8+1)))) else(none)) else(none)) else(some (-1))
def slices_Index_bool_bool.f (k:Nat) (l0:List Bool) (a1:Bool):Option (Int):=slices_Index_bool_bool.l0 k l0 a1 (l0.length:Int) 0
theorem slices_Index_bool_bool.mono_l:∀k,(∀y0 y1 y2 y3,LeO (slices_Index_bool_bool.l0 k y0 y1 y2 y3) (slices_Index_bool_bool.l0 (k+1) y0 y1 y2 y3))
 |0=>fun _ _ _ _ r h=>by simp[slices_Index_bool_bool.l0] at h
 |k+1=>by
  have af:=slices_Index_bool_bool.mono_l k
  ·intro y0 y1 y2 y3;unfold slices_Index_bool_bool.l0
   repeat' first
   |(with_reducible exact af _ _ _ _)
   |(with_reducible exact LeO.refl _)
   |(with_reducible exact LeO.none _)
   |(with_reducible refine LeO.ite ?_ ?_)
   |(with_reducible refine LeO.bind ?_ (fun _=> ?_))
   |exact af _ _ _ _
   |exact LeO.none _
   |refine LeO.ite ?_ ?_
   |refine LeO.bind ?_ (fun _=> ?_)
theorem slices_Index_bool_bool.mono:∀a0 a1 k,LeO (slices_Index_bool_bool.f k a0 a1) (slices_Index_bool_bool.f (k+1) a0 a1):=by
 intro a0 a1 k;have af:=slices_Index_bool_bool.mono_l k;unfold slices_Index_bool_bool.f
 repeat' with_reducible first|exact af _ _ _ _|exact LeO.refl _|exact LeO.none _|refine LeO.ite ?_ ?_|refine LeO.bind ?_ (fun _=> ?_)
theorem slices_Index_bool_bool.calls (k:Nat) (A0:Option Addr) (c0:Nat) (l0:List Bool) (a1:Bool) (r:Int) (w:World) (ag:Kd.C Kd.bool w A0 l0.length l0) (ah:l0.length<=c0) (h:slices_Index_bool_bool.f k l0 a1=some r):
  Calls Try.prog 90 #[.slice A0 l0.length c0,.bool a1] w fun e w'=>e= .returned (.int .i64 r)/\Drawn0 w w':=by
 have aj:=G.m ag;have am:=G.m ah;clear ag ah;unfold slices_Index_bool_bool.f at h;have H:=h;clear h;have H':=G.m H;clear H
 go_enter Try.func90,Try.ntmps90
 go_wp2
 go_loopg [8] k (fun kq v8 w'=>∃ (aa:Int),v8= .int .i64 aa/\Aside0 (slices_Index_bool_bool.l0 kq l0 a1 (l0.length:Int) aa=some r)/\Aside0 (kq<=k)/\Drawn0 w w')
 case atStart=>exact⟨(0),(cacI),H',⟨Nat.le_refl _⟩,by repeat(first|exact Drawn0.refl _|apply Drawn0.step)⟩
 case round=>
  clear H';try clear p2
  obtain⟨aa,rfl,HA,ao,⟨m1,rfl⟩⟩:=hrel;cases gk with
  |zero=>exact absurd HA.out (by simp[slices_Index_bool_bool.l0])
  |succ k1=>
   have H:=HA.out;clear HA;simp only[slices_Index_bool_bool.l0] at H
   by_cases c3:aa<(l0.length:Int)
   ·rw[if_pos c3] at H;have ap:=decide_eq_true c3;clear c3
    obtain⟨aw,H⟩:=G.dp H
    obtain⟨ax,H⟩:=G.dp H
    by_cases c6:(a1==(rdOf false l0 aa))=true
    ·rw[if_pos c6] at H;have aq:(a1==(rdOf false l0 aa))=true:=c6;(try(have au:decide (a1=(rdOf false l0 aa))=true:=by simpa using c6));(try(have av:(a1==(rdOf false l0 aa))=true:=by simpa using c6));clear c6;obtain rfl:=Option.some.inj H;have ab:0<=(aa:Int):=G.da;have ac:aa<(l0.length:Int):=G.da;obtain⟨al,ai,ak⟩:=Kd.at_bool aj.out aa ab ac;cases ai;replace ab:=eq_true ab;replace ac:=eq_true ac
     go_wp2
     go_ret
     exact⟨cacI,by repeat(first|exact Drawn0.refl _|apply Drawn0.step)⟩
    ·rw[if_neg c6] at H;have aq:(a1==(rdOf false l0 aa))=false:=by simpa using c6
     (try(have au:decide (a1=(rdOf false l0 aa))=false:=by simpa using c6));(try(have av:(a1==(rdOf false l0 aa))=false:=by simpa using c6));(try(have ay:¬ (a1=(rdOf false l0 aa)):=by simpa using c6));clear c6;have H':=G.m H;clear H;have ab:0<=(aa:Int):=G.da;have ac:aa<(l0.length:Int):=G.da;obtain⟨al,ai,ak⟩:=Kd.at_bool aj.out aa ab ac;cases ai;replace ab:=eq_true ab;replace ac:=eq_true ac
     go_wp2
     go_roundg k1
     case measure=>have:=ao.out;omega
     case rel=>exact⟨(wrap64 (aa+1)),(cacI),H',⟨by have:=ao.out;omega⟩,by repeat(first|exact Drawn0.refl _|apply Drawn0.step)⟩
   ·rw[if_neg c3] at H;have ap:=decide_eq_false c3;clear c3;obtain rfl:=Option.some.inj H
    go_wp2
    go_ret
    exact⟨cacI,by repeat(first|exact Drawn0.refl _|apply Drawn0.step)⟩
def slices_Contains_bool_bool.f (k:Nat) (l0:List Bool) (a1:Bool):Option (Bool):=(slices_Index_bool_bool.f k l0 a1).bind fun ae=>(some (decide (ae>=0)))
theorem slices_Contains_bool_bool.mono:∀a0 a1 k,LeO (slices_Contains_bool_bool.f k a0 a1) (slices_Contains_bool_bool.f (k+1) a0 a1):=by
 intro a0 a1 k;unfold slices_Contains_bool_bool.f
 repeat' with_reducible first|exact slices_Index_bool_bool.mono _ _ _|exact LeO.refl _|exact LeO.none _|refine LeO.ite ?_ ?_|refine LeO.bind ?_ (fun _=> ?_)
theorem slices_Contains_bool_bool.calls (k:Nat) (A0:Option Addr) (c0:Nat) (l0:List Bool) (a1:Bool) (r:Bool) (w:World) (ag:Kd.C Kd.bool w A0 l0.length l0) (ah:l0.length<=c0) (h:slices_Contains_bool_bool.f k l0 a1=some r):
  Calls Try.prog 54 #[.slice A0 l0.length c0,.bool a1] w fun e w'=>e= .returned (.bool r)/\Drawn0 w w':=by
 have aj:=G.m ag;have am:=G.m ah;clear ag ah;unfold slices_Contains_bool_bool.f at h;have H:=h;clear h;obtain⟨ae,A3,H⟩:=G.bi H;(try dsimp only at H);obtain rfl:=Option.some.inj H
 go_enter Try.func54,Try.ntmps54
 go_wp2_with (first|((with_reducible refine G.f 90 rfl ?_);refine G.gL 7 Try.func90 #[.slice A0 l0.length c0,.bool a1] ?_;(with_reducible refine(slices_Index_bool_bool.calls k _ _ l0 a1 ae _ ?side1 ?side2 A3.out).mono ?_);(case side1=>exact G.cC aj.out);(case side2=>exact am.out);rintro e w' ⟨rfl,⟨nd,rfl⟩⟩;refine⟨_,rfl,?_⟩))
 go_ret
 exact⟨cacI,by repeat(first|exact Drawn0.refl _|apply Drawn0.step)⟩
end Go.Proofs.Ytgeonpciodepgaa.P
namespace Go.Proofs.Ytgeonpciodepgaa.P
set_option maxHeartbeats 8000000
set_option maxRecDepth 100000
open Go.RowKit Go.Proofs.YtgeonpciodepgaaW.PrintWords Go.Proofs.YtgeonpciodepgaaW.PrintLast Go.Proofs.YtgeonpciodepgaaW.PrintMore
attribute [local go_sem] max2_int min2_int max_two min_two max_three min_three max_four min_four
theorem ce_0 {p:Prop} (h:p:=by first|rfl|(simp[errW_none,errW_some]<;>rfl)|(simp only[←aZ];first|rfl|(simp[errW_none,errW_some]<;>rfl))|(simp[*,errW_none,errW_some]<;>rfl)):p:=h
theorem ce_1 {p:Prop} (h:p:=by(try simp only[List.map_toArray,List.map_cons,List.map_nil]);first|done|(simp only[bK];rfl)|rfl|(simp only[List.length_drop,List.length_take];rfl)):p:=h
theorem ce_2 {p:Prop} (h:p:=by have:=bl.out;have:=bm.out;have:=ba.out;have:=bj.out;have:=bu.out;have:=b5.out;have:=cU.out;have:=eE.out;omega):p:=h
theorem ce_3 {p:Prop} (h:p:=by rw[hg];exact Nat.ne_of_lt (blk_lt (g:=az) (o:= .cells #[.int .i64 ag,.slice aN ai.length aO] 31 (0,0)) (G.cb ab.out))):p:=h
theorem ce_4 {p:Prop} (h:p:=by rw[hg];exact Nat.ne_of_gt (blk_lt (g:=az) (o:= .cells #[.int .i64 ag,.slice aN ai.length aO] 31 (0,0)) (G.cb ab.out))):p:=h
theorem ce_5 {p:Prop} (h:p:=by rw[hg];exact Nat.ne_of_lt (blk_lt (g:=ax) (o:=mObj ao) (G.cb ac.out))):p:=h
theorem ce_6 {p:Prop} (h:p:=by rw[hg];exact Nat.ne_of_gt (blk_lt (g:=ax) (o:=mObj ao) (G.cb ac.out))):p:=h
theorem ce_7 {p:Prop} (h:p:=by first|rfl|(simp[errW_none,errW_some]<;>rfl)|(simp[*,errW_none,errW_some]<;>rfl)):p:=h
theorem ce_8 {p:Prop} (h:p:=by have:=bl.out;have:=bm.out;have:=ba.out;first|omega|exact Nat.le_refl _):p:=h
theorem ce_9 {p:Prop} (h:p:=by first|rfl|(simp;done)|(simp[*];done)):p:=h
theorem ce_10 {p:Prop} (h:p:=by rw[hg];exact(below_size (G.cB HB.out))):p:=h
theorem ce_11 {p:Prop} (h:p:=by kernel_rfl):p:=h
mutual
def earOkW.j0:Nat->List (List Int)->List Int->Bool->Int->List (S59)->Option (Bool)
 |0,_,_,_,_,_=>none
 |k+1,x1,x2,gE,ap,ay=>if gE=true then(some false) else(if 0<=ap then(if(ap:Int).toNat<=281474976710656 then(earOkW.l0 k x2 (List.replicate (ap:Int).toNat false) x1 (x1.length:Int) 0 ap ay [] 0) else(none)) else(none))
def earOkW.l0:Nat->List Int->List Bool->List (List Int)->Int->Int->Int->List (S59)->List (S59)->Int->Option (Bool)
 |0,_,_,_,_,_,_,_,_,_=>none
 |k+1,x2,x6,aM,aQ,aL,ap,ay,aA,aC=>if aL<aQ then(if 0<=aL then(if aL<(aM.length:Int) then(if((rd_L2 aM aL).length:Int)<2 then(earOkW.j2 k x2 x6 aL (rd_L2 aM aL) aM aQ aL true ap ay aA aC) else((impl_Net_walk.f k ap ay (rd_L2 aM aL)).bind fun b6=>(earOkW.j2 k x2 x6 aL (rd_L2 aM aL) aM aQ aL (!b6) ap ay aA aC))) else(none)) else(none)) else(if(aA.length:Int)=(ay.length:Int) then((slices_Contains_bool_bool.f k x6 false).bind fun cu=>(some (!cu))) else(some false))
def earOkW.j2:Nat->List Int->List Bool->Int->List Int->List (List Int)->Int->Int->Bool->Int->List (S59)->List (S59)->Int->Option (Bool)
 |0,_,_,_,_,_,_,_,_,_,_,_,_=>none
 |k+1,x2,x6,x7,x8,aM,aQ,aL,gF,ap,ay,aA,aC=>if gF=true then(some false) else(if 0<(x8.length:Int) then(if 0<=(wrap64 ((x8.length:Int) - 1)) then(if(wrap64 ((x8.length:Int) - 1))<(x8.length:Int) then(if(rd x8 0)=(rd x8 (wrap64 ((x8.length:Int) - 1))) then(if(x8.length:Int)<4 then(earOkW.j3 k x2 x6 x7 x8 (rd x8 0) (rd x8 (wrap64 ((x8.length:Int) - 1))) aM aQ aL true ap ay aA aC) else(if x7=0 then(earOkW.j3 k x2 x6 x7 x8 (rd x8 0) (rd x8 (wrap64 ((x8.length:Int) - 1))) aM aQ aL ((rd x8 0) !=(rd x8 (wrap64 ((x8.length:Int) - 1)))) ap ay aA aC) else(earOkW.j3 k x2 x6 x7 x8 (rd x8 0) (rd x8 (wrap64 ((x8.length:Int) - 1))) aM aQ aL false ap ay aA aC))) else(if x7=0 then(earOkW.j3 k x2 x6 x7 x8 (rd x8 0) (rd x8 (wrap64 ((x8.length:Int) - 1))) aM aQ aL ((rd x8 0) !=(rd x8 (wrap64 ((x8.length:Int) - 1)))) ap ay aA aC) else(earOkW.j3 k x2 x6 x7 x8 (rd x8 0) (rd x8 (wrap64 ((x8.length:Int) - 1))) aM aQ aL false ap ay aA aC))) else(none)) else(none)) else(none))
def earOkW.j3:Nat->List Int->List Bool->Int->List Int->Int->Int->List (List Int)->Int->Int->Bool->Int->List (S59)->List (S59)->Int->Option (Bool)
 |0,_,_,_,_,_,_,_,_,_,_,_,_,_,_=>none
 |k+1,x2,x6,x7,x8,x9,eF,aM,aQ,aL,gG,ap,ay,aA,aC=>if gG=true then(some false) else(if 1<=(wrap64 ((x8.length:Int) - 1)) then(if(wrap64 ((x8.length:Int) - 1))<=(x8.length:Int) then(if x7=0 then(if 1<=(x8.length:Int) then(earOkW.j4 k x2 x6 x8 (x8.drop 1) aM aQ aL ap ay aA aC) else(none)) else(if 0<=x9 then(if x9<(x6.length:Int) then(if rdOf false x6 x9=true then(if 0<=eF then(if eF<(x6.length:Int) then(if rdOf false x6 eF=true then(earOkW.j4 k x2 x6 x8 ((x8.take (wrap64 ((x8.length:Int) - 1)).toNat).drop 1) aM aQ aL ap ay aA aC) else(some false)) else(none)) else(none)) else(some false)) else(none)) else(none))) else(none)) else(none))
def earOkW.j4:Nat->List Int->List Bool->List Int->List Int->List (List Int)->Int->Int->Int->List (S59)->List (S59)->Int->Option (Bool)
 |0,_,_,_,_,_,_,_,_,_,_,_=>none
 |k+1,x2,x6,x8,eG,aM,aQ,aL,ap,ay,aA,aC=>(impl_different.f k eG).bind fun cv=>(if cv=true then(earOkW.l1 k x2 x6 x8 aM aQ aL eG (eG.length:Int) 0 ap ay aA aC) else(some false))
def earOkW.l1:Nat->List Int->List Bool->List Int->List (List Int)->Int->Int->List Int->Int->Int->Int->List (S59)->List (S59)->Int->Option (Bool)
 |0,_,_,_,_,_,_,_,_,_,_,_,_,_=>none
 |k+1,x2,x6,x8,aM,aQ,aL,cW,fD,b7,ap,ay,aA,aC=>if b7<fD then(if 0<=b7 then(if b7<(cW.length:Int) then(if 0<=(rd cW b7) then(if(rd cW b7)<(x6.length:Int) then(if rdOf false x6 (rd cW b7)=true then(some false) else(earOkW.l1 k x2 x6 x8 aM aQ aL cW fD (wrap64 (b7+1)) ap ay aA aC)) else(none)) else(none)) else(none)) else(none)) else(earOkW.l2 k x2 x6 x8 1 aM aQ aL ap ay aA aC)
def earOkW.l2:Nat->List Int->List Bool->List Int->Int->List (List Int)->Int->Int->Int->List (S59)->List (S59)->Int->Option (Bool)
 |0,_,_,_,_,_,_,_,_,_,_,_=>none
 |k+1,x2,x6,x8,b8,aM,aQ,aL,ap,ay,aA,aC=>if b8<(x8.length:Int) then(if 0<=(wrap64 (b8 - 1)) then(if(wrap64 (b8 - 1))<(x8.length:Int) then(if 0<=b8 then((impl_tie.f (rd x8 (wrap64 (b8 - 1))) (rd x8 b8)).bind fun a5=>(if tHas aA a5.1 a5.2=true then(some false) else(earOkW.l2 k x2 x6 x8 (wrap64 (b8+1)) aM aQ aL ap ay (aA++[⟨a5.1,a5.2⟩]) aC))) else(none)) else(none)) else(none)) else(earOkW.l3 k x2 x6 aM aQ aL x8 (x8.length:Int) 0 ap ay aA aC)
def earOkW.l3:Nat->List Int->List Bool->List (List Int)->Int->Int->List Int->Int->Int->Int->List (S59)->List (S59)->Int->Option (Bool)
 |0,_,_,_,_,_,_,_,_,_,_,_,_=>none
 |k+1,x2,x6,aM,aQ,aL,b9,eH,bv,ap,ay,aA,aC=>if bv<eH then(if 0<=bv then(if bv<(b9.length:Int) then(if 0<=(rd b9 bv) then(if(rd b9 bv)<(x6.length:Int) then(earOkW.l3 k x2 (x6.set ((rd b9 bv):Int).toNat true) aM aQ aL b9 eH (wrap64 (bv+1)) ap ay aA aC) else(none)) else(none)) else(none)) else(none)) else(earOkW.l0 k x2 x6 aM aQ (wrap64 (aL+1)) ap ay aA aC)
end
def earOkW.f (k:Nat) (ag:Int) (ai:List (S59)) (l1:List (List Int)) (l2:List Int):Option (Bool):=(impl_NetOk.f k ag ai).bind fun bU=>(if bU=true then(earOkW.j0 k l1 l2 ((l1.length:Int)==0) ag ai) else(earOkW.j0 k l1 l2 true ag ai))
theorem earOkW.mono_l:∀k,(∀y0 y1 y2 y3 y4,LeO (earOkW.j0 k y0 y1 y2 y3 y4) (earOkW.j0 (k+1) y0 y1 y2 y3 y4))/\(∀y0 y1 y2 y3 y4 y5 y6 y7 y8,LeO (earOkW.l0 k y0 y1 y2 y3 y4 y5 y6 y7 y8) (earOkW.l0 (k+1) y0 y1 y2 y3 y4 y5 y6 y7 y8))/\(∀y0 y1 y2 y3 y4 y5 y6 y7 y8 y9 a4 bn,LeO (earOkW.j2 k y0 y1 y2 y3 y4 y5 y6 y7 y8 y9 a4 bn) (earOkW.j2 (k+1) y0 y1 y2 y3 y4 y5 y6 y7 y8 y9 a4 bn))/\(∀y0 y1 y2 y3 y4 y5 y6 y7 y8 y9 a4 bn cX fE,LeO (earOkW.j3 k y0 y1 y2 y3 y4 y5 y6 y7 y8 y9 a4 bn cX fE) (earOkW.j3 (k+1) y0 y1 y2 y3 y4 y5 y6 y7 y8 y9 a4 bn cX fE))/\(∀y0 y1 y2 y3 y4 y5 y6 y7 y8 y9 a4,LeO (earOkW.j4 k y0 y1 y2 y3 y4 y5 y6 y7 y8 y9 a4) (earOkW.j4 (k+1) y0 y1 y2 y3 y4 y5 y6 y7 y8 y9 a4))/\(∀y0 y1 y2 y3 y4 y5 y6 y7 y8 y9 a4 bn cX,LeO (earOkW.l1 k y0 y1 y2 y3 y4 y5 y6 y7 y8 y9 a4 bn cX) (earOkW.l1 (k+1) y0 y1 y2 y3 y4 y5 y6 y7 y8 y9 a4 bn cX))/\(∀y0 y1 y2 y3 y4 y5 y6 y7 y8 y9 a4,LeO (earOkW.l2 k y0 y1 y2 y3 y4 y5 y6 y7 y8 y9 a4) (earOkW.l2 (k+1) y0 y1 y2 y3 y4 y5 y6 y7 y8 y9 a4))/\(∀y0 y1 y2 y3 y4 y5 y6 y7 y8 y9 a4 bn,LeO (earOkW.l3 k y0 y1 y2 y3 y4 y5 y6 y7 y8 y9 a4 bn) (earOkW.l3 (k+1) y0 y1 y2 y3 y4 y5 y6 y7 y8 y9 a4 bn))
 |0=>⟨fun _ _ _ _ _ r h=>by simp[earOkW.j0] at h,fun _ _ _ _ _ _ _ _ _ r h=>by simp[earOkW.l0] at h,fun _ _ _ _ _ _ _ _ _ _ _ _ r h=>by simp[earOkW.j2] at h,fun _ _ _ _ _ _ _ _ _ _ _ _ _ _ r h=>by simp[earOkW.j3] at h,fun _ _ _ _ _ _ _ _ _ _ _ r h=>by simp[earOkW.j4] at h,fun _ _ _ _ _ _ _ _ _ _ _ _ _ r h=>by simp[earOkW.l1] at h,fun _ _ _ _ _ _ _ _ _ _ _ r h=>by simp[earOkW.l2] at h,fun _ _ _ _ _ _ _ _ _ _ _ _ r h=>by simp[earOkW.l3] at h⟩
 |k+1=>by
  obtain⟨cY,cZ,c_,db,dc,dd,de,df⟩:=earOkW.mono_l k;refine⟨?_,?_,?_,?_,?_,?_,?_,?_⟩<;>intros
  all_goals first|unfold earOkW.j0|unfold earOkW.l0|unfold earOkW.j2|unfold earOkW.j3|unfold earOkW.j4|unfold earOkW.l1|unfold earOkW.l2|unfold earOkW.l3
  repeat' with_reducible first|exact cY _ _ _ _ _|exact cZ _ _ _ _ _ _ _ _ _|exact c_ _ _ _ _ _ _ _ _ _ _ _ _|exact db _ _ _ _ _ _ _ _ _ _ _ _ _ _|exact dc _ _ _ _ _ _ _ _ _ _ _|exact dd _ _ _ _ _ _ _ _ _ _ _ _ _|exact de _ _ _ _ _ _ _ _ _ _ _|exact df _ _ _ _ _ _ _ _ _ _ _ _|exact impl_NetOk.mono _ _ _|exact impl_Net_walk.mono _ _ _ _|exact impl_different.mono _ _|exact slices_Contains_bool_bool.mono _ _ _|exact LeO.refl _|exact LeO.none _|refine LeO.ite ?_ ?_|refine LeO.bind ?_ (fun _=> ?_)
theorem earOkW.mono:∀a0 a1 a2 a3 k,LeO (earOkW.f k a0 a1 a2 a3) (earOkW.f (k+1) a0 a1 a2 a3):=by
 intro a0 a1 a2 a3 k;obtain⟨cY,cZ,c_,db,dc,dd,de,df⟩:=earOkW.mono_l k;unfold earOkW.f
 repeat' with_reducible first|exact cY _ _ _ _ _|exact cZ _ _ _ _ _ _ _ _ _|exact c_ _ _ _ _ _ _ _ _ _ _ _ _|exact db _ _ _ _ _ _ _ _ _ _ _ _ _ _|exact dc _ _ _ _ _ _ _ _ _ _ _|exact dd _ _ _ _ _ _ _ _ _ _ _ _ _|exact de _ _ _ _ _ _ _ _ _ _ _|exact df _ _ _ _ _ _ _ _ _ _ _ _|exact impl_NetOk.mono _ _ _|exact impl_Net_walk.mono _ _ _ _|exact impl_different.mono _ _|exact slices_Contains_bool_bool.mono _ _ _|exact LeO.refl _|exact LeO.none _|refine LeO.ite ?_ ?_|refine LeO.bind ?_ (fun _=> ?_)
def earOkW.T10:Bool×List (List Nat×List Nat):=(true,[([],[]),([0],[0]),([1],[1]),([],[]),([],[]),([4],[4]),([5],[5]),([3,6],[3,6]),([7],[7]),([2,0,1,2],[2]),([8,9,0,1,2,3,4,5,6,7,8,9],[8])])
def earOkW.B10:List Nat:=[0,1,3,0,0,16,48,120,248,7,1023]
theorem earOkW.tab10:rtab .any (opsOf Try.f19 10)=earOkW.T10:=by kernel_rfl
theorem earOkW.bits10:waitsOk earOkW.T10.2 earOkW.B10=true:=by kernel_rfl
def earOkW.T29:Bool×List (List Nat×List Nat):=(true,[([],[]),([],[]),([1],[1]),([0,2],[0,2]),([3],[3]),([],[]),([],[]),([5,6],[5,6]),([7],[7]),([4,8],[4,8]),([],[]),([10,9,9,0,1,2,3,4,5,6,7,8,9,10],[9,10])])
def earOkW.B29:List Nat:=[0,0,2,7,15,0,0,96,224,511,0,2047]
theorem earOkW.tab29:rtab .any (opsOf Try.f19 29)=earOkW.T29:=by kernel_rfl
theorem earOkW.bits29:waitsOk earOkW.T29.2 earOkW.B29=true:=by kernel_rfl
theorem earOkW.calls (k:Nat) (ag:Int) (aN:Option Addr) (aO:Nat) (ai:List (S59)) (A1:Option Addr) (c1:Nat) (l1:List (List Int)) (l2:List Int) (r:Bool) (w:World) (dS:Kd.C k59 w aN ai.length ai) (dT:ai.length<=aO) (hr1:Kd.C (Kd.slice 3 (Kd.int .i64)) w A1 l1.length l1) (fF:l1.length<=c1) (h:earOkW.f k ag ai l1 l2=some r):
  Calls Try.prog 19 #[.agg #[.int .i64 ag,.slice aN ai.length aO],.slice A1 l1.length c1] w fun e w'=>e= .returned (.bool r)/\Below w.heap.size w w':=by
 have iU:=Try.underlying31;have iV:=Try.underlying59;have cw:=G.m dS;have cx:=G.m dT;clear dS dT;have gH:=G.m hr1;have jc:=G.m fF;clear hr1 fF;have HB:=G.m (Below.refl w.heap.size w);unfold earOkW.f at h;have H:=h;clear h;have eI:=G.m H;clear H
 go_enter Try.func19,Try.ntmps19
 go_upto_region 1 with(first|((with_reducible refine G.h 2 rfl ?_);(try(refine gate_guard (by rfl) ?_;dsimp only));refine G.be 2 #[.int .i64 ag,.slice aN ai.length aO] 31 ?_;intro az hg w5 hbox hb;have ab:=G.m (hbox);have hX:=G.m (ce_10:w.heap.size<=az);have hY:=G.m (ce_10:w.heap.size<=az);replace HB:=G.bs HB hb;clear hb hbox hg))
 (try simp only[Act.put,List.setIfInBounds_toArray,List.set_cons_zero,List.set_cons_succ])
 go_cut [25] (fun gI wc=>∃ (kq:Nat) (bZ:Bool),gI= .bool bZ/\Aside0 (earOkW.j0 kq l1 l2 bZ ag ai=some r)/\Aside0 (kq<=k)/\Aside0 (wc.heap[az]? =some (.cells #[.int .i64 ag,(.slice aN ai.length aO)] 31 (0,0)))/\Aside0 (Below w.heap.size w wc))
 case first=>
  have H:=eI.out;clear eI;obtain⟨bU,A6,H⟩:=G.bi H;(try dsimp only at H)
  rcases G.bc H with⟨h_,H_⟩|⟨h_,H_⟩<;> (subst h_;clear H;have H:=H_;clear H_)
  ·have H':=G.m H;clear H;have⟨gJ,gK,gM,gN⟩:=G.d2 (w:=w5) ab
   go_wp2_with (first|((with_reducible refine gate_callee (f:=50) rfl ?_);refine goesL_ (some 19) rfl rfl Try.func50 (ce_11) rfl #[.agg #[.int .i64 ag,.slice aN ai.length aO]] rfl (G.ar) ?_;(with_reducible refine(impl_NetOk.calls k ag _ _ ai true _ ?side1 ?side2 A6.out).mono ?_);(case side1=>exact G.cC (Kd.C_below cw.out HB.out));(case side2=>exact cx.out);rintro e w9 ⟨rfl,hb⟩;refine⟨_,rfl,?_⟩;replace ab:=G.bb ab hb;replace HB:=G.bs HB hb;(try clear hb)))
   go_meet
   case rel=>exact⟨_,(((l1.length:Int)==0)),(ce_9),H',⟨by first|omega|exact Nat.le_refl _⟩,⟨G.cb ab.out⟩,⟨G.cB HB.out⟩⟩
  ·have H':=G.m H;clear H;have⟨f3,f4,f5,f6⟩:=G.d2 (w:=w5) ab
   go_wp2_with (first|((with_reducible refine gate_callee (f:=50) rfl ?_);refine goesL_ (some 19) rfl rfl Try.func50 (ce_11) rfl #[.agg #[.int .i64 ag,.slice aN ai.length aO]] rfl (G.ar) ?_;(with_reducible refine(impl_NetOk.calls k ag _ _ ai false _ ?side1 ?side2 A6.out).mono ?_);(case side1=>exact G.cC (Kd.C_below cw.out HB.out));(case side2=>exact cx.out);rintro e jd ⟨rfl,hb⟩;refine⟨_,rfl,?_⟩;replace ab:=G.bb ab hb;replace HB:=G.bs HB hb;(try clear hb)))
   go_meet
   case rel=>exact⟨_,(true),(ce_9),H',⟨by first|omega|exact Nat.le_refl _⟩,⟨G.cb ab.out⟩,⟨G.cB HB.out⟩⟩
 case rest=>
  clear eI;obtain⟨kq,bZ,rfl,HA,bl,ab,HB⟩:=hcut;cases kq with
  |zero=>exact absurd HA.out (by simp[earOkW.j0])
  |succ dU=>
   have H:=HA.out;clear HA;simp only[earOkW.j0] at H
   rcases G.bc H with⟨h_,H_⟩|⟨h_,H_⟩<;> (subst h_;clear H;have H:=H_;clear H_)
   ·obtain rfl:=Option.some.inj H
    go_wp2
    go_ret
    exact⟨ce_7,G.cB HB.out⟩
   ·skip
    obtain⟨dh,H⟩:=G.ip H;have eU:=eq_true dh;have eV:=decide_eq_true dh;clear dh
    obtain⟨di,H⟩:=G.ip H;have eW:=eq_true di;have eX:=decide_eq_true di;clear di;obtain⟨eJ,bL⟩:∃y_:List Bool,y_=(List.replicate (ag:Int).toNat false):=⟨_,rfl⟩;replace H:(earOkW.l0 dU l2 eJ l1 (l1.length:Int) 0 ag ai [] 0)=some r:=G.y0 bL H
    have dV:=G.m bL;clear bL;have H':=G.m H;clear H
    go_wp2_with (first|((with_reducible refine G.h 26 rfl ?_);refine mMake 26 ?_;intro ax hg gO hbox hb;have ac:=G.m (hbox);have hZ:=G.m (ce_10:w.heap.size<=ax);have eY:=G.m (ce_10:w.heap.size<=ax);replace HB:=G.bs HB hb;have aR:=G.m (ce_3:az≠ax);have aU:=G.m (ce_4:ax≠az);replace ab:=G.bb ab hb;clear hb hbox hg;have ia:=aR.out;have ib:=aU.out;have⟨ez,eA,eB,eC⟩:=G.d2 (w:=gO) ab)|((with_reducible refine G.h 29 rfl ?_);(try(refine gate_guard (by rfl) ?_;dsimp only));refine Kd.R_make Kd.bool _ 4 rfl (N:=29) rfl 54 _ _ rfl ag rfl rfl Try.underlying54 (.bool false) 1 info4 rfl (by decide) (by omega) false (ok:=fun _=>True) (okp:=fun _=>True) rfl (fun _ hk=>hk) trivial G.da (Nat.le_trans (Nat.mul_le_mul_right _ (of_decide_eq_true (G.asm):ag.toNat<=281474976710656)) (by omega)) (Below.refl _ _) (Nat.le_refl _) ?_;intro a7 je cd hb hg_ hnew_;clear hg_ hnew_;(first|rw[←dV.out] at cd|(simp only[Int.reduceToNat] at cd;rw[←dV.out] at cd));have eZ:=G.m (Kd.R_lower cd (below_size (G.cB HB.out)));replace ab:=G.bb ab hb;replace ac:=G.bb ac hb;replace HB:=G.bs HB hb;clear hb cd))
    go_loopg [32] dU (fun kq gP w'=>∃ (aj:List Bool) (aa:Int) (af:List (S59)),gP= .int .i64 aa/\Aside0 (earOkW.l0 kq l2 aj l1 (l1.length:Int) aa ag ai af 0=some r)/\Aside0 (kq<=dU)/\Aside0 (Kd.R Kd.bool 4 w' w.heap.size (fun _=>True) a7 aj)/\Aside0 (w'.heap[az]? =some (.cells #[.int .i64 ag,(.slice aN ai.length aO)] 31 (0,0)))/\Aside0 (w'.heap[ax]? =some (mObj af))/\Aside0 (Below w.heap.size w w'))
    case atStart=>exact⟨(eJ),(0),[],(ce_9),H',⟨Nat.le_refl _⟩,⟨G.cR eZ.out⟩,⟨G.cb ab.out⟩,⟨G.cb ac.out⟩,⟨G.cB HB.out⟩⟩
    case round=>
     clear H';(try clear dg eU eV eW eX ez eA eB eC);obtain⟨aj,aa,af,rfl,HA,bm,ae,ab,ac,HB⟩:=hrel;cases gk with
     |zero=>exact absurd HA.out (by simp[earOkW.l0])
     |succ k2=>
      have H:=HA.out;clear HA;simp only[earOkW.l0] at H
      by_cases ck:aa<(l1.length:Int)
      ·rw[if_pos ck] at H;have dW:=decide_eq_true ck;clear ck
       obtain⟨e2,H⟩:=G.dp H
       obtain⟨e3,H⟩:=G.dp H;have dE:=G.m H;clear H;have cy:0<=(aa:Int):=G.da;have cz:aa<(l1.length:Int):=G.da;obtain⟨ic,gQ,bM,fI,bV,cl,cm⟩:=at_L2 gH.out aa cy cz;cases fI;replace bV:=G.hx HB bV;have aP:=G.m cm;have bW:=G.m cl;clear cm cl;replace cy:=eq_true cy;replace cz:=eq_true cz
       go_upto_region 8 with(fail)
       go_cut [45] (fun gR wc=>∃ (kq:Nat) (bN:Bool),gR= .bool bN/\Aside0 (earOkW.j2 kq l2 aj aa (rd_L2 l1 aa) l1 (l1.length:Int) aa bN ag ai af 0=some r)/\Aside0 (kq<=k2)/\Aside0 (Kd.R Kd.bool 4 wc w.heap.size (fun _=>True) a7 aj)/\Aside0 (wc.heap[az]? =some (.cells #[.int .i64 ag,(.slice aN ai.length aO)] 31 (0,0)))/\Aside0 (wc.heap[ax]? =some (mObj af))/\Aside0 (Below w.heap.size w wc))
       case first=>
        have H:=dE.out;clear dE
        by_cases cn:((rd_L2 l1 aa).length:Int)<2
        ·rw[if_pos cn] at H;have bO:=decide_eq_true cn;have e4:decide ((rd_L2 l1 aa).length<2)=true:=decide_eq_true (by omega);clear cn;(first|rw[bO]|(simp only[i64_w,i32_w];rw[bO])|skip);have H':=G.m H;clear H
         go_wp2
         go_meet
         case rel=>exact⟨_,(true),(ce_9),H',⟨by have:=bl.out;have:=bm.out;first|omega|exact Nat.le_refl _⟩,⟨G.cR ae.out⟩,⟨G.cb ab.out⟩,⟨G.cb ac.out⟩,⟨G.cB HB.out⟩⟩
        ·rw[if_neg cn] at H;have bO:=decide_eq_false cn;have e4:decide ((rd_L2 l1 aa).length<2)=false:=decide_eq_false (by omega);clear cn;(first|rw[bO]|(simp only[i64_w,i32_w];rw[bO])|skip);obtain⟨b6,gS,H⟩:=G.bi H;(try dsimp only at H);have H':=G.m H;clear H;have ie:=aR.out;have ig:=aU.out;have⟨f7,f8,f9,f_⟩:=G.d2 (w:=wr) ab
         go_wp2_with (first|(go_at_call 51;(with_reducible refine(impl_Net_walk.calls k2 ag _ _ ai _ _ (rd_L2 l1 aa) b6 _ ?side1 ?side2 ?side3 ?side4 gS.out).mono ?_);(case side1=>exact G.cC (Kd.C_below cw.out HB.out));(case side2=>exact cx.out);(case side3=>exact G.cC (Kd.C_below aP.out HB.out));(case side4=>exact bW.out);rintro e jf ⟨rfl,hb⟩;replace ae:=G.rb ae hb;replace ab:=G.bb ab hb;replace ac:=G.bb ac hb;replace HB:=G.bs HB hb;(try clear hb)))
         go_meet
         case rel=>exact⟨_,(!b6),(ce_9),H',⟨by have:=bl.out;have:=bm.out;first|omega|exact Nat.le_refl _⟩,⟨G.cR ae.out⟩,⟨G.cb ab.out⟩,⟨G.cb ac.out⟩,⟨G.cB HB.out⟩⟩
       case rest=>
        clear dE;(try clear dW e2 e3 bV cy cz);obtain⟨kq,bN,rfl,HA,ba,ae,ab,ac,HB⟩:=hcut;cases kq with
        |zero=>exact absurd HA.out (by simp[earOkW.j2])
        |succ a8=>
         have H:=HA.out;clear HA;simp only[earOkW.j2] at H
         rcases G.bc H with⟨h_,H_⟩|⟨h_,H_⟩<;> (subst h_;clear H;have H:=H_;clear H_)
         ·obtain rfl:=Option.some.inj H
          go_wp2
          go_ret
          exact⟨ce_7,G.cB HB.out⟩
         ·skip
          obtain⟨dZ,H⟩:=G.ip H;have e5:=decide_eq_true dZ;have e6:decide (0<(rd_L2 l1 aa).length)=true:=decide_eq_true (by omega);clear dZ;obtain⟨au,aZ⟩:∃j_:Int,(wrap64 (((rd_L2 l1 aa).length:Int) - 1))=j_:=⟨_,rfl⟩;replace H:(if 0<=(au) then(if(au)<((rd_L2 l1 aa).length:Int) then(if(rd (rd_L2 l1 aa) 0)=(rd (rd_L2 l1 aa) (au)) then(if((rd_L2 l1 aa).length:Int)<4 then(earOkW.j3 a8 l2 aj aa (rd_L2 l1 aa) (rd (rd_L2 l1 aa) 0) (rd (rd_L2 l1 aa) (au)) l1 (l1.length:Int) aa true ag ai af 0) else(if aa=0 then(earOkW.j3 a8 l2 aj aa (rd_L2 l1 aa) (rd (rd_L2 l1 aa) 0) (rd (rd_L2 l1 aa) (au)) l1 (l1.length:Int) aa ((rd (rd_L2 l1 aa) 0) !=(rd (rd_L2 l1 aa) (au))) ag ai af 0) else(earOkW.j3 a8 l2 aj aa (rd_L2 l1 aa) (rd (rd_L2 l1 aa) 0) (rd (rd_L2 l1 aa) (au)) l1 (l1.length:Int) aa false ag ai af 0))) else(if aa=0 then(earOkW.j3 a8 l2 aj aa (rd_L2 l1 aa) (rd (rd_L2 l1 aa) 0) (rd (rd_L2 l1 aa) (au)) l1 (l1.length:Int) aa ((rd (rd_L2 l1 aa) 0) !=(rd (rd_L2 l1 aa) (au))) ag ai af 0) else(earOkW.j3 a8 l2 aj aa (rd_L2 l1 aa) (rd (rd_L2 l1 aa) 0) (rd (rd_L2 l1 aa) (au)) l1 (l1.length:Int) aa false ag ai af 0))) else(none)) else(none))=some r:=by first|(rw[aZ] at H;exact H)|(simp only[aZ] at H⊢;exact H)
          have gT:(IntKind.i64.wrap (((rd_L2 l1 aa).length:Int) - 1))=au:=(i64_w _).trans aZ
          obtain⟨e7,H⟩:=G.dp H
          obtain⟨e8,H⟩:=G.dp H;have dF:=G.m H;clear H;try go_wp2
          replace ae:=G.m (Kd.R_drew ae.out);replace ab:=G.m (blk_drew ab.out);replace ac:=G.m (blk_drew ac.out);replace HB:=G.m (below_drew1 HB.out);have cA:0<=(0:Int):=(by omega);have cD:0<((rd_L2 l1 aa).length:Int):=G.da;obtain⟨aK,fJ,aX⟩:=Kd.at_int aP.out 0 cA cD;have bp:=aX;(try rw[show((0:Int)).toNat=0 from rfl] at bp);(try rw[show 0*1=0 from rfl] at bp);(try rw[Addr.add_zero'] at bp);cases fJ;have ii:(0<(rd_L2 l1 aa).length)=True:=eq_true (by omega);(try rw[show((0:Int)).toNat=0 from rfl] at aX);(try rw[Addr.add_zero'] at aX);replace aX:=G.hx HB aX;replace cA:=eq_true cA;replace cD:=eq_true cD;have cE:0<=((au):Int):=G.da;have cF:(au)<((rd_L2 l1 aa).length:Int):=G.da;obtain⟨e9,fK,bd⟩:=Kd.at_int aP.out (au) cE cF;have eD:=bd;obtain rfl:aK=e9:=(by injection fK);replace bd:=G.hx HB bd;replace cE:=eq_true cE;replace cF:=eq_true cF;refine start_ (n:=11) (S:=fun w'=>w'.cell? aK=some (.int .i64 (rd (rd_L2 l1 aa) 0))/\w'.cell? (aK.add ((au)).toNat)=some (.int .i64 (rd (rd_L2 l1 aa) (au)))) (ds:=[]) (G.fl 11 0) (ce_11) rfl (ce_11) ⟨(G.hx HB bp),(G.hx HB eD)⟩ (fun hHeld=> ?_);refine with_tabW earOkW.tab10 earOkW.bits10 (fun HT_ HW_=> ?_);generalize wc.drew=jg at ae ab ac HB aX bd hHeld⊢;refine G.pu 0 46 1 ?_;refine G.pu 1 47 3 ?_;refine G.pu 3 49 11 ?_;refine G.pu 4 50 27 ?_;refine G.pu 5 51 59 ?_;refine G.pu 6 52 123 ?_;refine G.pu 7 53 251 ?_;refine G.ta2 2 48 255 ?_;refine G.pu 9 9 767 ?_;refine G.ta2 8 54 1023 ?_;refine G.pu 10 10 2047 ?_;refine done_ (done_of HT_.out (ce_11)) ?_
          go_upto_region 11 with(fail)
          go_cut [71] (fun gU wc=>∃ (kq:Nat) (bP:Bool),gU= .bool bP/\Aside0 (earOkW.j3 kq l2 aj aa (rd_L2 l1 aa) (rd (rd_L2 l1 aa) 0) (rd (rd_L2 l1 aa) (au)) l1 (l1.length:Int) aa bP ag ai af 0=some r)/\Aside0 (kq<=a8)/\Aside0 (Kd.R Kd.bool 4 wc w.heap.size (fun _=>True) a7 aj)/\Aside0 (wc.heap[az]? =some (.cells #[.int .i64 ag,(.slice aN ai.length aO)] 31 (0,0)))/\Aside0 (wc.heap[ax]? =some (mObj af))/\Aside0 (Below w.heap.size w wc))
          case first=>
           have H:=dF.out;clear dF
           by_cases ce:(rd (rd_L2 l1 aa) 0)=(rd (rd_L2 l1 aa) (au))
           ·rw[if_pos ce] at H;have bQ:=beq_iff_eq.mpr ce;have fa:=bne_eq_false_iff_eq.mpr ce;clear ce;(first|rw[bQ]|(simp only[i64_w,i32_w];rw[bQ])|skip)
            by_cases co:((rd_L2 l1 aa).length:Int)<4
            ·rw[if_pos co] at H;have fb:=decide_eq_true co;have fc:decide ((rd_L2 l1 aa).length<4)=true:=decide_eq_true (by omega);clear co;have H':=G.m H;clear H
             go_wp2
             go_meet
             case rel=>exact⟨_,(true),(ce_9),H',⟨ce_8⟩,⟨G.cR ae.out⟩,⟨G.cb ab.out⟩,⟨G.cb ac.out⟩,⟨G.cB HB.out⟩⟩
            ·rw[if_neg co] at H;have fb:=decide_eq_false co;have fc:decide ((rd_L2 l1 aa).length<4)=false:=decide_eq_false (by omega);clear co
             by_cases cf:aa=0
             ·rw[if_pos cf] at H;have fd:=beq_iff_eq.mpr cf;have fe:=bne_eq_false_iff_eq.mpr cf;clear cf;have H':=G.m H;clear H
              go_wp2
              go_meet
              case rel=>exact⟨_,(((rd (rd_L2 l1 aa) 0) !=(rd (rd_L2 l1 aa) (au)))),(by first|rfl|(simp;done)|(simp[*];done)|(simp only[←aZ];done)|(simp[bne, *];done)),H',⟨ce_8⟩,⟨G.cR ae.out⟩,⟨G.cb ab.out⟩,⟨G.cb ac.out⟩,⟨G.cB HB.out⟩⟩
             ·rw[if_neg cf] at H;have fd:=beq_eq_false_iff_ne.mpr cf;have fe:=bne_iff_ne.mpr cf;have H':=G.m H;clear H
              go_wp2
              go_meet
              case rel=>exact⟨_,(false),(ce_9),H',⟨ce_8⟩,⟨G.cR ae.out⟩,⟨G.cb ab.out⟩,⟨G.cb ac.out⟩,⟨G.cB HB.out⟩⟩
           ·rw[if_neg ce] at H;have bQ:=beq_eq_false_iff_ne.mpr ce;have fa:=bne_iff_ne.mpr ce;(first|rw[bQ]|(simp only[i64_w,i32_w];rw[bQ])|skip)
            by_cases cg:aa=0
            ·rw[if_pos cg] at H;have ff:=beq_iff_eq.mpr cg;have fg:=bne_eq_false_iff_eq.mpr cg;clear cg;have H':=G.m H;clear H
             go_wp2
             go_meet
             case rel=>exact⟨_,(((rd (rd_L2 l1 aa) 0) !=(rd (rd_L2 l1 aa) (au)))),(by first|rfl|(simp;done)|(simp[*];done)|(simp only[←aZ];done)|(simp[bne, *];done)),H',⟨ce_8⟩,⟨G.cR ae.out⟩,⟨G.cb ab.out⟩,⟨G.cb ac.out⟩,⟨G.cB HB.out⟩⟩
            ·rw[if_neg cg] at H;have ff:=beq_eq_false_iff_ne.mpr cg;have fg:=bne_iff_ne.mpr cg;have H':=G.m H;clear H
             go_wp2
             go_meet
             case rel=>exact⟨_,(false),(ce_9),H',⟨ce_8⟩,⟨G.cR ae.out⟩,⟨G.cb ab.out⟩,⟨G.cb ac.out⟩,⟨G.cB HB.out⟩⟩
          case rest=>
           clear dF;(try clear dj e5 e6 e7 e8 aX bd cA cE cD cF);obtain⟨kq,bP,rfl,HA,bj,ae,ab,ac,HB⟩:=hcut;cases kq with
           |zero=>exact absurd HA.out (by simp[earOkW.j3])
           |succ bx=>
            have H:=HA.out;clear HA;simp only[earOkW.j3] at H
            rcases G.bc H with⟨h_,H_⟩|⟨h_,H_⟩<;> (subst h_;clear H;have H:=H_;clear H_)
            ·obtain rfl:=Option.some.inj H
             go_wp2
             go_ret
             exact⟨ce_0,G.cB HB.out⟩
            ·skip
             obtain⟨dl,H⟩:=G.ip H;have fh:=eq_true dl;have fi:=decide_eq_true dl;clear dl
             obtain⟨dn,H⟩:=G.ip H;have fj:=eq_true dn;have fk:=decide_eq_true dn;clear dn;have dG:=G.m H;clear H;obtain⟨iW,d9,_,d_,_⟩:=info_parts info3;obtain⟨gV,eK,eL,eM⟩:=print_mid_of (P:=Try.prog) (Value.int .i64) 0 45 3 .i64 .i64 Try.underlying45 d9 d_ (some aK) bM (rd_L2 l1 aa) 1 (wrap64 (((rd_L2 l1 aa).length:Int) - 1)) (by omega) (by first|omega|exact of_decide_eq_true (G.asm)) G.da bW.out;simp only[aZ] at eK;have fm:=G.m (Kd.C_of_reads (h1:=fun _=>rfl) (eL _ (Kd.reads_of_C aP.out)));have fo:=G.m eM;clear eL eM d9 d_
             go_upto_if 78 with(fail)
             go_cut [11] (fun gW wc=>∃ (kq:Nat) (ak:List Int) (A2:Option Addr) (c2:Nat),gW= .slice A2 ak.length c2/\Aside0 (Kd.C (Kd.int .i64) w A2 ak.length ak)/\Aside0 (ak.length<=c2)/\Aside0 (earOkW.j4 kq l2 aj (rd_L2 l1 aa) ak l1 (l1.length:Int) aa ag ai af 0=some r)/\Aside0 (kq<=bx)/\Aside0 (Kd.R Kd.bool 4 wc w.heap.size (fun _=>True) a7 aj)/\Aside0 (wc.heap[az]? =some (.cells #[.int .i64 ag,(.slice aN ai.length aO)] 31 (0,0)))/\Aside0 (wc.heap[ax]? =some (mObj af))/\Aside0 (Below w.heap.size w wc))
             case first=>
              have H:=dG.out;clear dG
              by_cases ch:aa=0
              ·rw[if_pos ch] at H;have bR:=beq_iff_eq.mpr ch;have fp:=bne_eq_false_iff_eq.mpr ch;clear ch;(first|rw[bR]|(simp only[i64_w,i32_w];rw[bR])|skip)
               obtain⟨dq,H⟩:=G.ip H;have ij:=eq_true dq;have ik:=decide_eq_true dq;clear dq;have H':=G.m H;clear H;obtain⟨iX,ea,_,eb,_⟩:=info_parts info3;obtain⟨gX,gY,eN,eO⟩:=print_drop_of (P:=Try.prog) (Value.int .i64) 0 45 3 .i64 Try.underlying45 ea eb (some aK) bM (rd_L2 l1 aa) 1 (by omega) G.da bW.out;have fq:=G.m (Kd.C_of_reads (h1:=fun _=>rfl) (eN _ (Kd.reads_of_C aP.out)));have ft:=G.m eO;clear eN eO ea eb
               go_wp2
               go_meet
               case rel=>exact⟨_,((rd_L2 l1 aa).drop 1),gX,bM - 1,(by first|rfl|(simp[List.length_drop,List.length_take];done)|(simp[List.length_drop,List.length_take,←aZ];done)),fq,ft,H',⟨by have:=bl.out;have:=bm.out;have:=ba.out;have:=bj.out;first|omega|exact Nat.le_refl _⟩,⟨G.cR ae.out⟩,⟨G.cb ab.out⟩,⟨G.cb ac.out⟩,⟨G.cB HB.out⟩⟩
              ·rw[if_neg ch] at H;have bR:=beq_eq_false_iff_ne.mpr ch;have fp:=bne_iff_ne.mpr ch;(first|rw[bR]|(simp only[i64_w,i32_w];rw[bR])|skip)
               obtain⟨il,H⟩:=G.dp H
               obtain⟨im,H⟩:=G.dp H;obtain⟨eP,cG⟩:∃b_:Bool,b_=(rdOf false aj (rd (rd_L2 l1 aa) 0)):=⟨_,rfl⟩;replace H:(if eP=true then(if 0<=(rd (rd_L2 l1 aa) (au)) then(if(rd (rd_L2 l1 aa) (au))<(aj.length:Int) then(if rdOf false aj (rd (rd_L2 l1 aa) (au))=true then(earOkW.j4 bx l2 aj (rd_L2 l1 aa) (((rd_L2 l1 aa).take (wrap64 (((rd_L2 l1 aa).length:Int) - 1)).toNat).drop 1) l1 (l1.length:Int) aa ag ai af 0) else(some false)) else(none)) else(none)) else(some false))=some r:=by rw[←cG] at H;exact H
               have bS:=G.m cG;clear cG
               rcases G.bc H with⟨h_,H_⟩|⟨h_,H_⟩<;> (subst h_;clear H;have H:=H_;clear H_)
               ·skip
                obtain⟨io,H⟩:=G.dp H
                obtain⟨iq,H⟩:=G.dp H;obtain⟨eQ,cH⟩:∃b_:Bool,b_=(rdOf false aj (rd (rd_L2 l1 aa) (au))):=⟨_,rfl⟩;replace H:(if eQ=true then(earOkW.j4 bx l2 aj (rd_L2 l1 aa) (((rd_L2 l1 aa).take (wrap64 (((rd_L2 l1 aa).length:Int) - 1)).toNat).drop 1) l1 (l1.length:Int) aa ag ai af 0) else(some false))=some r:=by rw[←cH] at H;exact H
                have b3:=G.m cH;clear cH
                rcases G.bc H with⟨h_,H_⟩|⟨h_,H_⟩<;> (subst h_;clear H;have H:=H_;clear H_)
                ·have H':=G.m H;clear H;obtain⟨iY,iZ,fL⟩:=Kd.R_slice ae.out;subst fL;have a9:0<=((rd (rd_L2 l1 aa) 0):Int):=G.da;have a_:(rd (rd_L2 l1 aa) 0)<(aj.length:Int):=G.da;obtain⟨b4,ci,aY⟩:=Kd.at_bool (Kd.R_reads' ae.out).2.2 (rd (rd_L2 l1 aa) 0) a9 a_;(try rw[←bS.out] at aY);(try rw[←b3.out] at aY);cases ci;replace a9:=eq_true a9;replace a_:=eq_true a_;have bz:0<=((rd (rd_L2 l1 aa) (au)):Int):=G.da;have bA:(rd (rd_L2 l1 aa) (au))<(aj.length:Int):=G.da;obtain⟨cI,dH,bf⟩:=Kd.at_bool (Kd.R_reads' ae.out).2.2 (rd (rd_L2 l1 aa) (au)) bz bA;(try rw[←bS.out] at bf);(try rw[←b3.out] at bf);obtain rfl:b4=cI:=(by injection dH);replace bz:=eq_true bz;replace bA:=eq_true bA
                 go_wp2
                 go_meet
                 case rel=>exact⟨_,(((rd_L2 l1 aa).take (wrap64 (((rd_L2 l1 aa).length:Int) - 1)).toNat).drop 1),gV,bM - 1,(by first|rfl|(simp[List.length_drop,List.length_take];done)|(simp[List.length_drop,List.length_take,←aZ];done)),fm,fo,H',⟨by have:=bl.out;have:=bm.out;have:=ba.out;have:=bj.out;first|omega|exact Nat.le_refl _⟩,⟨G.cR ae.out⟩,⟨G.cb ab.out⟩,⟨G.cb ac.out⟩,⟨G.cB HB.out⟩⟩
                ·obtain rfl:=Option.some.inj H;obtain⟨i1,i2,fM⟩:=Kd.R_slice ae.out;subst fM;have a9:0<=((rd (rd_L2 l1 aa) 0):Int):=G.da;have a_:(rd (rd_L2 l1 aa) 0)<(aj.length:Int):=G.da;obtain⟨b4,ci,aY⟩:=Kd.at_bool (Kd.R_reads' ae.out).2.2 (rd (rd_L2 l1 aa) 0) a9 a_;(try rw[←bS.out] at aY);(try rw[←b3.out] at aY);cases ci;replace a9:=eq_true a9;replace a_:=eq_true a_;have bz:0<=((rd (rd_L2 l1 aa) (au)):Int):=G.da;have bA:(rd (rd_L2 l1 aa) (au))<(aj.length:Int):=G.da;obtain⟨cI,dH,bf⟩:=Kd.at_bool (Kd.R_reads' ae.out).2.2 (rd (rd_L2 l1 aa) (au)) bz bA;(try rw[←bS.out] at bf);(try rw[←b3.out] at bf);obtain rfl:b4=cI:=(by injection dH);replace bz:=eq_true bz;replace bA:=eq_true bA
                 go_wp2
                 go_ret
                 exact⟨ce_0,G.cB HB.out⟩
               ·obtain rfl:=Option.some.inj H;obtain⟨i3,i4,fN⟩:=Kd.R_slice ae.out;subst fN;have a9:0<=((rd (rd_L2 l1 aa) 0):Int):=G.da;have a_:(rd (rd_L2 l1 aa) 0)<(aj.length:Int):=G.da;obtain⟨b4,ci,aY⟩:=Kd.at_bool (Kd.R_reads' ae.out).2.2 (rd (rd_L2 l1 aa) 0) a9 a_;(try rw[←bS.out] at aY);cases ci;replace a9:=eq_true a9;replace a_:=eq_true a_
                go_wp2
                go_ret
                exact⟨ce_0,G.cB HB.out⟩
             case rest=>
              clear dG;(try clear dk fh fi fj fk);obtain⟨kq,ak,A2,c2,rfl,ei,fG,HA,bu,ae,ab,ac,HB⟩:=hcut;cases kq with
              |zero=>exact absurd HA.out (by simp[earOkW.j4])
              |succ bX=>
               have H:=HA.out;clear HA;simp only[earOkW.j4] at H;obtain⟨cv,fH,H⟩:=G.bi H;(try dsimp only at H)
               rcases G.bc H with⟨h_,H_⟩|⟨h_,H_⟩<;> (subst h_;clear H;have H:=H_;clear H_)
               ·have H':=G.m H;clear H
                go_wp2_with (first|((with_reducible refine gate_callee (f:=52) rfl ?_);refine goesL_ (some 94) rfl rfl Try.func52 (ce_11) rfl #[.slice A2 ak.length c2] rfl (G.ar) ?_;(with_reducible refine(impl_different.calls bX _ _ ak true _ ?side1 ?side2 fH.out).mono ?_);(case side1=>exact G.cC (Kd.C_below ei.out HB.out));(case side2=>exact fG.out);rintro e w' ⟨rfl,⟨nd,rfl⟩⟩;refine⟨_,rfl,?_⟩))
                go_loopg [98] bX (fun kq gZ w'=>∃ (aE:Int),gZ= .int .i64 aE/\Aside0 (earOkW.l1 kq l2 aj (rd_L2 l1 aa) l1 (l1.length:Int) aa ak (ak.length:Int) aE ag ai af 0=some r)/\Aside0 (kq<=bX)/\Aside0 (Kd.R Kd.bool 4 w' w.heap.size (fun _=>True) a7 aj)/\Aside0 (w'.heap[az]? =some (.cells #[.int .i64 ag,(.slice aN ai.length aO)] 31 (0,0)))/\Aside0 (w'.heap[ax]? =some (mObj af))/\Aside0 (Below w.heap.size w w'))
                case atStart=>exact⟨(0),(ce_9),H',⟨Nat.le_refl _⟩,⟨G.cR ae.out⟩,⟨G.cb ab.out⟩,⟨G.cb ac.out⟩,⟨G.cB HB.out⟩⟩
                case round=>
                 clear H';(try clear c2 dr);obtain⟨aE,rfl,HA,b5,ae,ab,ac,HB⟩:=hrel;cases gk with
                 |zero=>exact absurd HA.out (by simp[earOkW.l1])
                 |succ k6=>
                  have H:=HA.out;clear HA;simp only[earOkW.l1] at H
                  by_cases cp:aE<(ak.length:Int)
                  ·rw[if_pos cp] at H;have ej:=decide_eq_true cp;clear cp
                   obtain⟨ir,H⟩:=G.dp H
                   obtain⟨iu,H⟩:=G.dp H
                   obtain⟨iv,H⟩:=G.dp H
                   obtain⟨iw,H⟩:=G.dp H;obtain⟨eR,cJ⟩:∃b_:Bool,b_=(rdOf false aj (rd ak aE)):=⟨_,rfl⟩;replace H:(if eR=true then(some false) else(earOkW.l1 k6 l2 aj (rd_L2 l1 aa) l1 (l1.length:Int) aa ak (ak.length:Int) (wrap64 (aE+1)) ag ai af 0))=some r:=by rw[←cJ] at H;exact H
                   have eo:=G.m cJ;clear cJ
                   rcases G.bc H with⟨h_,H_⟩|⟨h_,H_⟩<;> (subst h_;clear H;have H:=H_;clear H_)
                   ·obtain rfl:=Option.some.inj H;have bB:0<=(aE:Int):=G.da;have bC:aE<(ak.length:Int):=G.da;obtain⟨fu,dI,bh⟩:=Kd.at_int ei.out aE bB bC;cases dI;replace bh:=G.hx HB bh;replace bB:=eq_true bB;replace bC:=eq_true bC;obtain⟨i5,i6,fO⟩:=Kd.R_slice ae.out;subst fO;have bD:0<=((rd ak aE):Int):=G.da;have bE:(rd ak aE)<(aj.length:Int):=G.da;obtain⟨fv,dJ,bY⟩:=Kd.at_bool (Kd.R_reads' ae.out).2.2 (rd ak aE) bD bE;(try rw[←eo.out] at bY);cases dJ;replace bD:=eq_true bD;replace bE:=eq_true bE
                    go_wp2
                    go_ret
                    exact⟨ce_0,G.cB HB.out⟩
                   ·have H':=G.m H;clear H;have bB:0<=(aE:Int):=G.da;have bC:aE<(ak.length:Int):=G.da;obtain⟨fu,dI,bh⟩:=Kd.at_int ei.out aE bB bC;cases dI;replace bh:=G.hx HB bh;replace bB:=eq_true bB;replace bC:=eq_true bC;obtain⟨i7,i8,fP⟩:=Kd.R_slice ae.out;subst fP;have bD:0<=((rd ak aE):Int):=G.da;have bE:(rd ak aE)<(aj.length:Int):=G.da;obtain⟨fv,dJ,bY⟩:=Kd.at_bool (Kd.R_reads' ae.out).2.2 (rd ak aE) bD bE;(try rw[←eo.out] at bY);cases dJ;replace bD:=eq_true bD;replace bE:=eq_true bE
                    go_wp2
                    go_roundg k6
                    case measure=>have:=bl.out;have:=bm.out;have:=ba.out;have:=bj.out;have:=bu.out;have:=b5.out;omega
                    case rel=>exact⟨(wrap64 (aE+1)),(ce_9),H',⟨by have:=bl.out;have:=bm.out;have:=ba.out;have:=bj.out;have:=bu.out;have:=b5.out;omega⟩,⟨G.cR ae.out⟩,⟨G.cb ab.out⟩,⟨G.cb ac.out⟩,⟨G.cB HB.out⟩⟩
                  ·rw[if_neg cp] at H;have ej:=decide_eq_false cp;clear cp;have H':=G.m H;clear H
                   go_wp2
                   go_loopg [14] k6 (fun kq g0 w'=>∃ (al:Int) (ao:List (S59)),g0= .int .i64 al/\Aside0 (earOkW.l2 kq l2 aj (rd_L2 l1 aa) al l1 (l1.length:Int) aa ag ai ao 0=some r)/\Aside0 (kq<=k6)/\Aside0 (Kd.R Kd.bool 4 w' w.heap.size (fun _=>True) a7 aj)/\Aside0 (w'.heap[az]? =some (.cells #[.int .i64 ag,(.slice aN ai.length aO)] 31 (0,0)))/\Aside0 (w'.heap[ax]? =some (mObj ao))/\Aside0 (Below w.heap.size w w'))
                   case atStart=>exact⟨(1),(af),(ce_9),H',⟨Nat.le_refl _⟩,⟨G.cR ae.out⟩,⟨G.cb ab.out⟩,⟨G.cb ac.out⟩,⟨G.cB HB.out⟩⟩
                   case round=>
                    clear H';(try clear ej);obtain⟨al,ao,rfl,HA,cU,ae,ab,ac,HB⟩:=hrel;cases gk with
                    |zero=>exact absurd HA.out (by simp[earOkW.l2])
                    |succ k7=>
                     have H:=HA.out;clear HA;simp only[earOkW.l2] at H
                     by_cases cq:al<((rd_L2 l1 aa).length:Int)
                     ·rw[if_pos cq] at H;have eq:=decide_eq_true cq;clear cq;obtain⟨aH,bK⟩:∃j_:Int,(wrap64 (al - 1))=j_:=⟨_,rfl⟩;replace H:(if 0<=(aH) then(if(aH)<((rd_L2 l1 aa).length:Int) then(if 0<=al then((impl_tie.f (rd (rd_L2 l1 aa) (aH)) (rd (rd_L2 l1 aa) al)).bind fun a5=>(if tHas ao a5.1 a5.2=true then(some false) else(earOkW.l2 k7 l2 aj (rd_L2 l1 aa) (wrap64 (al+1)) l1 (l1.length:Int) aa ag ai (ao++[⟨a5.1,a5.2⟩]) 0))) else(none)) else(none)) else(none))=some r:=by first|(rw[bK] at H;exact H)|(simp only[bK] at H⊢;exact H)
                      have g2:(IntKind.i64.wrap (al - 1))=aH:=(i64_w _).trans bK
                      obtain⟨ix,H⟩:=G.dp H
                      obtain⟨iy,H⟩:=G.dp H
                      obtain⟨iz,H⟩:=G.dp H;obtain⟨⟨aV,aW⟩,ev,H⟩:=G.bi H;(try dsimp only at H)
                      by_cases dt:tHas ao aV aW=true
                      ·rw[if_pos dt] at H;obtain rfl:=Option.some.inj H;try go_wp2
                       replace ae:=G.m (Kd.R_drew ae.out);replace ab:=G.m (blk_drew ab.out);replace ac:=G.m (blk_drew ac.out);replace HB:=G.m (below_drew1 HB.out);have bF:0<=((aH):Int):=G.da;have bG:(aH)<((rd_L2 l1 aa).length:Int):=G.da;obtain⟨cL,dK,aS⟩:=Kd.at_int aP.out (aH) bF bG;have av:=aS;obtain rfl:aK=cL:=(by injection dK);replace aS:=G.hx HB aS;replace bF:=eq_true bF;replace bG:=eq_true bG;have bH:0<=(al:Int):=G.da;have bI:al<((rd_L2 l1 aa).length:Int):=G.da;obtain⟨cM,dL,aT⟩:=Kd.at_int aP.out al bH bI;have aw:=aT;obtain rfl:aK=cM:=(by injection dL);replace aT:=G.hx HB aT;replace bH:=eq_true bH;replace bI:=eq_true bI;refine start_ (n:=12) (S:=fun w'=>w'.cell? (aK.add ((aH)).toNat)=some (.int .i64 (rd (rd_L2 l1 aa) (aH)))/\w'.cell? (aK.add (al).toNat)=some (.int .i64 (rd (rd_L2 l1 aa) al))) (ds:=[]) (G.fl 12 0) (ce_11) rfl (ce_11) ⟨(G.hx HB av),(G.hx HB aw)⟩ (fun hHeld=> ?_);refine with_tabW earOkW.tab29 earOkW.bits29 (fun HT_ HW_=> ?_);generalize wr.drew=jh at ae ab ac HB aS aT hHeld⊢;refine G.pu 0 113 1 ?_;refine G.pu 1 114 3 ?_;refine G.pu 2 115 7 ?_;refine G.pu 3 116 15 ?_;refine G.pu 5 118 47 ?_;refine G.pu 6 119 111 ?_;refine G.pu 7 120 239 ?_;refine G.ta2 4 117 255 ?_;refine G.ta2 8 121 511 ?_;refine join_ (σ:=Nat) 1 (G.fl 12 2047) (fun s_=>[(122,.agg #[.int .i64 aV,.int .i64 aW]),(15,.pointer (some ⟨s_,0,none⟩))]) (fun s_ w'=>(w'.cell? (aK.add ((aH)).toNat)=some (.int .i64 (rd (rd_L2 l1 aa) (aH)))/\w'.cell? (aK.add (al).toNat)=some (.int .i64 (rd (rd_L2 l1 aa) al)))/\(Kd.R Kd.bool 4 w' w.heap.size (fun _=>True) a7 aj)/\(w'.heap[az]? =some (.cells #[.int .i64 ag,.slice aN ai.length aO] 31 (0,0)))/\(w'.heap[ax]? =some (mObj ao))/\(w'.heap[s_]? =some (.cells #[.int .i64 0,.int .i64 0] 59 (0,0)))/\(w.heap.size<=s_)/\(w.heap.size<=s_)/\(az≠s_)/\(s_≠az)/\(ax≠s_)/\(s_≠ax)/\(Below w.heap.size w w')) ?_ ?_;rotate_left
                       ·intro hCont;refine two_ (i:=9) (j:=10) (Ni:=some 122) (Nj:=some 15) (G.fl 12 1023) (G.fl 12 1535) rfl rfl rfl rfl (two_of HT_.out (ce_11)) (by decide) (by decide) (fun K hK=> ?_) (fun K hK=> ?_)
                        ·skip;refine goes_ Try.func53 (ce_11) rfl #[.int .i64 (rd (rd_L2 l1 aa) (aH)),.int .i64 (rd (rd_L2 l1 aa) al)] (by rfl) rfl rfl (ce_1) ?_;with_reducible refine(impl_tie.calls (rd (rd_L2 l1 aa) (aH)) (rd (rd_L2 l1 aa) al) aV aW _ ev.out).mono ?_
                         rintro e g3 ⟨rfl,hb⟩;refine⟨_,rfl,?_⟩;replace ae:=G.rb ae hb;replace ab:=G.bb ab hb;replace ac:=G.bb ac hb;replace HB:=G.bs HB hb;(try clear hb hk);refine hK.out _ _ ⟨(G.hx HB av),(G.hx HB aw)⟩ (fun hHeld=> ?_);clear hK K;refine G.no 122 ?_;refine one_ (i:=10) (N:=some 15) (G.fl 12 2047) rfl rfl (one_of HT_.out (ce_11)) (by decide) (fun K hK=> ?_);refine box_step ?hg (N:=15) ?hd (cs:= #[.int .i64 0,.int .i64 0]) (t:=59) ?hr ?_;(case hd=>rfl);(case hg=>rfl);(case hr=>first|(go_simp;done)|(go_simp;rfl));intro ah hg g4 hbox hb;have n0:=G.rb ae hb;have n1:=G.bb ab hb;have n2:=G.bb ac hb;have n3:=G.bs HB hb;have n4:=G.m (hbox);have n5:=G.m (ce_10:w.heap.size<=ah);have n6:=G.m (ce_10:w.heap.size<=ah);have n7:=G.m (ce_3:az≠ah);have n8:=G.m (ce_4:ah≠az);have n9:=G.m (ce_5:ax≠ah);have bo:=G.m (ce_6:ah≠ax);clear ae ab ac HB;revert n0 n1 n2 n3 n4 n5 n6 n7 n8 n9 bo;intro ae ab ac HB aI am a6 aB aF aq aG;clear hb hbox hg;refine hK.out _ _ ⟨(G.hx HB av),(G.hx HB aw)⟩ (fun hHeld=> ?_);clear hK K;refine G.no 15 ?_;exact norm_ (by simp only[putAll,Act.put,List.setIfInBounds_toArray,List.set_cons_zero,List.set_cons_succ]) (hCont (ah) _ ⟨hHeld,(G.cR ae.out),(G.cb ab.out),(G.cb ac.out),(G.cb aI.out),am.out,a6.out,aB.out,aF.out,aq.out,aG.out,(G.cB HB.out)⟩)
                        ·skip;refine box_step ?hg (N:=15) ?hd (cs:= #[.int .i64 0,.int .i64 0]) (t:=59) ?hr ?_;(case hd=>rfl);(case hg=>rfl);(case hr=>first|(go_simp;done)|(go_simp;rfl));intro ah hg g3 hbox hb;have n0:=G.rb ae hb;have n1:=G.bb ab hb;have n2:=G.bb ac hb;have n3:=G.bs HB hb;have n4:=G.m (hbox);have n5:=G.m (ce_10:w.heap.size<=ah);have n6:=G.m (ce_10:w.heap.size<=ah);have n7:=G.m (ce_3:az≠ah);have n8:=G.m (ce_4:ah≠az);have n9:=G.m (ce_5:ax≠ah);have bo:=G.m (ce_6:ah≠ax);clear ae ab ac HB;revert n0 n1 n2 n3 n4 n5 n6 n7 n8 n9 bo;intro ae ab ac HB aI am a6 aB aF aq aG;clear hb hbox hg;refine hK.out _ _ ⟨(G.hx HB av),(G.hx HB aw)⟩ (fun hHeld=> ?_);clear hK K;refine G.no 15 ?_;refine one_ (i:=9) (N:=some 122) (G.fl 12 2047) rfl rfl (one_of HT_.out (ce_11)) (by decide) (fun K hK=> ?_);refine goes_ Try.func53 (ce_11) rfl #[.int .i64 (rd (rd_L2 l1 aa) (aH)),.int .i64 (rd (rd_L2 l1 aa) al)] (by rfl) rfl rfl (ce_1) ?_;with_reducible refine(impl_tie.calls (rd (rd_L2 l1 aa) (aH)) (rd (rd_L2 l1 aa) al) aV aW _ ev.out).mono ?_
                         rintro e g4 ⟨rfl,hb⟩;refine⟨_,rfl,?_⟩;replace ae:=G.rb ae hb;replace ab:=G.bb ab hb;replace ac:=G.bb ac hb;replace aI:=G.bb aI hb;replace HB:=G.bs HB hb;(try clear hb hk);refine hK.out _ _ ⟨(G.hx HB av),(G.hx HB aw)⟩ (fun hHeld=> ?_);clear hK K;refine G.no 122 ?_;exact norm_ (by simp only[putAll,Act.put,List.setIfInBounds_toArray,List.set_cons_zero,List.set_cons_succ]) (hCont (ah) _ ⟨hHeld,(G.cR ae.out),(G.cb ab.out),(G.cb ac.out),(G.cb aI.out),am.out,a6.out,aB.out,aF.out,aq.out,aG.out,(G.cB HB.out)⟩)
                       rintro ah bq ⟨hS_,du,dv,dw,dx,dy,dz,dA,dB,dC,dD,cj⟩;have n0:Aside0 (Kd.R Kd.bool 4 bq w.heap.size (fun _=>True) a7 aj):=⟨du⟩;have n1:Aside0 (bq.heap[az]? =some (.cells #[.int .i64 ag,.slice aN ai.length aO] 31 (0,0))):=⟨dv⟩;have n2:Aside0 (bq.heap[ax]? =some (mObj ao)):=⟨dw⟩;have n3:Aside0 (bq.heap[ah]? =some (.cells #[.int .i64 0,.int .i64 0] 59 (0,0))):=⟨dx⟩;have n4:Aside0 (w.heap.size<=ah):=⟨dy⟩;have n5:Aside0 (w.heap.size<=ah):=⟨dz⟩;have n6:Aside0 (az≠ah):=⟨dA⟩;have n7:Aside0 (ah≠az):=⟨dB⟩;have n8:Aside0 (ax≠ah):=⟨dC⟩;have n9:Aside0 (ah≠ax):=⟨dD⟩;have bo:Aside0 (Below w.heap.size w bq):=⟨cj⟩;clear ae ab ac HB;clear du dv dw dx dy dz dA dB dC dD cj;revert n0 n1 n2 n3 n4 n5 n6 n7 n8 n9 bo;intro ae ab ac aI am a6 aB aF aq aG HB;have hHeld:bq.cell? (aK.add ((aH)).toNat)=some (.int .i64 (rd (rd_L2 l1 aa) (aH)))/\bq.cell? (aK.add (al).toNat)=some (.int .i64 (rd (rd_L2 l1 aa) al)):=hS_;refine norm_ (a':= ?_) ?_ ?_;rotate_left
                       ·simp only[putAll,Act.put,List.setIfInBounds_toArray,List.set_cons_zero,List.set_cons_succ];rfl
                       refine one_ (i:=11) (N:=none) (G.fl 12 4095) rfl rfl (one_of HT_.out (ce_11)) (by decide) (fun K hK=> ?_);have i9:bq.cell? ⟨ah,0,none⟩=some (.int .i64 0):=G.z aI 0;have iA:=blk_frozen aI.out 0;have ga:=aB.out;have gb:=aq.out;have gc:=aF.out;have ge:=aG.out;have i_:bq.cell? ⟨ah,1,none⟩=some (.int .i64 0):=G.z aI 1;have iB:=blk_frozen aI.out 1;have gf:=aB.out;have gg:=aq.out;have gh:=aF.out;have gi:=aG.out;refine skip_ (w1:= ?_) (by rfl) rfl ?_ ?_;rotate_left
                       ·go_simp
                        rfl
                       refine hK.out _ _ ⟨((cell_far (p:=⟨ah,_,none⟩) (G.nl av am.out) _).trans (((cell_far (p:=⟨ah,_,none⟩) (G.nl av am.out) _).trans (hHeld.1)))),((cell_far (p:=⟨ah,_,none⟩) (G.nl aw am.out) _).trans (((cell_far (p:=⟨ah,_,none⟩) (G.nl aw am.out) _).trans (hHeld.2))))⟩ (fun hHeld=> ?_);clear hK K;refine done_ (done_of HT_.out (ce_11)) ?_;have iC:=aU.out;have iD:=aR.out;have iE:=aq.out;have iF:=aG.out;have iG:=aF.out;have iH:=aB.out;have⟨gj,gl,gm,gn⟩:=G.d2 (w:=bq) aI
                       go_wp2_with (first|(((with_reducible refine G.h 125 rfl ?_);refine mAsked 125 (g:=ax) (l:=ao) (x0:=aV) (x1:=aW) (b:=true) (mFar (mFar ac.out aq.out _) aq.out _) dt ?_)))
                       go_ret
                       exact⟨by first|rfl|(simp[errW_none,errW_some]<;>rfl)|(simp only[←aZ,←bK];first|rfl|(simp[errW_none,errW_some]<;>rfl))|(simp[*,errW_none,errW_some]<;>rfl),G.cB HB.out⟩
                      ·rw[if_neg dt] at H;have H':=G.m H;clear H;try go_wp2
                       replace ae:=G.m (Kd.R_drew ae.out);replace ab:=G.m (blk_drew ab.out);replace ac:=G.m (blk_drew ac.out);replace HB:=G.m (below_drew1 HB.out);have bF:0<=((aH):Int):=G.da;have bG:(aH)<((rd_L2 l1 aa).length:Int):=G.da;obtain⟨cL,dK,aS⟩:=Kd.at_int aP.out (aH) bF bG;have av:=aS;obtain rfl:aK=cL:=(by injection dK);replace aS:=G.hx HB aS;replace bF:=eq_true bF;replace bG:=eq_true bG;have bH:0<=(al:Int):=G.da;have bI:al<((rd_L2 l1 aa).length:Int):=G.da;obtain⟨cM,dL,aT⟩:=Kd.at_int aP.out al bH bI;have aw:=aT;obtain rfl:aK=cM:=(by injection dL);replace aT:=G.hx HB aT;replace bH:=eq_true bH;replace bI:=eq_true bI;refine start_ (n:=12) (S:=fun w'=>w'.cell? (aK.add ((aH)).toNat)=some (.int .i64 (rd (rd_L2 l1 aa) (aH)))/\w'.cell? (aK.add (al).toNat)=some (.int .i64 (rd (rd_L2 l1 aa) al))) (ds:=[]) (G.fl 12 0) (ce_11) rfl (ce_11) ⟨(G.hx HB av),(G.hx HB aw)⟩ (fun hHeld=> ?_);refine with_tabW earOkW.tab29 earOkW.bits29 (fun HT_ HW_=> ?_);generalize wr.drew=ji at ae ab ac HB aS aT hHeld⊢;refine G.pu 0 113 1 ?_;refine G.pu 1 114 3 ?_;refine G.pu 2 115 7 ?_;refine G.pu 3 116 15 ?_;refine G.pu 5 118 47 ?_;refine G.pu 6 119 111 ?_;refine G.pu 7 120 239 ?_;refine G.ta2 4 117 255 ?_;refine G.ta2 8 121 511 ?_;refine join_ (σ:=Nat) 1 (G.fl 12 2047) (fun s_=>[(122,.agg #[.int .i64 aV,.int .i64 aW]),(15,.pointer (some ⟨s_,0,none⟩))]) (fun s_ w'=>(w'.cell? (aK.add ((aH)).toNat)=some (.int .i64 (rd (rd_L2 l1 aa) (aH)))/\w'.cell? (aK.add (al).toNat)=some (.int .i64 (rd (rd_L2 l1 aa) al)))/\(Kd.R Kd.bool 4 w' w.heap.size (fun _=>True) a7 aj)/\(w'.heap[az]? =some (.cells #[.int .i64 ag,.slice aN ai.length aO] 31 (0,0)))/\(w'.heap[ax]? =some (mObj ao))/\(w'.heap[s_]? =some (.cells #[.int .i64 0,.int .i64 0] 59 (0,0)))/\(w.heap.size<=s_)/\(w.heap.size<=s_)/\(az≠s_)/\(s_≠az)/\(ax≠s_)/\(s_≠ax)/\(Below w.heap.size w w')) ?_ ?_;rotate_left
                       ·intro hCont;refine two_ (i:=9) (j:=10) (Ni:=some 122) (Nj:=some 15) (G.fl 12 1023) (G.fl 12 1535) rfl rfl rfl rfl (two_of HT_.out (ce_11)) (by decide) (by decide) (fun K hK=> ?_) (fun K hK=> ?_)
                        ·skip;refine goes_ Try.func53 (ce_11) rfl #[.int .i64 (rd (rd_L2 l1 aa) (aH)),.int .i64 (rd (rd_L2 l1 aa) al)] (by rfl) rfl rfl (ce_1) ?_;with_reducible refine(impl_tie.calls (rd (rd_L2 l1 aa) (aH)) (rd (rd_L2 l1 aa) al) aV aW _ ev.out).mono ?_
                         rintro e g5 ⟨rfl,hb⟩;refine⟨_,rfl,?_⟩;replace ae:=G.rb ae hb;replace ab:=G.bb ab hb;replace ac:=G.bb ac hb;replace HB:=G.bs HB hb;(try clear hb hk);refine hK.out _ _ ⟨(G.hx HB av),(G.hx HB aw)⟩ (fun hHeld=> ?_);clear hK K;refine G.no 122 ?_;refine one_ (i:=10) (N:=some 15) (G.fl 12 2047) rfl rfl (one_of HT_.out (ce_11)) (by decide) (fun K hK=> ?_);refine box_step ?hg (N:=15) ?hd (cs:= #[.int .i64 0,.int .i64 0]) (t:=59) ?hr ?_;(case hd=>rfl);(case hg=>rfl);(case hr=>first|(go_simp;done)|(go_simp;rfl));intro ah hg g6 hbox hb;have n0:=G.rb ae hb;have n1:=G.bb ab hb;have n2:=G.bb ac hb;have n3:=G.bs HB hb;have n4:=G.m (hbox);have n5:=G.m (ce_10:w.heap.size<=ah);have n6:=G.m (ce_10:w.heap.size<=ah);have n7:=G.m (ce_3:az≠ah);have n8:=G.m (ce_4:ah≠az);have n9:=G.m (ce_5:ax≠ah);have bo:=G.m (ce_6:ah≠ax);clear ae ab ac HB;revert n0 n1 n2 n3 n4 n5 n6 n7 n8 n9 bo;intro ae ab ac HB aI am a6 aB aF aq aG;clear hb hbox hg;refine hK.out _ _ ⟨(G.hx HB av),(G.hx HB aw)⟩ (fun hHeld=> ?_);clear hK K;refine G.no 15 ?_;exact norm_ (by simp only[putAll,Act.put,List.setIfInBounds_toArray,List.set_cons_zero,List.set_cons_succ]) (hCont (ah) _ ⟨hHeld,(G.cR ae.out),(G.cb ab.out),(G.cb ac.out),(G.cb aI.out),am.out,a6.out,aB.out,aF.out,aq.out,aG.out,(G.cB HB.out)⟩)
                        ·skip;refine box_step ?hg (N:=15) ?hd (cs:= #[.int .i64 0,.int .i64 0]) (t:=59) ?hr ?_;(case hd=>rfl);(case hg=>rfl);(case hr=>first|(go_simp;done)|(go_simp;rfl));intro ah hg g5 hbox hb;have n0:=G.rb ae hb;have n1:=G.bb ab hb;have n2:=G.bb ac hb;have n3:=G.bs HB hb;have n4:=G.m (hbox);have n5:=G.m (ce_10:w.heap.size<=ah);have n6:=G.m (ce_10:w.heap.size<=ah);have n7:=G.m (ce_3:az≠ah);have n8:=G.m (ce_4:ah≠az);have n9:=G.m (ce_5:ax≠ah);have bo:=G.m (ce_6:ah≠ax);clear ae ab ac HB;revert n0 n1 n2 n3 n4 n5 n6 n7 n8 n9 bo;intro ae ab ac HB aI am a6 aB aF aq aG;clear hb hbox hg;refine hK.out _ _ ⟨(G.hx HB av),(G.hx HB aw)⟩ (fun hHeld=> ?_);clear hK K;refine G.no 15 ?_;refine one_ (i:=9) (N:=some 122) (G.fl 12 2047) rfl rfl (one_of HT_.out (ce_11)) (by decide) (fun K hK=> ?_);refine goes_ Try.func53 (ce_11) rfl #[.int .i64 (rd (rd_L2 l1 aa) (aH)),.int .i64 (rd (rd_L2 l1 aa) al)] (by rfl) rfl rfl (ce_1) ?_;with_reducible refine(impl_tie.calls (rd (rd_L2 l1 aa) (aH)) (rd (rd_L2 l1 aa) al) aV aW _ ev.out).mono ?_
                         rintro e g6 ⟨rfl,hb⟩;refine⟨_,rfl,?_⟩;replace ae:=G.rb ae hb;replace ab:=G.bb ab hb;replace ac:=G.bb ac hb;replace aI:=G.bb aI hb;replace HB:=G.bs HB hb;(try clear hb hk);refine hK.out _ _ ⟨(G.hx HB av),(G.hx HB aw)⟩ (fun hHeld=> ?_);clear hK K;refine G.no 122 ?_;exact norm_ (by simp only[putAll,Act.put,List.setIfInBounds_toArray,List.set_cons_zero,List.set_cons_succ]) (hCont (ah) _ ⟨hHeld,(G.cR ae.out),(G.cb ab.out),(G.cb ac.out),(G.cb aI.out),am.out,a6.out,aB.out,aF.out,aq.out,aG.out,(G.cB HB.out)⟩)
                       rintro ah br ⟨hS_,du,dv,dw,dx,dy,dz,dA,dB,dC,dD,cj⟩;have n0:Aside0 (Kd.R Kd.bool 4 br w.heap.size (fun _=>True) a7 aj):=⟨du⟩;have n1:Aside0 (br.heap[az]? =some (.cells #[.int .i64 ag,.slice aN ai.length aO] 31 (0,0))):=⟨dv⟩;have n2:Aside0 (br.heap[ax]? =some (mObj ao)):=⟨dw⟩;have n3:Aside0 (br.heap[ah]? =some (.cells #[.int .i64 0,.int .i64 0] 59 (0,0))):=⟨dx⟩;have n4:Aside0 (w.heap.size<=ah):=⟨dy⟩;have n5:Aside0 (w.heap.size<=ah):=⟨dz⟩;have n6:Aside0 (az≠ah):=⟨dA⟩;have n7:Aside0 (ah≠az):=⟨dB⟩;have n8:Aside0 (ax≠ah):=⟨dC⟩;have n9:Aside0 (ah≠ax):=⟨dD⟩;have bo:Aside0 (Below w.heap.size w br):=⟨cj⟩;clear ae ab ac HB;clear du dv dw dx dy dz dA dB dC dD cj;revert n0 n1 n2 n3 n4 n5 n6 n7 n8 n9 bo;intro ae ab ac aI am a6 aB aF aq aG HB;have hHeld:br.cell? (aK.add ((aH)).toNat)=some (.int .i64 (rd (rd_L2 l1 aa) (aH)))/\br.cell? (aK.add (al).toNat)=some (.int .i64 (rd (rd_L2 l1 aa) al)):=hS_;refine norm_ (a':= ?_) ?_ ?_;rotate_left
                       ·simp only[putAll,Act.put,List.setIfInBounds_toArray,List.set_cons_zero,List.set_cons_succ];rfl
                       refine one_ (i:=11) (N:=none) (G.fl 12 4095) rfl rfl (one_of HT_.out (ce_11)) (by decide) (fun K hK=> ?_);have ja:br.cell? ⟨ah,0,none⟩=some (.int .i64 0):=G.z aI 0;have iI:=blk_frozen aI.out 0;have gp:=aB.out;have gq:=aq.out;have gr:=aF.out;have gt:=aG.out;have jb:br.cell? ⟨ah,1,none⟩=some (.int .i64 0):=G.z aI 1;have iJ:=blk_frozen aI.out 1;have gu:=aB.out;have gv:=aq.out;have gw:=aF.out;have gx:=aG.out;refine skip_ (w1:= ?_) (by rfl) rfl ?_ ?_;rotate_left
                       ·go_simp
                        rfl
                       refine hK.out _ _ ⟨((cell_far (p:=⟨ah,_,none⟩) (G.nl av am.out) _).trans (((cell_far (p:=⟨ah,_,none⟩) (G.nl av am.out) _).trans (hHeld.1)))),((cell_far (p:=⟨ah,_,none⟩) (G.nl aw am.out) _).trans (((cell_far (p:=⟨ah,_,none⟩) (G.nl aw am.out) _).trans (hHeld.2))))⟩ (fun hHeld=> ?_);clear hK K;refine done_ (done_of HT_.out (ce_11)) ?_;have iK:=aU.out;have iL:=aR.out;have iM:=aq.out;have iN:=aG.out;have iO:=aF.out;have iP:=aB.out;have⟨gy,gz,gA,gB⟩:=G.d2 (w:=br) aI
                       go_wp2_with (first|(((with_reducible refine G.h 125 rfl ?_);refine mAsked 125 (g:=ax) (l:=ao) (x0:=aV) (x1:=aW) (b:=false) (mFar (mFar ac.out aq.out _) aq.out _) (Bool.eq_false_iff.mpr dt) ?_))|((at_mapUpdate;refine mTake (g:=ax) (l:=ao) (x0:=aV) (x1:=aW) (mFar (mFar ac.out aq.out _) aq.out _) (Bool.eq_false_iff.mpr dt) ?_;intro w_m hm_ hgm_;replace ae:=G.m (Kd.R_mono (Kd.R_grown (Kd.R_far (p:=⟨ah,1,none⟩) (Kd.R_far (p:=⟨ah,0,none⟩) (mTypes (Kd.R_types ae.out aI.out (by decide)) ac.out) (fun _ hk=>hk.1.2) (.int .i64 aV)) (fun _ hk=>hk.1.2) (.int .i64 aW)) hgm_ (fun k_ hk e_=>hk.2 (Option.some.inj e_))) (fun _ _=>trivial));replace ab:=G.m (blk_grown (blk_far (blk_far ab.out aB.out _) aB.out _) hgm_ (fun e_=>aR.out (Option.some.inj e_)));replace ac:=G.m hm_;replace HB:=G.m (mBelow (G.cB HB.out) hgm_ eY.out);clear hm_ hgm_)))
                       go_roundg k7
                       case measure=>have:=bl.out;have:=bm.out;have:=ba.out;have:=bj.out;have:=bu.out;have:=b5.out;have:=cU.out;omega
                       case rel=>exact⟨(wrap64 (al+1)),(ao++[⟨aV,aW⟩]),(ce_9),H',⟨by have:=bl.out;have:=bm.out;have:=ba.out;have:=bj.out;have:=bu.out;have:=b5.out;have:=cU.out;omega⟩,⟨G.cR ae.out⟩,⟨G.cb ab.out⟩,⟨G.cb ac.out⟩,⟨G.cB HB.out⟩⟩
                     ·rw[if_neg cq] at H;have eq:=decide_eq_false cq;clear cq;have H':=G.m H;clear H
                      go_wp2
                      go_loopg [130] k7 (fun kq fQ w'=>∃ (bk:List Bool) (aD:Int),fQ= .int .i64 aD/\Aside0 (earOkW.l3 kq l2 bk l1 (l1.length:Int) aa (rd_L2 l1 aa) ((rd_L2 l1 aa).length:Int) aD ag ai ao 0=some r)/\Aside0 (kq<=k7)/\Aside0 (Kd.R Kd.bool 4 w' w.heap.size (fun _=>True) a7 bk)/\Aside0 (w'.heap[az]? =some (.cells #[.int .i64 ag,(.slice aN ai.length aO)] 31 (0,0)))/\Aside0 (w'.heap[ax]? =some (mObj ao))/\Aside0 (Below w.heap.size w w'))
                      case atStart=>exact⟨(aj),(0),(ce_9),H',⟨Nat.le_refl _⟩,⟨G.cR ae.out⟩,⟨G.cb ab.out⟩,⟨G.cb ac.out⟩,⟨G.cB HB.out⟩⟩
                      case round=>
                       clear H';(try clear eq);obtain⟨bk,aD,rfl,HA,eE,ae,ab,ac,HB⟩:=hrel;cases gk with
                       |zero=>exact absurd HA.out (by simp[earOkW.l3])
                       |succ k8=>
                        have H:=HA.out;clear HA;simp only[earOkW.l3] at H
                        by_cases cr:aD<((rd_L2 l1 aa).length:Int)
                        ·rw[if_pos cr] at H;have fw:=decide_eq_true cr;clear cr
                         obtain⟨g7,H⟩:=G.dp H
                         obtain⟨g8,H⟩:=G.dp H
                         obtain⟨g9,H⟩:=G.dp H
                         obtain⟨g_,H⟩:=G.dp H;obtain⟨dM,bT⟩:∃y_:List Bool,y_=(bk.set ((rd (rd_L2 l1 aa) aD):Int).toNat true):=⟨_,rfl⟩;replace H:(earOkW.l3 k8 l2 dM l1 (l1.length:Int) aa (rd_L2 l1 aa) ((rd_L2 l1 aa).length:Int) (wrap64 (aD+1)) ag ai ao 0)=some r:=G.y0 bT H
                         have fx:=G.m bT;clear bT;have H':=G.m H;clear H;have dN:0<=(aD:Int):=G.da;have dO:aD<((rd_L2 l1 aa).length:Int):=G.da;obtain⟨fy,fR,ct⟩:=Kd.at_int aP.out aD dN dO;obtain rfl:aK=fy:=(by injection fR);replace ct:=G.hx HB ct;replace dN:=eq_true dN;replace dO:=eq_true dO;have dP:0<=((rd (rd_L2 l1 aa) aD):Int):=G.da;have dQ:((rd (rd_L2 l1 aa) aD):Int)<((bk.length:Int):Int):=G.da;obtain⟨cS,fz,ew,ex,fA,iQ,ey⟩:=Kd.R_form ae.out (by omega);(first|cases ew|(injection ew with ea_ en_ ec_;(first|subst ea_|(injection ea_ with ea_;subst ea_));subst ec_;clear en_));have fB:=G.m ex;have iR:=G.m ey;clear ex fA ey;obtain⟨gC,gD⟩:=Kd.R_celln false ae.out ((rd (rd_L2 l1 aa) aD):Int) dP dQ;replace dP:=eq_true dP;replace dQ:=eq_true dQ;have cT:=Kd.R_putg ae.out ((rd (rd_L2 l1 aa) aD):Int) true
                         go_wp2_with (first|((with_reducible refine gate_store (t:=4) (p:=136) rfl ?_);refine store_event (t:=4) (p:=136) (v:= ?vo_w106) (w1:=(wr.setCell ⟨cS,((rd (rd_L2 l1 aa) aD):Int).toNat,none⟩ (.bool true))) ?hg ?ho ?hn ?hr ?_;(case ho=>rfl);(case hg=>rfl);(case hn=>rfl);(case hr=>first|(go_simp;done)|(go_simp;rfl));intro dR hw;have hg:wr.grownBy dR (some cS):=(by rw[hw];exact cT.2);have hp_:Kd.R Kd.bool 4 dR w.heap.size (fun _=>True) (.slice (some ⟨cS,0,none⟩) bk.length fz) dM:=(by rw[hw,fx.out];exact cT.1);clear cT;replace ab:=G.bg ab hg (Kd.R_ne ae.out ab.out (by decide));replace ac:=G.bg ac hg (mNe ae.out ac.out);replace ae:=G.m (hp_);replace HB:=G.m ((by rw[hw];exact below_set (HB.out) fB.out:Below w.heap.size w dR));clear hg hw hp_))
                         go_roundg k8
                         case measure=>have:=bl.out;have:=bm.out;have:=ba.out;have:=bj.out;have:=bu.out;have:=b5.out;have:=cU.out;have:=eE.out;omega
                         case rel=>exact⟨(dM),(wrap64 (aD+1)),(ce_9),H',⟨ce_2⟩,⟨G.cR ae.out⟩,⟨G.cb ab.out⟩,⟨G.cb ac.out⟩,⟨G.cB HB.out⟩⟩
                        ·rw[if_neg cr] at H;have fw:=decide_eq_false cr;clear cr;have H':=G.m H;clear H
                         go_wp2
                         go_roundg k8
                         case measure=>have:=bl.out;have:=bm.out;have:=ba.out;have:=bj.out;have:=bu.out;have:=b5.out;have:=cU.out;have:=eE.out;omega
                         case rel=>exact⟨(bk),(wrap64 (aa+1)),(ao),(ce_9),H',⟨ce_2⟩,⟨G.cR ae.out⟩,⟨G.cb ab.out⟩,⟨G.cb ac.out⟩,⟨G.cB HB.out⟩⟩
               ·obtain rfl:=Option.some.inj H
                go_wp2_with (first|((with_reducible refine gate_callee (f:=52) rfl ?_);refine goesL_ (some 94) rfl rfl Try.func52 (ce_11) rfl #[.slice A2 ak.length c2] rfl (G.ar) ?_;(with_reducible refine(impl_different.calls bX _ _ ak false _ ?side1 ?side2 fH.out).mono ?_);(case side1=>exact G.cC (Kd.C_below ei.out HB.out));(case side2=>exact fG.out);rintro e w' ⟨rfl,⟨nd,rfl⟩⟩;refine⟨_,rfl,?_⟩))
                go_ret
                exact⟨ce_0,G.cB HB.out⟩
      ·rw[if_neg ck] at H;have dW:=decide_eq_false ck;clear ck
       by_cases bJ:(af.length:Int)=(ai.length:Int)
       ·rw[if_pos bJ] at H;have eS:=beq_iff_eq.mpr bJ;have eT:=bne_eq_false_iff_eq.mpr bJ;clear bJ;obtain⟨cu,fS,H⟩:=G.bi H;(try dsimp only at H);obtain rfl:=Option.some.inj H;have hD:=aU.out;have hJ:=aR.out;have⟨fT,fU,fV,fW⟩:=G.d2 (w:=wr) ab;obtain⟨iS,iT,fC⟩:=Kd.R_slice ae.out;subst fC
        go_wp2_with (first|((with_reducible refine G.h 140 rfl ?_);refine mSize 140 (g:=ax) (l:=af) ac.out ?_)|(go_at_call 54;(with_reducible refine(slices_Contains_bool_bool.calls k2 _ _ aj false cu _ ?side1 ?side2 fS.out).mono ?_);(case side1=>exact G.cC (Kd.R_reads' ae.out).2.2);(case side2=>exact(Kd.R_reads' ae.out).2.1);rintro e w' ⟨rfl,⟨nd,rfl⟩⟩))
        go_ret
        exact⟨ce_7,G.cB HB.out⟩
       ·rw[if_neg bJ] at H;have eS:=beq_eq_false_iff_ne.mpr bJ;have eT:=bne_iff_ne.mpr bJ;obtain rfl:=Option.some.inj H;have hU:=aU.out;have hV:=aR.out;have⟨fX,fY,fZ,f2⟩:=G.d2 (w:=wr) ab
        go_wp2_with (first|((with_reducible refine G.h 140 rfl ?_);refine mSize 140 (g:=ax) (l:=af) ac.out ?_))
        go_ret
        exact⟨ce_7,G.cB HB.out⟩
end Go.Proofs.Ytgeonpciodepgaa.P
namespace Go.Proofs.Ytgeonpciodepgaa.P
set_option maxHeartbeats 8000000
set_option maxRecDepth 100000
open Go.RowKit Go.Proofs.YtgeonpciodepgaaW.PrintWords Go.Proofs.YtgeonpciodepgaaW.PrintLast Go.Proofs.YtgeonpciodepgaaW.PrintMore
attribute [local go_sem] max2_int min2_int max_two min_two max_three min_three max_four min_four   -- for this text's walks alone
def impl_EarOk.f (k:Nat) (ab:Int) (aa:List (S59)) (l1:List (List Int)):Option (Bool):=earOkW.f k ab aa l1 []
theorem impl_EarOk.calls (k:Nat) (ab:Int) (ac:Option Addr) (ae:Nat) (aa:List (S59)) (A1:Option Addr) (c1:Nat) (l1:List (List Int)) (r:Bool) (w:World) (af:Kd.C k59 w ac aa.length aa) (ag:aa.length<=ae) (hr1:Kd.C (Kd.slice 3 (Kd.int .i64)) w A1 l1.length l1) (ah:l1.length<=c1) (h:impl_EarOk.f k ab aa l1=some r):
 Calls Try.prog 19 #[.agg #[.int .i64 ab,.slice ac aa.length ae],.slice A1 l1.length c1] w fun e w'=>e= .returned (.bool r)/\Below w.heap.size w w':=earOkW.calls k ab ac ae aa A1 c1 l1 [] r w af ag hr1 ah h
def spec_l22Open.f (l0:List Int):Option (Bool):=if(l0.length:Int)>0 then(if 0<(l0.length:Int) then(if 0<=(wrap64 ((l0.length:Int) - 1)) then(if(wrap64 ((l0.length:Int) - 1))<(l0.length:Int) then(some ((rd l0 0) !=(rd l0 (wrap64 ((l0.length:Int) - 1))))) else(none)) else(none)) else(none)) else(some false)
theorem spec_l22Open.calls (A0:Option Addr) (c0:Nat) (l0:List Int) (r:Bool) (w:World) (ak:Kd.C (Kd.int .i64) w A0 l0.length l0) (al:l0.length<=c0) (h:spec_l22Open.f l0=some r):
  Calls Try.prog 83 #[.slice A0 l0.length c0] w fun e w'=>e= .returned (.bool r)/\Drawn0 w w':=by
 have am:=G.m ak;have aC:=G.m al;clear ak al;unfold spec_l22Open.f at h;have H:=h;clear h
 by_cases c2:(l0.length:Int)>0
 ·rw[if_pos c2] at H;have ao:=decide_eq_true c2;have ap:decide (0<l0.length)=true:=decide_eq_true (by omega);clear c2
  obtain⟨c3,H⟩:=G.ip H;have ay:=decide_eq_true c3;have az:decide (0<l0.length)=true:=decide_eq_true (by omega);clear c3;obtain⟨aa,ac⟩:∃j_:Int,(wrap64 ((l0.length:Int) - 1))=j_:=⟨_,rfl⟩;replace H:(if 0<=(aa) then(if(aa)<(l0.length:Int) then(some ((rd l0 0) !=(rd l0 (aa)))) else(none)) else(none))=some r:=by first|(rw[ac] at H;exact H)|(simp only[ac] at H⊢;exact H)
  have aw:(IntKind.i64.wrap ((l0.length:Int) - 1))=aa:=(i64_w _).trans ac
  obtain⟨aA,H⟩:=G.dp H
  obtain⟨aB,H⟩:=G.dp H;obtain rfl:=Option.some.inj H;have ae:0<=(0:Int):=(by omega);have af:0<(l0.length:Int):=G.da;obtain⟨ai,aq,ab⟩:=Kd.at_int am.out 0 ae af;cases aq;have ax:(0<l0.length)=True:=eq_true (by omega);(try rw[show((0:Int)).toNat=0 from rfl] at ab);(try rw[Addr.add_zero'] at ab);replace ae:=eq_true ae;replace af:=eq_true af;have ag:0<=((aa):Int):=G.da;have ah:(aa)<(l0.length:Int):=G.da;obtain⟨aj,au,av⟩:=Kd.at_int am.out (aa) ag ah;obtain rfl:ai=aj:=(by injection au);replace ag:=eq_true ag;replace ah:=eq_true ah
  go_enter Try.func83,Try.ntmps83
  go_wp2
  repeat(go_quiet (fail);try go_wp2)
  go_ret
  exact⟨by first|rfl|(simp;done)|(simp only[←ac]<;> (first|rfl|simp))|(simp[*];done),by repeat(first|exact Drawn0.refl _|apply Drawn0.step)⟩
 ·rw[if_neg c2] at H;have ao:=decide_eq_false c2;have ap:decide (0<l0.length)=false:=decide_eq_false (by omega);clear c2;obtain rfl:=Option.some.inj H
  go_enter Try.func83,Try.ntmps83
  go_wp2
  repeat(go_quiet (fail);try go_wp2)
  go_ret
  exact⟨by first|rfl|(simp;done)|(simp[*];done),by repeat(first|exact Drawn0.refl _|apply Drawn0.step)⟩
theorem cacO {p:Prop} (h:p:=by(try simp only[List.map_toArray,List.map_cons,List.map_nil]);first|done|(simp only[a_];rfl)|rfl|(simp only[List.length_drop,List.length_take];rfl)):p:=h
theorem cacP {p:Prop} (h:p:=by(try simp only[List.map_toArray,List.map_cons,List.map_nil]);first|done|(simp only[bH];rfl)|rfl|(simp only[List.length_drop,List.length_take];rfl)):p:=h
theorem cacN {p:Prop} (h:p:=by first|rfl|(simp[errW_none,errW_some]<;>rfl)|(simp[*,errW_none,errW_some]<;>rfl)):p:=h
theorem cacM {p:Prop} (h:p:=by have:=bI.out;have:=bJ.out;have:=bv.out;first|omega|exact Nat.le_refl _):p:=h
theorem cacJ {p:Prop} (h:p:=by first|rfl|(simp;done)|(simp[*];done)):p:=h
theorem cacL {p:Prop} (h:p:=by first|omega|exact Nat.le_refl _):p:=h
theorem cacK {p:Prop} (h:p:=by kernel_rfl):p:=h
attribute [local go_sem high] eqA59
mutual
def spec_l22Fresh.j0:Nat->List (S59)->List Int->List Int->Bool->Int->List (S59)->Option (Bool)
 |0,_,_,_,_,_,_=>none
 |k+1,x1,x2,x3,dP,aj,ak=>if dP=true then(some false) else(spec_l22Fresh.l0 k x1 x2 x3 0 aj ak)
def spec_l22Fresh.l0:Nat->List (S59)->List Int->List Int->Int->Int->List (S59)->Option (Bool)
 |0,_,_,_,_,_,_=>none
 |k+1,x1,x2,x3,al,aj,ak=>if al<(x3.length:Int) then(if al>0 then(spec_l22Fresh.j2 k x1 x2 x3 al (decide ((wrap64 (al+1))<(x3.length:Int))) aj ak) else(spec_l22Fresh.j2 k x1 x2 x3 al false aj ak)) else(some true)
def spec_l22Fresh.j2:Nat->List (S59)->List Int->List Int->Int->Bool->Int->List (S59)->Option (Bool)
 |0,_,_,_,_,_,_,_=>none
 |k+1,x1,x2,x3,al,dQ,aj,ak=>if 0<=al then(if al<(x3.length:Int) then((spec_l1Knot.f k aj ak (rd x3 al)).bind fun b1=>(if b1=true then(if dQ=true then((spec_l2Has.f k x2 (rd x3 al)).bind fun aW=>(if aW=true then(spec_l22Fresh.j3 k x1 x2 x3 al true aj ak) else(if al<=(x3.length:Int) then((spec_l2Has.f k (x3.take (al:Int).toNat) (rd x3 al)).bind fun aI=>(spec_l22Fresh.j3 k x1 x2 x3 al aI aj ak)) else(none)))) else(spec_l22Fresh.j3 k x1 x2 x3 al false aj ak)) else(spec_l22Fresh.j3 k x1 x2 x3 al true aj ak))) else(none)) else(none)
def spec_l22Fresh.j3:Nat->List (S59)->List Int->List Int->Int->Bool->Int->List (S59)->Option (Bool)
 |0,_,_,_,_,_,_,_=>none
 |k+1,x1,x2,x3,al,dL,aj,ak=>if dL=true then(some false) else(if al=0 then(spec_l22Fresh.l0 k x1 x2 x3 (wrap64 (al+1)) aj ak) else(if 0<=(wrap64 (al - 1)) then(if(wrap64 (al - 1))<(x3.length:Int) then(if 0<=al then(if al<(x3.length:Int) then((spec_NetHas.f k aj ak (rd x3 (wrap64 (al - 1))) (rd x3 al)).bind fun bc=>(if bc=true then(spec_l22Fresh.l1 k x1 x2 x3 al 0 aj ak) else(some false))) else(none)) else(none)) else(none)) else(none)))
def spec_l22Fresh.l1:Nat->List (S59)->List Int->List Int->Int->Int->Int->List (S59)->Option (Bool)
 |0,_,_,_,_,_,_,_=>none
 |k+1,x1,x2,x3,al,b7,aj,ak=>if b7<(x1.length:Int) then(if 0<=b7 then(if 0<=(wrap64 (al - 1)) then(if(wrap64 (al - 1))<(x3.length:Int) then(if 0<=al then(if al<(x3.length:Int) then((spec_l1Tie.f (rd x3 (wrap64 (al - 1))) (rd x3 al)).bind fun bK=>(if(((rd_T59 x1 b7).f0)==bK.1&&(((rd_T59 x1 b7).f1)==bK.2))=true then(some false) else(spec_l22Fresh.l1 k x1 x2 x3 al (wrap64 (b7+1)) aj ak))) else(none)) else(none)) else(none)) else(none)) else(none)) else(spec_l22Fresh.l0 k x1 x2 x3 (wrap64 (al+1)) aj ak)
end
def spec_l22Fresh.f (k:Nat) (ae:Int) (ac:List (S59)) (l1:List (S59)) (l2:List Int) (l3:List Int) (a4:Bool):Option (Bool):=if(l3.length:Int)<2 then(spec_l22Fresh.j0 k l1 l2 l3 true ae ac) else(if a4=true then((spec_l22Open.f l3).bind fun bd=>(if bd=true then(spec_l22Fresh.j0 k l1 l2 l3 true ae ac) else(if(l3.length:Int)<4 then(spec_l22Fresh.j0 k l1 l2 l3 true ae ac) else((spec_l22Open.f l3).bind fun aQ=>(if aQ=true then(spec_l22Fresh.j0 k l1 l2 l3 false ae ac) else(spec_l22Fresh.j0 k l1 l2 l3 (decide ((l3.length:Int)<4)) ae ac)))))) else(if 0<(l3.length:Int) then((spec_l2Has.f k l2 (rd l3 0)).bind fun bf=>(if bf=true then(if 0<=(wrap64 ((l3.length:Int) - 1)) then(if(wrap64 ((l3.length:Int) - 1))<(l3.length:Int) then((spec_l2Has.f k l2 (rd l3 (wrap64 ((l3.length:Int) - 1)))).bind fun aP=>(if aP=true then((spec_l22Open.f l3).bind fun aC=>(if aC=true then(spec_l22Fresh.j0 k l1 l2 l3 false ae ac) else(spec_l22Fresh.j0 k l1 l2 l3 (decide ((l3.length:Int)<4)) ae ac))) else(spec_l22Fresh.j0 k l1 l2 l3 true ae ac))) else(none)) else(none)) else(spec_l22Fresh.j0 k l1 l2 l3 true ae ac))) else(none)))
def spec_l22Fresh.T7:Bool×List (List Nat×List Nat):=(true,[([],[]),([],[]),([],[]),([1,2],[1,2]),([3],[3]),([0,4],[0,4]),([5],[5]),([6,5],[6]),([7],[7]),([8,7,7],[7,8]),([9],[9]),([9],[9]),([9],[9]),([11,12,9],[9,11,12]),([13,9],[9,13]),([10,14,9,9],[9,10,14]),([15,15,9],[9,15]),([16],[16]),([16],[16]),([17,18,16],[16,17,18]),([16],[16]),([16],[16]),([20,21,16],[16,20,21]),([22,16],[16,22]),([19,23,16,16],[16,19,23]),([16,24,9],[9,16,24]),([9,25,7],[7,9,25]),([7,26],[7,26])])
def spec_l22Fresh.B7:List Nat:=[0,0,0,6,14,31,63,127,255,511,1023,1023,1023,7167,15359,32767,65535,131071,131071,524287,131071,131071,3276799,7471103,16777215,33554431,67108863,134217727]
theorem spec_l22Fresh.tab7:rtab .any (opsOf Try.f45 7)=spec_l22Fresh.T7:=by kernel_rfl
theorem spec_l22Fresh.bits7:waitsOk spec_l22Fresh.T7.2 spec_l22Fresh.B7=true:=by kernel_rfl
def spec_l22Fresh.T10:Bool×List (List Nat×List Nat):=(true,[([],[]),([],[]),([],[]),([2],[2]),([1,3],[1,3]),([4],[4]),([],[]),([],[]),([6,7],[6,7]),([8],[8]),([0,5,9],[0,5,9]),([10],[10])])
def spec_l22Fresh.B10:List Nat:=[0,0,0,4,14,30,0,0,192,448,1023,2047]
theorem spec_l22Fresh.tab10:rtab .any (opsOf Try.f45 10)=spec_l22Fresh.T10:=by kernel_rfl
theorem spec_l22Fresh.bits10:waitsOk spec_l22Fresh.T10.2 spec_l22Fresh.B10=true:=by kernel_rfl
def spec_l22Fresh.T15:Bool×List (List Nat×List Nat):=(true,[([],[]),([],[]),([0,1],[0,1]),([2],[2]),([],[]),([],[]),([5],[5]),([4,6],[4,6]),([7],[7]),([],[]),([],[]),([9,10],[9,10]),([11],[11]),([8,12],[8,12]),([3,13],[3,13])])
def spec_l22Fresh.B15:List Nat:=[0,0,3,7,0,0,32,112,240,0,0,1536,3584,8176,16383]
theorem spec_l22Fresh.tab15:rtab .any (opsOf Try.f45 15)=spec_l22Fresh.T15:=by kernel_rfl
theorem spec_l22Fresh.bits15:waitsOk spec_l22Fresh.T15.2 spec_l22Fresh.B15=true:=by kernel_rfl
theorem spec_l22Fresh.calls (k:Nat) (ae:Int) (av:Option Addr) (aw:Nat) (ac:List (S59)) (A1:Option Addr) (c1:Nat) (l1:List (S59)) (A2:Option Addr) (c2:Nat) (l2:List Int) (A3:Option Addr) (c3:Nat) (l3:List Int) (a4:Bool) (r:Bool) (w:World) (cu:Kd.C k59 w av ac.length ac) (cv:ac.length<=aw) (hr1:Kd.C k59 w A1 l1.length l1) (dB:l1.length<=c1) (hr2:Kd.C (Kd.int .i64) w A2 l2.length l2) (dC:l2.length<=c2) (dD:Kd.C (Kd.int .i64) w A3 l3.length l3) (dE:l3.length<=c3) (h:spec_l22Fresh.f k ae ac l1 l2 l3 a4=some r):
  Calls Try.prog 45 #[.agg #[.int .i64 ae,.slice av ac.length aw],.slice A1 l1.length c1,.slice A2 l2.length c2,.slice A3 l3.length c3,.bool a4] w fun e w'=>e= .returned (.bool r)/\Below w.heap.size w w':=by
 have el:=Try.underlying31;have em:=Try.underlying59;have bn:=G.m cu;have bo:=G.m cv;clear cu cv;have dF:=G.m hr1;have eo:=G.m dB;clear hr1 dB;have bL:=G.m hr2;have bM:=G.m dC;clear hr2 dC;have ap:=G.m dD;have bN:=G.m dE;clear dD dE;have HB:=G.m (Below.refl w.heap.size w);unfold spec_l22Fresh.f at h;have H:=h;clear h;have df:=G.m H;clear H
 go_enter Try.func45,Try.ntmps45
 go_upto_region 1 with(first|((with_reducible refine G.h 5 rfl ?_);(try(refine gate_guard (by rfl) ?_;dsimp only));refine G.be 5 #[.int .i64 ae,.slice av ac.length aw] 31 ?_;intro ao hg w7 hbox hb;have ab:=G.m (hbox);have dZ:=G.m ((by rw[hg];exact(below_size (G.cB HB.out)):w.heap.size<=ao));have d7:=G.m ((by rw[hg];exact(below_size (G.cB HB.out)):w.heap.size<=ao));replace HB:=G.bs HB hb;clear hb hbox hg))
 (try simp only[Act.put,List.setIfInBounds_toArray,List.set_cons_zero,List.set_cons_succ])
 go_cut [61] (fun dR wc=>∃ (kq:Nat) (bS:Bool),dR= .bool bS/\Aside0 (spec_l22Fresh.j0 kq l1 l2 l3 bS ae ac=some r)/\Aside0 (kq<=k)/\Aside0 (wc.heap[ao]? =some (.cells #[.int .i64 ae,(.slice av ac.length aw)] 31 (0,0)))/\Aside0 (Below w.heap.size w wc))
 case first=>
  have H:=df.out;clear df
  by_cases c8:(l3.length:Int)<2
  ·rw[if_pos c8] at H;have bU:=decide_eq_true c8;have dM:decide (l3.length<2)=true:=decide_eq_true (by omega);clear c8;(first|rw[bU]|(simp only[i64_w,i32_w];rw[bU])|skip);have H':=G.m H;clear H
   go_wp2
   go_meet
   case rel=>exact⟨_,(true),(cacJ),H',⟨cacL⟩,⟨G.cb ab.out⟩,⟨G.cB HB.out⟩⟩
  ·rw[if_neg c8] at H;have bU:=decide_eq_false c8;have dM:decide (l3.length<2)=false:=decide_eq_false (by omega);clear c8;(first|rw[bU]|(simp only[i64_w,i32_w];rw[bU])|skip)
   rcases G.bc H with⟨h_,H_⟩|⟨h_,H_⟩<;> (subst h_;clear H;have H:=H_;clear H_)
   ·obtain⟨bd,cw,H⟩:=G.bi H;(try dsimp only at H)
    rcases G.bc H with⟨h_,H_⟩|⟨h_,H_⟩<;> (subst h_;clear H;have H:=H_;clear H_)
    ·have H':=G.m H;clear H
     go_wp2_with (first|(go_at_call 83;(with_reducible refine(spec_l22Open.calls _ _ l3 true _ ?side1 ?side2 cw.out).mono ?_);(case side1=>exact G.cC (Kd.C_below ap.out HB.out));(case side2=>exact bN.out);rintro e w' ⟨rfl,⟨nd,rfl⟩⟩))
     go_meet
     case rel=>exact⟨_,(true),(cacJ),H',⟨cacL⟩,⟨G.cb ab.out⟩,⟨G.cB HB.out⟩⟩
    ·skip
     by_cases bW:(l3.length:Int)<4
     ·rw[if_pos bW] at H;have dl:=decide_eq_true bW;have dn:decide (l3.length<4)=true:=decide_eq_true (by omega);clear bW;have H':=G.m H;clear H
      go_wp2_with (first|(go_at_call 83;(with_reducible refine(spec_l22Open.calls _ _ l3 false _ ?side1 ?side2 cw.out).mono ?_);(case side1=>exact G.cC (Kd.C_below ap.out HB.out));(case side2=>exact bN.out);rintro e w' ⟨rfl,⟨nd,rfl⟩⟩))
      go_meet
      case rel=>exact⟨_,(true),(cacJ),H',⟨cacL⟩,⟨G.cb ab.out⟩,⟨G.cB HB.out⟩⟩
     ·rw[if_neg bW] at H;have dl:=decide_eq_false bW;have dn:decide (l3.length<4)=false:=decide_eq_false (by omega);clear bW;obtain⟨aQ,dG,H⟩:=G.bi H;(try dsimp only at H)
      rcases G.bc H with⟨h_,H_⟩|⟨h_,H_⟩<;> (subst h_;clear H;have H:=H_;clear H_)
      ·have H':=G.m H;clear H
       go_wp2_with (first|(go_at_call 83;(with_reducible refine(spec_l22Open.calls _ _ l3 false _ ?side1 ?side2 cw.out).mono ?_);(case side1=>exact G.cC (Kd.C_below ap.out HB.out));(case side2=>exact bN.out);rintro e w' ⟨rfl,⟨nd,rfl⟩⟩)|(go_at_call 83;(with_reducible refine(spec_l22Open.calls _ _ l3 true _ ?side1 ?side2 dG.out).mono ?_);(case side1=>repeat(first|exact(Kd.C_below ap.out (G.cB HB.out))|(with_reducible refine Kd.C_alloc ?_ _)|(with_reducible refine Kd.C_drewN ?_ _)|(with_reducible refine Kd.C_drew ?_)));(case side2=>exact bN.out);rintro e w' ⟨rfl,⟨nd,rfl⟩⟩))
       go_meet
       case rel=>exact⟨_,(false),(cacJ),H',⟨cacL⟩,⟨G.cb ab.out⟩,⟨G.cB HB.out⟩⟩
      ·have H':=G.m H;clear H
       go_wp2_with (first|(go_at_call 83;(with_reducible refine(spec_l22Open.calls _ _ l3 false _ ?side1 ?side2 cw.out).mono ?_);(case side1=>exact G.cC (Kd.C_below ap.out HB.out));(case side2=>exact bN.out);rintro e w' ⟨rfl,⟨nd,rfl⟩⟩)|(go_at_call 83;(with_reducible refine(spec_l22Open.calls _ _ l3 false _ ?side1 ?side2 dG.out).mono ?_);(case side1=>repeat(first|exact(Kd.C_below ap.out (G.cB HB.out))|(with_reducible refine Kd.C_alloc ?_ _)|(with_reducible refine Kd.C_drewN ?_ _)|(with_reducible refine Kd.C_drew ?_)));(case side2=>exact bN.out);rintro e w' ⟨rfl,⟨nd,rfl⟩⟩))
       go_meet
       case rel=>exact⟨_,(decide ((l3.length:Int)<4)),(cacJ),H',⟨cacL⟩,⟨G.cb ab.out⟩,⟨G.cB HB.out⟩⟩
   ·skip
    obtain⟨cz,H⟩:=G.ip H;have d8:=decide_eq_true cz;have d9:decide (0<l3.length)=true:=decide_eq_true (by omega);clear cz;obtain⟨bf,ce,H⟩:=G.bi H;(try dsimp only at H)
    rcases G.bc H with⟨h_,H_⟩|⟨h_,H_⟩<;> (subst h_;clear H;have H:=H_;clear H_)
    ·obtain⟨ax,bT⟩:∃j_:Int,(wrap64 ((l3.length:Int) - 1))=j_:=⟨_,rfl⟩;replace H:(if 0<=(ax) then(if(ax)<(l3.length:Int) then((spec_l2Has.f k l2 (rd l3 (ax))).bind fun aP=>(if aP=true then((spec_l22Open.f l3).bind fun aC=>(if aC=true then(spec_l22Fresh.j0 k l1 l2 l3 false ae ac) else(spec_l22Fresh.j0 k l1 l2 l3 (decide ((l3.length:Int)<4)) ae ac))) else(spec_l22Fresh.j0 k l1 l2 l3 true ae ac))) else(none)) else(none))=some r:=by first|(rw[bT] at H;exact H)|(simp only[bT] at H⊢;exact H)
     (try rw[bT] at ce);have dS:(IntKind.i64.wrap ((l3.length:Int) - 1))=ax:=(i64_w _).trans bT
     obtain⟨d_,H⟩:=G.dp H
     obtain⟨ea,H⟩:=G.dp H;obtain⟨aP,dg,H⟩:=G.bi H;(try dsimp only at H)
     rcases G.bc H with⟨h_,H_⟩|⟨h_,H_⟩<;> (subst h_;clear H;have H:=H_;clear H_)
     ·obtain⟨aC,dH,H⟩:=G.bi H;(try dsimp only at H)
      rcases G.bc H with⟨h_,H_⟩|⟨h_,H_⟩<;> (subst h_;clear H;have H:=H_;clear H_)
      ·have H':=G.m H;clear H;have aJ:0<=(0:Int):=(by omega);have aK:0<(l3.length:Int):=G.da;obtain⟨bp,bw,ag⟩:=Kd.at_int ap.out 0 aJ aK;cases bw;have b2:(0<l3.length)=True:=eq_true (by omega);(try rw[show((0:Int)).toNat=0 from rfl] at ag);(try rw[Addr.add_zero'] at ag);replace ag:=G.hx HB ag;replace aJ:=eq_true aJ;replace aK:=eq_true aK
       go_wp2_with (first|(go_at_call 47;(with_reducible refine(spec_l2Has.calls k _ _ l2 (rd l3 0) true _ ?side1 ?side2 ce.out).mono ?_);(case side1=>exact G.cC (Kd.C_below bL.out HB.out));(case side2=>exact bM.out);rintro e w' ⟨rfl,⟨nd,rfl⟩⟩;have aS:0<=((ax):Int):=G.da;have aT:(ax)<(l3.length:Int):=G.da;obtain⟨bO,bV,aN⟩:=Kd.at_int ap.out (ax) aS aT;obtain rfl:bp=bO:=(by injection bV);replace aN:=G.hx HB aN;replace aS:=eq_true aS;replace aT:=eq_true aT)|(go_at_call 47;(with_reducible refine(spec_l2Has.calls k _ _ l2 (rd l3 (ax)) true _ ?side1 ?side2 dg.out).mono ?_);(case side1=>repeat(first|exact(Kd.C_below bL.out (G.cB HB.out))|(with_reducible refine Kd.C_alloc ?_ _)|(with_reducible refine Kd.C_drewN ?_ _)|(with_reducible refine Kd.C_drew ?_)));(case side2=>exact bM.out);rintro e w' ⟨rfl,⟨nd,rfl⟩⟩)|(go_at_call 83;(with_reducible refine(spec_l22Open.calls _ _ l3 true _ ?side1 ?side2 dH.out).mono ?_);(case side1=>repeat(first|exact(Kd.C_below ap.out (G.cB HB.out))|(with_reducible refine Kd.C_alloc ?_ _)|(with_reducible refine Kd.C_drewN ?_ _)|(with_reducible refine Kd.C_drew ?_)));(case side2=>exact bN.out);rintro e w' ⟨rfl,⟨nd,rfl⟩⟩))
       go_meet
       case rel=>exact⟨_,(false),(cacJ),H',⟨cacL⟩,⟨G.cb ab.out⟩,⟨G.cB HB.out⟩⟩
      ·have H':=G.m H;clear H;have aJ:0<=(0:Int):=(by omega);have aK:0<(l3.length:Int):=G.da;obtain⟨bp,bw,ag⟩:=Kd.at_int ap.out 0 aJ aK;cases bw;have b2:(0<l3.length)=True:=eq_true (by omega);(try rw[show((0:Int)).toNat=0 from rfl] at ag);(try rw[Addr.add_zero'] at ag);replace ag:=G.hx HB ag;replace aJ:=eq_true aJ;replace aK:=eq_true aK
       go_wp2_with (first|(go_at_call 47;(with_reducible refine(spec_l2Has.calls k _ _ l2 (rd l3 0) true _ ?side1 ?side2 ce.out).mono ?_);(case side1=>exact G.cC (Kd.C_below bL.out HB.out));(case side2=>exact bM.out);rintro e w' ⟨rfl,⟨nd,rfl⟩⟩;have aS:0<=((ax):Int):=G.da;have aT:(ax)<(l3.length:Int):=G.da;obtain⟨bO,bV,aN⟩:=Kd.at_int ap.out (ax) aS aT;obtain rfl:bp=bO:=(by injection bV);replace aN:=G.hx HB aN;replace aS:=eq_true aS;replace aT:=eq_true aT)|(go_at_call 47;(with_reducible refine(spec_l2Has.calls k _ _ l2 (rd l3 (ax)) true _ ?side1 ?side2 dg.out).mono ?_);(case side1=>repeat(first|exact(Kd.C_below bL.out (G.cB HB.out))|(with_reducible refine Kd.C_alloc ?_ _)|(with_reducible refine Kd.C_drewN ?_ _)|(with_reducible refine Kd.C_drew ?_)));(case side2=>exact bM.out);rintro e w' ⟨rfl,⟨nd,rfl⟩⟩)|(go_at_call 83;(with_reducible refine(spec_l22Open.calls _ _ l3 false _ ?side1 ?side2 dH.out).mono ?_);(case side1=>repeat(first|exact(Kd.C_below ap.out (G.cB HB.out))|(with_reducible refine Kd.C_alloc ?_ _)|(with_reducible refine Kd.C_drewN ?_ _)|(with_reducible refine Kd.C_drew ?_)));(case side2=>exact bN.out);rintro e w' ⟨rfl,⟨nd,rfl⟩⟩))
       go_meet
       case rel=>exact⟨_,(decide ((l3.length:Int)<4)),(cacJ),H',⟨cacL⟩,⟨G.cb ab.out⟩,⟨G.cB HB.out⟩⟩
     ·have H':=G.m H;clear H;have aJ:0<=(0:Int):=(by omega);have aK:0<(l3.length:Int):=G.da;obtain⟨bp,bw,ag⟩:=Kd.at_int ap.out 0 aJ aK;cases bw;have b2:(0<l3.length)=True:=eq_true (by omega);(try rw[show((0:Int)).toNat=0 from rfl] at ag);(try rw[Addr.add_zero'] at ag);replace ag:=G.hx HB ag;replace aJ:=eq_true aJ;replace aK:=eq_true aK
      go_wp2_with (first|(go_at_call 47;(with_reducible refine(spec_l2Has.calls k _ _ l2 (rd l3 0) true _ ?side1 ?side2 ce.out).mono ?_);(case side1=>exact G.cC (Kd.C_below bL.out HB.out));(case side2=>exact bM.out);rintro e w' ⟨rfl,⟨nd,rfl⟩⟩;have aS:0<=((ax):Int):=G.da;have aT:(ax)<(l3.length:Int):=G.da;obtain⟨bO,bV,aN⟩:=Kd.at_int ap.out (ax) aS aT;obtain rfl:bp=bO:=(by injection bV);replace aN:=G.hx HB aN;replace aS:=eq_true aS;replace aT:=eq_true aT)|(go_at_call 47;(with_reducible refine(spec_l2Has.calls k _ _ l2 (rd l3 (ax)) false _ ?side1 ?side2 dg.out).mono ?_);(case side1=>repeat(first|exact(Kd.C_below bL.out (G.cB HB.out))|(with_reducible refine Kd.C_alloc ?_ _)|(with_reducible refine Kd.C_drewN ?_ _)|(with_reducible refine Kd.C_drew ?_)));(case side2=>exact bM.out);rintro e w' ⟨rfl,⟨nd,rfl⟩⟩))
      go_meet
      case rel=>exact⟨_,(true),(cacJ),H',⟨cacL⟩,⟨G.cb ab.out⟩,⟨G.cB HB.out⟩⟩
    ·have H':=G.m H;clear H;have aJ:0<=(0:Int):=(by omega);have aK:0<(l3.length:Int):=G.da;obtain⟨bp,bw,ag⟩:=Kd.at_int ap.out 0 aJ aK;cases bw;have b2:(0<l3.length)=True:=eq_true (by omega);(try rw[show((0:Int)).toNat=0 from rfl] at ag);(try rw[Addr.add_zero'] at ag);replace ag:=G.hx HB ag;replace aJ:=eq_true aJ;replace aK:=eq_true aK
     go_wp2_with (first|(go_at_call 47;(with_reducible refine(spec_l2Has.calls k _ _ l2 (rd l3 0) false _ ?side1 ?side2 ce.out).mono ?_);(case side1=>exact G.cC (Kd.C_below bL.out HB.out));(case side2=>exact bM.out);rintro e w' ⟨rfl,⟨nd,rfl⟩⟩))
     go_meet
     case rel=>exact⟨_,(true),(cacJ),H',⟨cacL⟩,⟨G.cb ab.out⟩,⟨G.cB HB.out⟩⟩
 case rest=>
  clear df;obtain⟨kq,bS,rfl,HA,bI,ab,HB⟩:=hcut;cases kq with
  |zero=>exact absurd HA.out (by simp[spec_l22Fresh.j0])
  |succ dh=>
   have H:=HA.out;clear HA;simp only[spec_l22Fresh.j0] at H
   rcases G.bc H with⟨h_,H_⟩|⟨h_,H_⟩<;> (subst h_;clear H;have H:=H_;clear H_)
   ·obtain rfl:=Option.some.inj H
    go_wp2
    go_ret
    exact⟨cacN,G.cB HB.out⟩
   ·have H':=G.m H;clear H
    go_wp2
    go_loopg [11] dh (fun kq dT w'=>∃ (aa:Int),dT= .int .i64 aa/\Aside0 (spec_l22Fresh.l0 kq l1 l2 l3 aa ae ac=some r)/\Aside0 (kq<=dh)/\Aside0 (w'.heap[ao]? =some (.cells #[.int .i64 ae,(.slice av ac.length aw)] 31 (0,0)))/\Aside0 (Below w.heap.size w w'))
    case atStart=>exact⟨(0),(cacJ),H',⟨Nat.le_refl _⟩,⟨G.cb ab.out⟩,⟨G.cB HB.out⟩⟩
    case round=>
     clear H';(try clear cf);obtain⟨aa,rfl,HA,bJ,ab,HB⟩:=hrel;cases gk with
     |zero=>exact absurd HA.out (by simp[spec_l22Fresh.l0])
     |succ k2=>
      have H:=HA.out;clear HA;simp only[spec_l22Fresh.l0] at H
      by_cases bX:aa<(l3.length:Int)
      ·rw[if_pos bX] at H;have cH:=decide_eq_true bX;clear bX;have cj:=G.m H;clear H
       go_upto_region 6 with(fail)
       go_cut [12] (fun dU wc=>∃ (kq:Nat) (aX:Bool),dU= .bool aX/\Aside0 (spec_l22Fresh.j2 kq l1 l2 l3 aa aX ae ac=some r)/\Aside0 (kq<=k2)/\Aside0 (wc.heap[ao]? =some (.cells #[.int .i64 ae,(.slice av ac.length aw)] 31 (0,0)))/\Aside0 (Below w.heap.size w wc))
       case first=>
        have H:=cj.out;clear cj
        by_cases bY:aa>0
        ·rw[if_pos bY] at H;have bP:=decide_eq_true bY;clear bY;(first|rw[bP]|(simp only[i64_w,i32_w];rw[bP])|skip);have H':=G.m H;clear H
         go_wp2
         go_meet
         case rel=>exact⟨_,(decide ((wrap64 (aa+1))<(l3.length:Int))),(cacJ),H',⟨by have:=bI.out;have:=bJ.out;first|omega|exact Nat.le_refl _⟩,⟨G.cb ab.out⟩,⟨G.cB HB.out⟩⟩
        ·rw[if_neg bY] at H;have bP:=decide_eq_false bY;clear bY;(first|rw[bP]|(simp only[i64_w,i32_w];rw[bP])|skip);have H':=G.m H;clear H
         go_wp2
         go_meet
         case rel=>exact⟨_,(false),(cacJ),H',⟨by have:=bI.out;have:=bJ.out;first|omega|exact Nat.le_refl _⟩,⟨G.cb ab.out⟩,⟨G.cB HB.out⟩⟩
       case rest=>
        clear cj;(try clear cH);obtain⟨kq,aX,rfl,HA,bv,ab,HB⟩:=hcut;cases kq with
        |zero=>exact absurd HA.out (by simp[spec_l22Fresh.j2])
        |succ ai=>
         have H:=HA.out;clear HA;simp only[spec_l22Fresh.j2] at H;have ck:=G.m H;clear H
         go_upto_region 7 with(fail)
         go_cut [104] (fun dN wc=>∃ (kq:Nat) (bq:Bool),dN= .bool bq/\Aside0 (spec_l22Fresh.j3 kq l1 l2 l3 aa bq ae ac=some r)/\Aside0 (kq<=ai)/\Aside0 (wc.heap[ao]? =some (.cells #[.int .i64 ae,(.slice av ac.length aw)] 31 (0,0)))/\Aside0 (Below w.heap.size w wc))
         case first=>
          have H:=ck.out;clear ck
          obtain⟨cJ,H⟩:=G.dp H;(first|rw[cJ]|(simp only[i64_w,i32_w];rw[cJ])|skip)
          obtain⟨eb,H⟩:=G.dp H;obtain⟨b1,cM,H⟩:=G.bi H;(try dsimp only at H)
          rcases G.bc H with⟨h_,H_⟩|⟨h_,H_⟩<;> (subst h_;clear H;have H:=H_;clear H_)
          ·skip
           rcases G.bc H with⟨h_,H_⟩|⟨h_,H_⟩<;> (subst h_;clear H;have H:=H_;clear H_)
           ·obtain⟨aW,dI,H⟩:=G.bi H;(try dsimp only at H)
            rcases G.bc H with⟨h_,H_⟩|⟨h_,H_⟩<;> (subst h_;clear H;have H:=H_;clear H_)
            ·have H':=G.m H;clear H;try go_wp2
             replace ab:=G.m (blk_drew ab.out);replace HB:=G.m (below_drew1 HB.out);have aL:0<=(aa:Int):=G.da;have aM:aa<(l3.length:Int):=G.da;obtain⟨ay,bx,ah⟩:=Kd.at_int ap.out aa aL aM;have am:=ah;cases bx;replace ah:=G.hx HB ah;replace aL:=eq_true aL;replace aM:=eq_true aM;have bz:0<=(aa:Int):=G.da;have bA:aa<(l3.length:Int):=G.da;obtain⟨b3,cl,aD⟩:=Kd.at_int ap.out aa bz bA;have aO:=aD;obtain rfl:ay=b3:=(by injection cl);replace aD:=G.hx HB aD;replace bz:=eq_true bz;replace bA:=eq_true bA;refine G.st 28 (S:=fun w'=>w'.cell? ⟨ao,0,none⟩=some (.int .i64 ae)/\w'.cell? ⟨ao,1,none⟩=some (.slice av ac.length aw)/\w'.cell? (ay.add (aa).toNat)=some (.int .i64 (rd l3 aa))/\w'.cell? (ay.add (aa).toNat)=some (.int .i64 (rd l3 aa))) [] ⟨G.z ab 0,G.z ab 1,(G.hx HB am),(G.hx HB aO)⟩ spec_l22Fresh.tab7 spec_l22Fresh.bits7 (fun hHeld HT_ HW_=> ?_);generalize wc.drew=ep at ab HB ah aD hHeld⊢;refine G.pu 1 78 2 ?_;refine G.pu 2 79 6 ?_;refine G.pu 3 80 14 ?_;refine G.ta4 0 77 15 ?_;refine G.ta4 4 81 31 ?_;refine G.on 5 82 63 (fun K hK=> ?_);refine G.gs Try.func85 #[.agg #[.int .i64 ae,.slice av ac.length aw],.int .i64 (rd l3 aa)] ?_;with_reducible refine(spec_l1Knot.calls ai ae _ _ ac (rd l3 aa) true _ ?side1 ?side2 cM.out).mono ?_
             (case side1=>exact G.cC (Kd.C_below bn.out HB.out));(case side2=>exact bo.out);rintro e eq ⟨rfl,hb⟩;refine⟨_,rfl,?_⟩;replace ab:=G.bb ab hb;replace HB:=G.bs HB hb;(try clear hb);refine hK.out _ _ ⟨G.z ab 0,G.z ab 1,(G.hx HB am),(G.hx HB aO)⟩ (fun hHeld=> ?_);clear hK K;refine G.no 82 ?_;refine G.pu 6 83 127 ?_;refine G.pu 7 84 255 ?_;refine G.pu 8 85 511 ?_;refine G.pu 9 86 1023 ?_;refine G.pu 10 87 2047 ?_;refine G.pu 11 88 4095 ?_;refine G.pu 12 89 8191 ?_;refine G.pu 13 90 16383 ?_;refine G.ta4 14 91 32767 ?_;refine G.on 15 92 65535 (fun K hK=> ?_);refine G.gs Try.func47 #[.slice A2 l2.length c2,.int .i64 (rd l3 aa)] ?_;with_reducible refine(spec_l2Has.calls ai _ _ l2 (rd l3 aa) true _ ?side1 ?side2 dI.out).mono ?_
             (case side1=>exact G.cC (Kd.C_below bL.out HB.out));(case side2=>exact bM.out);rintro e w' ⟨rfl,⟨nd,rfl⟩⟩;refine⟨_,rfl,?_⟩;refine hK.out _ _ ⟨G.z ab 0,G.z ab 1,(G.hx HB am),(G.hx HB aO)⟩ (fun hHeld=> ?_);clear hK K;refine G.no 92 ?_;refine G.pu 16 93 131071 ?_;refine G.pf 17 94 262143 ?_;refine G.pf 18 95 524287 ?_;refine G.pf 19 96 1048575 ?_;refine G.pf 20 97 2097151 ?_;refine G.pf 21 98 4194303 ?_;refine G.pf 22 99 8388607 ?_;refine G.pf 23 100 16777215 ?_;refine G.pf 24 101 33554431 ?_;refine G.pu 25 102 67108863 ?_;refine G.pu 26 103 134217727 ?_;refine G.pu 27 104 268435455 ?_;refine done_ (done_of HT_.out (cacK)) ?_;try go_wp2
             go_meet
             case rel=>exact⟨_,(true),(cacJ),H',⟨cacM⟩,⟨G.cb ab.out⟩,⟨G.cB HB.out⟩⟩
            ·have ec:=eq_true (of_decide_eq_true (G.asm):0<=aa)
             obtain⟨cg,H⟩:=G.ip H;have ed:=eq_true cg;have ee:=decide_eq_true cg;clear cg;obtain⟨aI,dV,H⟩:=G.bi H;(try dsimp only at H);have H':=G.m H;clear H;try go_wp2
             replace ab:=G.m (blk_drew ab.out);replace HB:=G.m (below_drew1 HB.out);have aL:0<=(aa:Int):=G.da;have aM:aa<(l3.length:Int):=G.da;obtain⟨ay,bx,ah⟩:=Kd.at_int ap.out aa aL aM;have am:=ah;cases bx;replace ah:=G.hx HB ah;replace aL:=eq_true aL;replace aM:=eq_true aM;have bz:0<=(aa:Int):=G.da;have bA:aa<(l3.length:Int):=G.da;obtain⟨b3,cl,aD⟩:=Kd.at_int ap.out aa bz bA;have aO:=aD;obtain rfl:ay=b3:=(by injection cl);replace aD:=G.hx HB aD;replace bz:=eq_true bz;replace bA:=eq_true bA;have cm:0<=(aa:Int):=G.da;have cn:aa<(l3.length:Int):=G.da;obtain⟨dp,dO,br⟩:=Kd.at_int ap.out aa cm cn;have bu:=br;obtain rfl:ay=dp:=(by injection dO);replace br:=G.hx HB br;replace cm:=eq_true cm;replace cn:=eq_true cn;refine G.st 28 (S:=fun w'=>w'.cell? ⟨ao,0,none⟩=some (.int .i64 ae)/\w'.cell? ⟨ao,1,none⟩=some (.slice av ac.length aw)/\w'.cell? (ay.add (aa).toNat)=some (.int .i64 (rd l3 aa))/\w'.cell? (ay.add (aa).toNat)=some (.int .i64 (rd l3 aa))/\w'.cell? (ay.add (aa).toNat)=some (.int .i64 (rd l3 aa))) [] ⟨G.z ab 0,G.z ab 1,(G.hx HB am),(G.hx HB aO),(G.hx HB bu)⟩ spec_l22Fresh.tab7 spec_l22Fresh.bits7 (fun hHeld HT_ HW_=> ?_);generalize wc.drew=er at ab HB ah aD br hHeld⊢;refine G.pu 1 78 2 ?_;refine G.pu 2 79 6 ?_;refine G.pu 3 80 14 ?_;refine G.ta5 0 77 15 ?_;refine G.ta5 4 81 31 ?_;refine G.on 5 82 63 (fun K hK=> ?_);refine G.gs Try.func85 #[.agg #[.int .i64 ae,.slice av ac.length aw],.int .i64 (rd l3 aa)] ?_;with_reducible refine(spec_l1Knot.calls ai ae _ _ ac (rd l3 aa) true _ ?side1 ?side2 cM.out).mono ?_
             (case side1=>exact G.cC (Kd.C_below bn.out HB.out));(case side2=>exact bo.out);rintro e es ⟨rfl,hb⟩;refine⟨_,rfl,?_⟩;replace ab:=G.bb ab hb;replace HB:=G.bs HB hb;(try clear hb);refine hK.out _ _ ⟨G.z ab 0,G.z ab 1,(G.hx HB am),(G.hx HB aO),(G.hx HB bu)⟩ (fun hHeld=> ?_);clear hK K;refine G.no 82 ?_;refine G.pu 6 83 127 ?_;refine G.pu 7 84 255 ?_;refine G.pu 8 85 511 ?_;refine G.pu 9 86 1023 ?_;refine G.pu 10 87 2047 ?_;refine G.pu 11 88 4095 ?_;refine G.pu 12 89 8191 ?_;refine G.pu 13 90 16383 ?_;refine G.ta5 14 91 32767 ?_;refine G.on 15 92 65535 (fun K hK=> ?_);refine G.gs Try.func47 #[.slice A2 l2.length c2,.int .i64 (rd l3 aa)] ?_;with_reducible refine(spec_l2Has.calls ai _ _ l2 (rd l3 aa) false _ ?side1 ?side2 dI.out).mono ?_
             (case side1=>exact G.cC (Kd.C_below bL.out HB.out));(case side2=>exact bM.out);rintro e w' ⟨rfl,⟨nd,rfl⟩⟩;refine⟨_,rfl,?_⟩;obtain⟨en,cQ,_,cS,_⟩:=info_parts info3;obtain⟨dW,di,dj⟩:=print_take_of (P:=Try.prog) (Value.int .i64) 0 45 3 .i64 Try.underlying45 cQ cS (some ay) c3 l3 aa G.da G.da bN.out;have dq:=G.m (Kd.C_of_reads (h1:=fun _=>rfl) (di _ (Kd.reads_of_C ap.out)));have dr:=G.m dj;clear di dj cQ cS;refine hK.out _ _ ⟨G.z ab 0,G.z ab 1,(G.hx HB am),(G.hx HB aO),(G.hx HB bu)⟩ (fun hHeld=> ?_);clear hK K;refine G.no 92 ?_;refine G.pu 16 93 131071 ?_;refine G.pu 17 94 262143 ?_;refine G.pu 18 95 524287 ?_;refine G.pu 19 96 1048575 ?_;refine G.pu 20 97 2097151 ?_;refine G.pu 21 98 4194303 ?_;refine G.pu 22 99 8388607 ?_;refine G.ta5 23 100 16777215 ?_;refine G.on 24 101 33554431 (fun K hK=> ?_);refine goes_ Try.func47 (cacK) rfl #[.slice (some ay) (l3.take (aa:Int).toNat).length c3,.int .i64 (rd l3 aa)] (by rfl) rfl rfl (by(try simp only[List.map_toArray,List.map_cons,List.map_nil]);first|done|(rw[show(l3.take (aa:Int).toNat).length=aa.toNat from(by rw[List.length_take];have h_:(aa:Int)<=(l3.length:Int):=G.da;omega)]<;>rfl)|rfl|(simp only[List.length_drop,List.length_take];rfl)) ?_;with_reducible refine(spec_l2Has.calls ai _ _ (l3.take (aa:Int).toNat) (rd l3 aa) aI _ ?side1 ?side2 dV.out).mono ?_
             (case side1=>repeat(first|exact(Kd.C_below dq.out (G.cB HB.out))|(with_reducible refine Kd.C_alloc ?_ _)|(with_reducible refine Kd.C_drewN ?_ _)|(with_reducible refine Kd.C_drew ?_)));(case side2=>exact dr.out);rintro e w' ⟨rfl,⟨nd,rfl⟩⟩;refine⟨_,rfl,?_⟩;refine hK.out _ _ ⟨G.z ab 0,G.z ab 1,(G.hx HB am),(G.hx HB aO),(G.hx HB bu)⟩ (fun hHeld=> ?_);clear hK K;refine G.no 101 ?_;refine G.pu 25 102 67108863 ?_;refine G.pu 26 103 134217727 ?_;refine G.pu 27 104 268435455 ?_;refine done_ (done_of HT_.out (cacK)) ?_;try go_wp2
             go_meet
             case rel=>exact⟨_,(aI),(cacJ),H',⟨cacM⟩,⟨G.cb ab.out⟩,⟨G.cB HB.out⟩⟩
           ·have H':=G.m H;clear H;try go_wp2
            replace ab:=G.m (blk_drew ab.out);replace HB:=G.m (below_drew1 HB.out);have aL:0<=(aa:Int):=G.da;have aM:aa<(l3.length:Int):=G.da;obtain⟨ay,bx,ah⟩:=Kd.at_int ap.out aa aL aM;have am:=ah;cases bx;replace ah:=G.hx HB ah;replace aL:=eq_true aL;replace aM:=eq_true aM;refine G.st 28 (S:=fun w'=>w'.cell? ⟨ao,0,none⟩=some (.int .i64 ae)/\w'.cell? ⟨ao,1,none⟩=some (.slice av ac.length aw)/\w'.cell? (ay.add (aa).toNat)=some (.int .i64 (rd l3 aa))) [] ⟨G.z ab 0,G.z ab 1,(G.hx HB am)⟩ spec_l22Fresh.tab7 spec_l22Fresh.bits7 (fun hHeld HT_ HW_=> ?_);generalize wc.drew=et at ab HB ah hHeld⊢;refine G.pu 1 78 2 ?_;refine G.pu 2 79 6 ?_;refine G.pu 3 80 14 ?_;refine G.ta3 0 77 15 ?_;refine G.ta3 4 81 31 ?_;refine G.on 5 82 63 (fun K hK=> ?_);refine G.gs Try.func85 #[.agg #[.int .i64 ae,.slice av ac.length aw],.int .i64 (rd l3 aa)] ?_;with_reducible refine(spec_l1Knot.calls ai ae _ _ ac (rd l3 aa) true _ ?side1 ?side2 cM.out).mono ?_
            (case side1=>exact G.cC (Kd.C_below bn.out HB.out));(case side2=>exact bo.out);rintro e eu ⟨rfl,hb⟩;refine⟨_,rfl,?_⟩;replace ab:=G.bb ab hb;replace HB:=G.bs HB hb;(try clear hb);refine hK.out _ _ ⟨G.z ab 0,G.z ab 1,(G.hx HB am)⟩ (fun hHeld=> ?_);clear hK K;refine G.no 82 ?_;refine G.pu 6 83 127 ?_;refine G.pu 7 84 255 ?_;refine G.pu 8 85 511 ?_;refine G.pu 9 86 1023 ?_;refine G.pf 10 87 2047 ?_;refine G.pf 11 88 4095 ?_;refine G.pf 12 89 8191 ?_;refine G.pf 13 90 16383 ?_;refine G.pf 14 91 32767 ?_;refine G.pf 15 92 65535 ?_;refine G.pf 16 93 131071 ?_;refine G.pf 17 94 262143 ?_;refine G.pf 18 95 524287 ?_;refine G.pf 19 96 1048575 ?_;refine G.pf 20 97 2097151 ?_;refine G.pf 21 98 4194303 ?_;refine G.pf 22 99 8388607 ?_;refine G.pf 23 100 16777215 ?_;refine G.pf 24 101 33554431 ?_;refine G.pf 25 102 67108863 ?_;refine G.pu 26 103 134217727 ?_;refine G.pu 27 104 268435455 ?_;refine done_ (done_of HT_.out (cacK)) ?_;try go_wp2
            go_meet
            case rel=>exact⟨_,(false),(cacJ),H',⟨cacM⟩,⟨G.cb ab.out⟩,⟨G.cB HB.out⟩⟩
          ·have H':=G.m H;clear H;try go_wp2
           replace ab:=G.m (blk_drew ab.out);replace HB:=G.m (below_drew1 HB.out);have aL:0<=(aa:Int):=G.da;have aM:aa<(l3.length:Int):=G.da;obtain⟨ay,bx,ah⟩:=Kd.at_int ap.out aa aL aM;have am:=ah;cases bx;replace ah:=G.hx HB ah;replace aL:=eq_true aL;replace aM:=eq_true aM;refine G.st 28 (S:=fun w'=>w'.cell? ⟨ao,0,none⟩=some (.int .i64 ae)/\w'.cell? ⟨ao,1,none⟩=some (.slice av ac.length aw)/\w'.cell? (ay.add (aa).toNat)=some (.int .i64 (rd l3 aa))) [] ⟨G.z ab 0,G.z ab 1,(G.hx HB am)⟩ spec_l22Fresh.tab7 spec_l22Fresh.bits7 (fun hHeld HT_ HW_=> ?_);generalize wc.drew=ev at ab HB ah hHeld⊢;refine G.pu 1 78 2 ?_;refine G.pu 2 79 6 ?_;refine G.pu 3 80 14 ?_;refine G.ta3 0 77 15 ?_;refine G.ta3 4 81 31 ?_;refine G.on 5 82 63 (fun K hK=> ?_);refine G.gs Try.func85 #[.agg #[.int .i64 ae,.slice av ac.length aw],.int .i64 (rd l3 aa)] ?_;with_reducible refine(spec_l1Knot.calls ai ae _ _ ac (rd l3 aa) false _ ?side1 ?side2 cM.out).mono ?_
           (case side1=>exact G.cC (Kd.C_below bn.out HB.out));(case side2=>exact bo.out);rintro e ew ⟨rfl,hb⟩;refine⟨_,rfl,?_⟩;replace ab:=G.bb ab hb;replace HB:=G.bs HB hb;(try clear hb);refine hK.out _ _ ⟨G.z ab 0,G.z ab 1,(G.hx HB am)⟩ (fun hHeld=> ?_);clear hK K;refine G.no 82 ?_;refine G.pu 6 83 127 ?_;refine G.pu 7 84 255 ?_;refine G.pf 8 85 511 ?_;refine G.pf 9 86 1023 ?_;refine G.pf 10 87 2047 ?_;refine G.pf 11 88 4095 ?_;refine G.pf 12 89 8191 ?_;refine G.pf 13 90 16383 ?_;refine G.pf 14 91 32767 ?_;refine G.pf 15 92 65535 ?_;refine G.pf 16 93 131071 ?_;refine G.pf 17 94 262143 ?_;refine G.pf 18 95 524287 ?_;refine G.pf 19 96 1048575 ?_;refine G.pf 20 97 2097151 ?_;refine G.pf 21 98 4194303 ?_;refine G.pf 22 99 8388607 ?_;refine G.pf 23 100 16777215 ?_;refine G.pf 24 101 33554431 ?_;refine G.pf 25 102 67108863 ?_;refine G.pf 26 103 134217727 ?_;refine G.pu 27 104 268435455 ?_;refine done_ (done_of HT_.out (cacK)) ?_;try go_wp2
           go_meet
           case rel=>exact⟨_,(true),(cacJ),H',⟨cacM⟩,⟨G.cb ab.out⟩,⟨G.cB HB.out⟩⟩
         case rest=>
          clear ck;obtain⟨kq,bq,rfl,HA,bQ,ab,HB⟩:=hcut;cases kq with
          |zero=>exact absurd HA.out (by simp[spec_l22Fresh.j3])
          |succ aR=>
           have H:=HA.out;clear HA;simp only[spec_l22Fresh.j3] at H
           rcases G.bc H with⟨h_,H_⟩|⟨h_,H_⟩<;> (subst h_;clear H;have H:=H_;clear H_)
           ·obtain rfl:=Option.some.inj H
            go_wp2
            go_ret
            exact⟨cacN,G.cB HB.out⟩
           ·skip
            by_cases bR:aa=0
            ·rw[if_pos bR] at H;have cT:=beq_iff_eq.mpr bR;have cU:=bne_eq_false_iff_eq.mpr bR;clear bR;have H':=G.m H;clear H
             go_wp2
             go_roundg aR
             case measure=>have:=bI.out;have:=bJ.out;have:=bv.out;have:=bQ.out;omega
             case rel=>exact⟨(wrap64 (aa+1)),(cacJ),H',⟨by have:=bI.out;have:=bJ.out;have:=bv.out;have:=bQ.out;omega⟩,⟨G.cb ab.out⟩,⟨G.cB HB.out⟩⟩
            ·rw[if_neg bR] at H;have cT:=beq_eq_false_iff_ne.mpr bR;have cU:=bne_iff_ne.mpr bR;obtain⟨aq,a_⟩:∃j_:Int,(wrap64 (aa - 1))=j_:=⟨_,rfl⟩;replace H:(if 0<=(aq) then(if(aq)<(l3.length:Int) then(if 0<=aa then(if aa<(l3.length:Int) then((spec_NetHas.f aR ae ac (rd l3 (aq)) (rd l3 aa)).bind fun bc=>(if bc=true then(spec_l22Fresh.l1 aR l1 l2 l3 aa 0 ae ac) else(some false))) else(none)) else(none)) else(none)) else(none))=some r:=by first|(rw[a_] at H;exact H)|(simp only[a_] at H⊢;exact H)
             have dk:(IntKind.i64.wrap (aa - 1))=aq:=(i64_w _).trans a_
             obtain⟨dt,H⟩:=G.dp H
             obtain⟨du,H⟩:=G.dp H
             obtain⟨dv,H⟩:=G.dp H
             obtain⟨dw,H⟩:=G.dp H;obtain⟨bc,dJ,H⟩:=G.bi H;(try dsimp only at H)
             rcases G.bc H with⟨h_,H_⟩|⟨h_,H_⟩<;> (subst h_;clear H;have H:=H_;clear H_)
             ·have H':=G.m H;clear H;try go_wp2
              replace ab:=G.m (blk_drew ab.out);replace HB:=G.m (below_drew1 HB.out);have bh:0<=((aq):Int):=G.da;have bj:(aq)<(l3.length:Int):=G.da;obtain⟨az,co,aA⟩:=Kd.at_int ap.out (aq) bh bj;have aY:=aA;cases co;replace aA:=G.hx HB aA;replace bh:=eq_true bh;replace bj:=eq_true bj;have bk:0<=(aa:Int):=G.da;have bl:aa<(l3.length:Int):=G.da;obtain⟨b4,cp,aB⟩:=Kd.at_int ap.out aa bk bl;have aZ:=aB;obtain rfl:az=b4:=(by injection cp);replace aB:=G.hx HB aB;replace bk:=eq_true bk;replace bl:=eq_true bl;refine G.st 12 (S:=fun w'=>w'.cell? ⟨ao,0,none⟩=some (.int .i64 ae)/\w'.cell? ⟨ao,1,none⟩=some (.slice av ac.length aw)/\w'.cell? (az.add ((aq)).toNat)=some (.int .i64 (rd l3 (aq)))/\w'.cell? (az.add (aa).toNat)=some (.int .i64 (rd l3 aa))) [] ⟨G.z ab 0,G.z ab 1,(G.hx HB aY),(G.hx HB aZ)⟩ spec_l22Fresh.tab10 spec_l22Fresh.bits10 (fun hHeld HT_ HW_=> ?_);generalize wc.drew=ex at ab HB aA aB hHeld⊢;refine G.pu 1 108 2 ?_;refine G.pu 2 109 6 ?_;refine G.pu 3 110 14 ?_;refine G.pu 4 111 30 ?_;refine G.pu 6 113 94 ?_;refine G.pu 7 114 222 ?_;refine G.pu 8 115 478 ?_;refine G.ta4 0 107 479 ?_;refine G.ta4 5 112 511 ?_;refine G.ta4 9 116 1023 ?_;refine G.on 10 117 2047 (fun K hK=> ?_);refine goes_ Try.func86 (cacK) rfl #[.agg #[.int .i64 ae,.slice av ac.length aw],.int .i64 (rd l3 (aq)),.int .i64 (rd l3 aa)] (by rfl) rfl rfl (cacO) ?_;with_reducible refine(spec_NetHas.calls aR ae _ _ ac (rd l3 (aq)) (rd l3 aa) true _ ?side1 ?side2 dJ.out).mono ?_
              (case side1=>exact G.cC (Kd.C_below bn.out HB.out));(case side2=>exact bo.out);rintro e ey ⟨rfl,hb⟩;refine⟨_,rfl,?_⟩;replace ab:=G.bb ab hb;replace HB:=G.bs HB hb;(try clear hb);refine hK.out _ _ ⟨G.z ab 0,G.z ab 1,(G.hx HB aY),(G.hx HB aZ)⟩ (fun hHeld=> ?_);clear hK K;refine G.no 117 ?_;refine G.pu 11 118 4095 ?_;refine done_ (done_of HT_.out (cacK)) ?_;try go_wp2
              go_loopg [13] aR (fun kq dX w'=>∃ (af:Int),dX= .int .i64 af/\Aside0 (spec_l22Fresh.l1 kq l1 l2 l3 aa af ae ac=some r)/\Aside0 (kq<=aR)/\Aside0 (w'.heap[ao]? =some (.cells #[.int .i64 ae,(.slice av ac.length aw)] 31 (0,0)))/\Aside0 (Below w.heap.size w w'))
              case atStart=>exact⟨(0),(cacJ),H',⟨Nat.le_refl _⟩,⟨G.cb ab.out⟩,⟨G.cB HB.out⟩⟩
              case round=>
               clear H';(try clear ch bR cT cU dt du dv dw ci aA aB bh bk bj bl);obtain⟨af,rfl,HA,c_,ab,HB⟩:=hrel;cases gk with
               |zero=>exact absurd HA.out (by simp[spec_l22Fresh.l1])
               |succ k5=>
                have H:=HA.out;clear HA;simp only[spec_l22Fresh.l1] at H
                by_cases bZ:af<(l1.length:Int)
                ·rw[if_pos bZ] at H;have dx:=decide_eq_true bZ;clear bZ
                 obtain⟨ef,H⟩:=G.dp H;obtain⟨au,bH⟩:∃j_:Int,(wrap64 (aa - 1))=j_:=⟨_,rfl⟩;replace H:(if 0<=(au) then(if(au)<(l3.length:Int) then(if 0<=aa then(if aa<(l3.length:Int) then((spec_l1Tie.f (rd l3 (au)) (rd l3 aa)).bind fun bK=>(if(((rd_T59 l1 af).f0)==bK.1&&(((rd_T59 l1 af).f1)==bK.2))=true then(some false) else(spec_l22Fresh.l1 k5 l1 l2 l3 aa (wrap64 (af+1)) ae ac))) else(none)) else(none)) else(none)) else(none))=some r:=by first|(rw[bH] at H;exact H)|(simp only[bH] at H⊢;exact H)
                 have dY:(IntKind.i64.wrap (aa - 1))=au:=(i64_w _).trans bH;clear a_ dk
                 obtain⟨eg,H⟩:=G.dp H
                 obtain⟨eh,H⟩:=G.dp H
                 obtain⟨ei,H⟩:=G.dp H
                 obtain⟨ej,H⟩:=G.dp H;obtain⟨⟨aU,aV⟩,dK,H⟩:=G.bi H;(try dsimp only at H)
                 by_cases bm:(((rd_T59 l1 af).f0)==aU&&(((rd_T59 l1 af).f1)==aV))=true
                 ·rw[if_pos bm] at H;have dy:(((rd_T59 l1 af).f0)==aU&&(((rd_T59 l1 af).f1)==aV))=true:=bm;(try(have dz:decide (((rd_T59 l1 af).f0)=aU&&(((rd_T59 l1 af).f1)==aV))=true:=by simpa using bm));(try(have dA:(((rd_T59 l1 af).f0)==aU&&(((rd_T59 l1 af).f1)==aV))=true:=by simpa using bm));clear bm;obtain rfl:=Option.some.inj H;try go_wp2
                  replace ab:=G.m (blk_drew ab.out);replace HB:=G.m (below_drew1 HB.out);have bB:0<=(af:Int):=G.da;have bC:af<(l1.length:Int):=G.da;obtain⟨ba,cq,aE,aF⟩:=at_T59 dF.out af bB bC;have a6:=aF;have a7:=aE;cases cq;replace aE:=G.hx HB aE;replace aF:=G.hx HB aF;replace bB:=eq_true bB;replace bC:=eq_true bC;have bD:0<=((au):Int):=G.da;have bE:(au)<(l3.length:Int):=G.da;obtain⟨b5,cr,aG⟩:=Kd.at_int ap.out (au) bD bE;have a8:=aG;obtain rfl:az=b5:=(by injection cr);replace aG:=G.hx HB aG;replace bD:=eq_true bD;replace bE:=eq_true bE;have bF:0<=(aa:Int):=G.da;have bG:aa<(l3.length:Int):=G.da;obtain⟨b6,ct,aH⟩:=Kd.at_int ap.out aa bF bG;have a9:=aH;obtain rfl:az=b6:=(by injection ct);replace aH:=G.hx HB aH;replace bF:=eq_true bF;replace bG:=eq_true bG;refine G.st 15 (S:=fun w'=>w'.cell? (ba.add ((af).toNat*2))=some (.int .i64 ((rd_T59 l1 af).f0))/\w'.cell? ⟨(ba.add ((af).toNat*2)).block,(ba.add ((af).toNat*2)).off+1,none⟩=some (.int .i64 ((rd_T59 l1 af).f1))/\w'.cell? (az.add ((au)).toNat)=some (.int .i64 (rd l3 (au)))/\w'.cell? (az.add (aa).toNat)=some (.int .i64 (rd l3 aa))) [] ⟨(G.hx HB a7),(G.hx HB a6),(G.hx HB a8),(G.hx HB a9)⟩ spec_l22Fresh.tab15 spec_l22Fresh.bits15 (fun hHeld HT_ HW_=> ?_);generalize wr.drew=ez at ab HB aE aF aG aH hHeld⊢;refine G.pu 0 125 1 ?_;refine G.pu 1 126 3 ?_;refine G.pu 2 127 7 ?_;refine G.pu 4 129 23 ?_;refine G.pu 5 130 55 ?_;refine G.pu 6 131 119 ?_;refine G.pu 7 132 247 ?_;refine G.pu 9 134 759 ?_;refine G.pu 10 135 1783 ?_;refine G.pu 11 136 3831 ?_;refine G.ta4 3 128 3839 ?_;refine G.ta4 8 133 4095 ?_;refine G.ta4 12 137 8191 ?_;refine G.on 13 138 16383 (fun K hK=> ?_);refine goes_ Try.func46 (cacK) rfl #[.int .i64 (rd l3 (au)),.int .i64 (rd l3 aa)] (by rfl) rfl rfl (cacP) ?_;with_reducible refine(spec_l1Tie.calls (rd l3 (au)) (rd l3 aa) aU aV _ dK.out).mono ?_
                  rintro e eA ⟨rfl,hb⟩;refine⟨_,rfl,?_⟩;replace ab:=G.bb ab hb;replace HB:=G.bs HB hb;(try clear hb);refine hK.out _ _ ⟨(G.hx HB a7),(G.hx HB a6),(G.hx HB a8),(G.hx HB a9)⟩ (fun hHeld=> ?_);clear hK K;refine G.no 138 ?_;refine G.pu 14 139 32767 ?_;refine done_ (done_of HT_.out (cacK)) ?_;try go_wp2
                  go_ret
                  exact⟨by first|rfl|(simp[errW_none,errW_some]<;>rfl)|(simp only[←a_,←bH];first|rfl|(simp[errW_none,errW_some]<;>rfl))|(simp[*,errW_none,errW_some]<;>rfl),G.cB HB.out⟩
                 ·rw[if_neg bm] at H;have dy:(((rd_T59 l1 af).f0)==aU&&(((rd_T59 l1 af).f1)==aV))=false:=by simpa using bm
                  (try(have dz:decide (((rd_T59 l1 af).f0)=aU&&(((rd_T59 l1 af).f1)==aV))=false:=by simpa using bm));(try(have dA:(((rd_T59 l1 af).f0)==aU&&(((rd_T59 l1 af).f1)==aV))=false:=by simpa using bm));(try(have ek:¬ (((rd_T59 l1 af).f0)=aU&&(((rd_T59 l1 af).f1)==aV)):=by simpa using bm));clear bm;have H':=G.m H;clear H;try go_wp2
                  replace ab:=G.m (blk_drew ab.out);replace HB:=G.m (below_drew1 HB.out);have bB:0<=(af:Int):=G.da;have bC:af<(l1.length:Int):=G.da;obtain⟨ba,cq,aE,aF⟩:=at_T59 dF.out af bB bC;have a6:=aF;have a7:=aE;cases cq;replace aE:=G.hx HB aE;replace aF:=G.hx HB aF;replace bB:=eq_true bB;replace bC:=eq_true bC;have bD:0<=((au):Int):=G.da;have bE:(au)<(l3.length:Int):=G.da;obtain⟨b5,cr,aG⟩:=Kd.at_int ap.out (au) bD bE;have a8:=aG;obtain rfl:az=b5:=(by injection cr);replace aG:=G.hx HB aG;replace bD:=eq_true bD;replace bE:=eq_true bE;have bF:0<=(aa:Int):=G.da;have bG:aa<(l3.length:Int):=G.da;obtain⟨b6,ct,aH⟩:=Kd.at_int ap.out aa bF bG;have a9:=aH;obtain rfl:az=b6:=(by injection ct);replace aH:=G.hx HB aH;replace bF:=eq_true bF;replace bG:=eq_true bG;refine G.st 15 (S:=fun w'=>w'.cell? (ba.add ((af).toNat*2))=some (.int .i64 ((rd_T59 l1 af).f0))/\w'.cell? ⟨(ba.add ((af).toNat*2)).block,(ba.add ((af).toNat*2)).off+1,none⟩=some (.int .i64 ((rd_T59 l1 af).f1))/\w'.cell? (az.add ((au)).toNat)=some (.int .i64 (rd l3 (au)))/\w'.cell? (az.add (aa).toNat)=some (.int .i64 (rd l3 aa))) [] ⟨(G.hx HB a7),(G.hx HB a6),(G.hx HB a8),(G.hx HB a9)⟩ spec_l22Fresh.tab15 spec_l22Fresh.bits15 (fun hHeld HT_ HW_=> ?_);generalize wr.drew=eB at ab HB aE aF aG aH hHeld⊢;refine G.pu 0 125 1 ?_;refine G.pu 1 126 3 ?_;refine G.pu 2 127 7 ?_;refine G.pu 4 129 23 ?_;refine G.pu 5 130 55 ?_;refine G.pu 6 131 119 ?_;refine G.pu 7 132 247 ?_;refine G.pu 9 134 759 ?_;refine G.pu 10 135 1783 ?_;refine G.pu 11 136 3831 ?_;refine G.ta4 3 128 3839 ?_;refine G.ta4 8 133 4095 ?_;refine G.ta4 12 137 8191 ?_;refine G.on 13 138 16383 (fun K hK=> ?_);refine goes_ Try.func46 (cacK) rfl #[.int .i64 (rd l3 (au)),.int .i64 (rd l3 aa)] (by rfl) rfl rfl (cacP) ?_;with_reducible refine(spec_l1Tie.calls (rd l3 (au)) (rd l3 aa) aU aV _ dK.out).mono ?_
                  rintro e eC ⟨rfl,hb⟩;refine⟨_,rfl,?_⟩;replace ab:=G.bb ab hb;replace HB:=G.bs HB hb;(try clear hb);refine hK.out _ _ ⟨(G.hx HB a7),(G.hx HB a6),(G.hx HB a8),(G.hx HB a9)⟩ (fun hHeld=> ?_);clear hK K;refine G.no 138 ?_;refine G.pu 14 139 32767 ?_;refine done_ (done_of HT_.out (cacK)) ?_;try go_wp2
                  go_roundg k5
                  case measure=>have:=bI.out;have:=bJ.out;have:=bv.out;have:=bQ.out;have:=c_.out;omega
                  case rel=>exact⟨(wrap64 (af+1)),(cacJ),H',⟨by have:=bI.out;have:=bJ.out;have:=bv.out;have:=bQ.out;have:=c_.out;omega⟩,⟨G.cb ab.out⟩,⟨G.cB HB.out⟩⟩
                ·rw[if_neg bZ] at H;have dx:=decide_eq_false bZ;clear bZ;have H':=G.m H;clear H
                 go_wp2
                 go_roundg k5
                 case measure=>have:=bI.out;have:=bJ.out;have:=bv.out;have:=bQ.out;have:=c_.out;omega
                 case rel=>exact⟨(wrap64 (aa+1)),(cacJ),H',⟨by have:=bI.out;have:=bJ.out;have:=bv.out;have:=bQ.out;have:=c_.out;omega⟩,⟨G.cb ab.out⟩,⟨G.cB HB.out⟩⟩
             ·obtain rfl:=Option.some.inj H;try go_wp2
              replace ab:=G.m (blk_drew ab.out);replace HB:=G.m (below_drew1 HB.out);have bh:0<=((aq):Int):=G.da;have bj:(aq)<(l3.length:Int):=G.da;obtain⟨az,co,aA⟩:=Kd.at_int ap.out (aq) bh bj;have aY:=aA;cases co;replace aA:=G.hx HB aA;replace bh:=eq_true bh;replace bj:=eq_true bj;have bk:0<=(aa:Int):=G.da;have bl:aa<(l3.length:Int):=G.da;obtain⟨b4,cp,aB⟩:=Kd.at_int ap.out aa bk bl;have aZ:=aB;obtain rfl:az=b4:=(by injection cp);replace aB:=G.hx HB aB;replace bk:=eq_true bk;replace bl:=eq_true bl;refine G.st 12 (S:=fun w'=>w'.cell? ⟨ao,0,none⟩=some (.int .i64 ae)/\w'.cell? ⟨ao,1,none⟩=some (.slice av ac.length aw)/\w'.cell? (az.add ((aq)).toNat)=some (.int .i64 (rd l3 (aq)))/\w'.cell? (az.add (aa).toNat)=some (.int .i64 (rd l3 aa))) [] ⟨G.z ab 0,G.z ab 1,(G.hx HB aY),(G.hx HB aZ)⟩ spec_l22Fresh.tab10 spec_l22Fresh.bits10 (fun hHeld HT_ HW_=> ?_);generalize wc.drew=eD at ab HB aA aB hHeld⊢;refine G.pu 1 108 2 ?_;refine G.pu 2 109 6 ?_;refine G.pu 3 110 14 ?_;refine G.pu 4 111 30 ?_;refine G.pu 6 113 94 ?_;refine G.pu 7 114 222 ?_;refine G.pu 8 115 478 ?_;refine G.ta4 0 107 479 ?_;refine G.ta4 5 112 511 ?_;refine G.ta4 9 116 1023 ?_;refine G.on 10 117 2047 (fun K hK=> ?_);refine goes_ Try.func86 (cacK) rfl #[.agg #[.int .i64 ae,.slice av ac.length aw],.int .i64 (rd l3 (aq)),.int .i64 (rd l3 aa)] (by rfl) rfl rfl (cacO) ?_;with_reducible refine(spec_NetHas.calls aR ae _ _ ac (rd l3 (aq)) (rd l3 aa) false _ ?side1 ?side2 dJ.out).mono ?_
              (case side1=>exact G.cC (Kd.C_below bn.out HB.out));(case side2=>exact bo.out);rintro e eE ⟨rfl,hb⟩;refine⟨_,rfl,?_⟩;replace ab:=G.bb ab hb;replace HB:=G.bs HB hb;(try clear hb);refine hK.out _ _ ⟨G.z ab 0,G.z ab 1,(G.hx HB aY),(G.hx HB aZ)⟩ (fun hHeld=> ?_);clear hK K;refine G.no 117 ?_;refine G.pu 11 118 4095 ?_;refine done_ (done_of HT_.out (cacK)) ?_;try go_wp2
              go_ret
              exact⟨by first|rfl|(simp[errW_none,errW_some]<;>rfl)|(simp only[←a_];first|rfl|(simp[errW_none,errW_some]<;>rfl))|(simp[*,errW_none,errW_some]<;>rfl),G.cB HB.out⟩
      ·rw[if_neg bX] at H;have cH:=decide_eq_false bX;clear bX;obtain rfl:=Option.some.inj H
       go_wp2
       go_ret
       exact⟨cacN,G.cB HB.out⟩
end Go.Proofs.Ytgeonpciodepgaa.P
