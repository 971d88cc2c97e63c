/- The proof's parts ahead of the row: of no condition of their own. -/
import Derived.Test.YtgeonpciodepgaaZFnEarBlock4
set_option linter.unusedVariables false
set_option linter.unusedSimpArgs false
namespace Go.Proofs.Ytgeonpciodepgaa.P
open Go.RowKit Go.Proofs.YtgeonpciodepgaaW.PrintWords Go.Proofs.YtgeonpciodepgaaW.PrintLast Go.Proofs.YtgeonpciodepgaaW.PrintMore Go.Proofs.YtgeonpciodepgaaW.PrintWords.Kd Go.Proofs.YtgeonpciodepgaaW.PrintMore.Kd
attribute [local go_sem] wC wE wJ wG wy ww wB wF
mutual
def qw.l0:Nat->List Int->Int->List (List Int)->Int->Int->Int->Int->List (S59)->Option (List (List Int))
 |0,_,_,_,_,_,_,_,_=>none
 |k+1,x1,x2,x3,x9,x26,x27,x1100000,x1100001=>if x27<x26 then((uW.f k x1100000 x1100001 x9 x27).bind fun t1104=>(if t1104=true then((uU.f k x1 x27).bind fun t1105=>(qw.j1 k x1 x2 x3 x9 x27 x26 x27 (!t1105) x1100000 x1100001)) else(qw.j1 k x1 x2 x3 x9 x27 x26 x27 false x1100000 x1100001))) else(some x3)
def qw.j1:Nat->List Int->Int->List (List Int)->Int->Int->Int->Int->Bool->Int->List (S59)->Option (List (List Int))
 |0,_,_,_,_,_,_,_,_,_,_=>none
 |k+1,x1,x2,x3,x9,x10,x26,x27,x39,x1100000,x1100001=>if x39=true then((wR.f x1).bind fun t1106=>((some (([x10]:List Int):List Int)).bind fun y1109=>(if t1106.length+y1109.length<17592186044416 then((qw.f k x1100000 x1100001 (t1106++y1109) x2 x3).bind fun t1115=>(qw.l0 k x1 x2 t1115 x9 x26 (wrap64 (x27+1)) x1100000 x1100001)) else(none)))) else(qw.l0 k x1 x2 x3 x9 x26 (wrap64 (x27+1)) x1100000 x1100001)
def qw.f:Nat->Int->List (S59)->List Int->Int->List (List Int)->Option (List (List Int))
 |0,_,_,_,_,_=>none
 |k+1,a0_0,l0_1,l1,a2,a3=>if 0<=(wrap64 ((l1.length:Int) - 1)) then(if(wrap64 ((l1.length:Int) - 1))<(l1.length:Int) then(if(rd l1 (wrap64 ((l1.length:Int) - 1)))=a2 then((wR.f l1).bind fun t1101=>(if a3.length<5864062014805 then(some (a3++[t1101])) else(none))) else(qw.l0 k l1 a2 a3 (rd l1 (wrap64 ((l1.length:Int) - 1))) a0_0 0 a0_0 l0_1)) else(none)) else(none)
end
def qw.T8:Bool×List (List Nat×List Nat):=(true,[([],[]),([],[]),([1],[1]),([],[]),([3],[3]),([2,4,2],[2,4]),([],[]),([],[]),([0,5,6,7,5],[0,5,6,7]),([8,8,0,1,2,3,4,5,6,7,8],[7,8])])
def qw.B8:List Nat:=[0,0,2,0,8,30,0,0,255,511]
theorem qw.xw:p_ .any (opsOf Try.f130 8)=qw.T8:=by kernel_rfl
theorem qw.xu:qQ qw.T8.2 qw.B8=true:=by kernel_rfl
set_option maxHeartbeats 8000000 in
set_option maxRecDepth 100000 in
theorem qw.calls (k:Nat):∀ (a0_0:Int) (A0_1:Option Addr) (c0_1:Nat) (l0_1:List (S59)) (A1:Option Addr) (c1:Nat) (l1:List Int) (a2:Int) (vo:Value) (a3:List (List Int)) (r:List (List Int)) (w0 w:World) (hr0_1:Kd.C k59 w0 A0_1 l0_1.length l0_1) (hc0_1:l0_1.length<=c0_1) (hB0:Below w0.heap.size w0 w) (hX:Kd.R (Kd.int .i64) 3 w w0.heap.size (fun _=>True) (.slice A1 l1.length c1) l1/\Kd.S (Kd.slice 3 (Kd.int .i64)) 45 w w0.heap.size (fun _=>True) vo a3) (h:qw.f k a0_0 l0_1 l1 a2 a3=some r),
  Calls Try.prog 130 #[.agg #[.int .i64 a0_0,.slice A0_1 l0_1.length c0_1],.slice A1 l1.length c1,.int .i64 a2,vo] w fun e w'=>∃v1_:Value,e=.returned v1_/\Kd.S (Kd.slice 3 (Kd.int .i64)) 45 w' w0.heap.size (fun _=>True) v1_ r/\Below w0.heap.size w0 w'/\w.grownBy w' vo.ownBlock/\(v1_.ownBlock=vo.ownBlock\/∃b,v1_.ownBlock=some b/\w.heap.size<=b):=by
 induction k using Nat.strongRecOn with
 |_ k ih=>
 intro a0_0 A0_1 c0_1 l0_1 A1 c1 l1 a2 vo a3 r w0 w hr0_1 hc0_1 hB0 hX h
 cases k with
 |zero=>exact absurd h (by simp[qw.f])
 |succ k=>
 simp only [qw.f]at h
 have hu31:=Try.underlying31
 have HRA:=dm hr0_1
 have HR0_1:=dm (nT hr0_1 hB0)
 have HC0_1:=dm hc0_1
 clear hr0_1 hc0_1
 have HB0:=dm hB0
 have HX:=dm (LX.start hB0 hX.1 hX.2)
 have HR1:=dm (nM hX.1).2.2
 have HC1:=dm (nM hX.1).2.1
 clear hB0 hX
 have HB:=dm (Below.refl w.heap.size w)
 have H:(if 0<=(wrap64 ((l1.length:Int) - 1)) then(if(wrap64 ((l1.length:Int) - 1))<(l1.length:Int) then(if(rd l1 (wrap64 ((l1.length:Int) - 1)))=a2 then((wR.f l1).bind fun t1101=>(if a3.length<5864062014805 then(some (a3++[t1101])) else(none))) else(qw.l0 k l1 a2 a3 (rd l1 (wrap64 ((l1.length:Int) - 1))) a0_0 0 a0_0 l0_1)) else(none)) else(none))=some r:=h
 clear h
 obtain⟨ji5,hji5⟩:∃j_:Int,(wrap64 ((l1.length:Int) - 1))=j_:=⟨_,rfl⟩
 replace H:(if 0<=(ji5) then(if(ji5)<(l1.length:Int) then(if(rd l1 (ji5))=a2 then((wR.f l1).bind fun t1101=>(if a3.length<5864062014805 then(some (a3++[t1101])) else(none))) else(qw.l0 k l1 a2 a3 (rd l1 (ji5)) a0_0 0 a0_0 l0_1)) else(none)) else(none))=some r:=by first|(rw[hji5]at H;exact H)|(simp only [hji5]at H⊢;exact H)
 have hji5w:(IntKind.i64.wrap ((l1.length:Int) - 1))=ji5:=(qA _).trans hji5
 by_cases c6:0<=(ji5)
 ·rw[if_pos c6]at H
  have c6b0:decide (0<=(ji5))=true:=decide_eq_true c6
  clear c6
  by_cases c7:(ji5)<(l1.length:Int)
  ·rw[if_pos c7]at H
   have c7b0:decide ((ji5)<(l1.length:Int))=true:=decide_eq_true c7
   clear c7
   by_cases c8:(rd l1 (ji5))=a2
   ·rw[if_pos c8]at H
    have c8b0:((rd l1 (ji5))==a2)=true:=beq_iff_eq.mpr c8
    have c8b1:((rd l1 (ji5)) !=a2)=false:=bne_eq_false_iff_eq.mpr c8
    clear c8
    obtain⟨t1101,A9,H⟩:=ol H
    replace H:(if a3.length<5864062014805 then(some (a3++[t1101])) else(none))=some r:=H
    by_cases cLw:a3.length<5864062014805
    ·rw[if_pos cLw]at H
     have LMw:=dm cLw
     clear cLw
     obtain rfl:=Option.some.inj H
     go_enter Try.func130,Try.ntmps130
     go_wp2_with (first|((with_reducible refine nP 4 rfl ?_);refine om 4 #[.int .i64 a0_0,.slice A0_1 l0_1.length c0_1] 31 ?_;intro gb1099 hg w10 nu hb;have n0:=nJ HB hb;have n1:=dm (nu);have n2:=dm ((by rw[hg];exact(nX (nC HB.out)):w.heap.size<=gb1099));have n3:=dm ((by rw[hg];exact(nX (nC HB.out)):w.heap.size<=gb1099));clear HB;revert n0 n1 n2 n3;intro HB BK1099 GW1099 GE1099;clear hb nu hg;have p1100:0<=((ji5):Int):=of_decide_eq_true (uh);have q1100:(ji5)<(l1.length:Int):=of_decide_eq_true (uh);obtain⟨ad1100,e1100,hx1100_0⟩:=oG HR1.out (ji5) p1100 q1100;cases e1100;replace hx1100_0:=nE HB hx1100_0;replace p1100:=eq_true p1100;replace q1100:=eq_true q1100)|((with_reducible refine oh 103 rfl ?_);refine og 22 Try.func103 #[.slice (some ad1100) l1.length c1] ?_;(with_reducible refine(wR.calls _ _ l1 t1101 _ ?ng ?ni A9.out).mono ?_);(case ng=>exact nO (nT HR1.out HB.out));(case ni=>exact HC1.out);rintro e w11 ⟨v1102,rfl,ho0,hb⟩;refine⟨_,rfl,?_⟩;have n0:=dm (oF ho0 (nX (nC HB.out)));have n1:=nA BK1099 hb;have n2:=nJ HB hb;clear BK1099 HB;revert n0 n1 n2;intro HO1103 BK1099 HB;(try clear hb ho0);obtain⟨Aow,cow,eow⟩:=nW HO1103.out;subst eow)|((with_reducible refine sj (b:=.append) (xs:= #[.tmp 20,.tmp 23]) rfl ?_);at_builtin;refine IU (Kd.slice 3 (Kd.int .i64)) (w0:=w0) w0.heap.size rfl (.tmp 20) (.tmp 23) 25 45 (.slice none 0 0) 24 rfl Try.underlying25 Aa rfl (by decide) (by omega) vo a3 t1101 [.slice Aow t1101.length cow] (fun _=>True) (fun k_=>some k_=(.slice Aow t1101.length cow:Value).ownBlock) rfl rfl ?aP (fun k_ hk_=>⟨trivial,fun e_=>by have h1_:=Ki HX.out.row k_ e_.symm;have h2_:=vL HO1103.out k_ hk_.symm;omega⟩) ?aF ?aO ?aB ?aS ?aL ?_;(case aP=>exact JR (nL (FN rfl (oF HO1103.out HB0.out.size)) (fun _ h_=>h_)));(case aB=>exact(oL HB0.out (nC HB.out)));(case aF=>exact(fun _ _=>trivial));(case aO=>exact uZ (um (yw HX.out.row) (nC HB.out)) (fun k_ hk=>⟨trivial,fun e_=>by have h2_:=vL HO1103.out k_ e_.symm;have h3_:=hk.2.2.1;omega⟩));(case aS=>exact Nat.le_trans HB0.out.size (nX (nC HB.out)));(case aL=>have:=LMw.out;omega);intro vw_ ww_ ho hb hg hat;have HF:=dm (LX.app (nC HB.out) ho hb hg hat);clear ho hb hg hat BK1099 HB))
     go_ret
     exact⟨_,by first|rfl|(simp[qa,qb]<;>rfl),HF.out⟩
    ·rw[if_neg cLw]at H
     exact absurd H (by simp)
   ·rw[if_neg c8]at H
    have c8b0:((rd l1 (ji5))==a2)=false:=beq_eq_false_iff_ne.mpr c8
    have c8b1:((rd l1 (ji5)) !=a2)=true:=bne_iff_ne.mpr c8
    have H':=dm H
    clear H
    go_enter Try.func130,Try.ntmps130
    go_wp2_with (first|((with_reducible refine nP 4 rfl ?_);refine om 4 #[.int .i64 a0_0,.slice A0_1 l0_1.length c0_1] 31 ?_;intro gb1099 hg w12 nu hb;have n0:=nJ HB hb;have n1:=dm (nu);have n2:=dm ((by rw[hg];exact(nX (nC HB.out)):w.heap.size<=gb1099));have n3:=dm ((by rw[hg];exact(nX (nC HB.out)):w.heap.size<=gb1099));clear HB;revert n0 n1 n2 n3;intro HB BK1099 GW1099 GE1099;clear hb nu hg;have p1100:0<=((ji5):Int):=of_decide_eq_true (uh);have q1100:(ji5)<(l1.length:Int):=of_decide_eq_true (uh);obtain⟨ad1100,e1100,hx1100_0⟩:=oG HR1.out (ji5) p1100 q1100;cases e1100;replace hx1100_0:=nE HB hx1100_0;replace p1100:=eq_true p1100;replace q1100:=eq_true q1100;have⟨hcz13_0,hcz13_1,hfz13_0,hfz13_1⟩:=nK (w:=w12) BK1099))
    go_loopg [3,27] k (fun kq v3 v27 w'=>∃ (vq:Value) (x3_1:List (List Int)) (x27_1:Int),vq=v3/\v27=.int .i64 x27_1/\lm (qw.l0 kq l1 a2 x3_1 (rd l1 (ji5)) a0_0 x27_1 a0_0 l0_1=some r)/\lm (kq<=k)/\lm (w'.heap[gb1099]? =some (.cells #[.int .i64 a0_0,(.slice A0_1 l0_1.length c0_1)] 31 (0,0)))/\lm (LX w0 w (some ad1100) c1 l1 vo vq x3_1 w'))
    case atStart=>exact⟨vo,a3,(0),rfl,(by first|rfl|(simp;done)|(simp[*];done)),H',⟨Nat.le_refl _⟩,⟨nG BK1099.out⟩,⟨LX.below HX.out (nC HB.out)⟩⟩
    case round=>
     clear H'
     (try clear c1 c6b0 c7b0 c8 c8b0 c8b1 hcz13_0 hcz13_1 hfz13_0 hfz13_1 hx1100_0 p1100 q1100)
     obtain⟨vq,x3_1,x27_1,rfl,rfl,HA,HK1,BK1099,HL⟩:=hrel
     clear HR0_1 HR1 HB
     have HR0_1:=dm (nT HRA.out HL.out.b)
     have HR1:=dm (nM HL.out.way).2.2
     have HB:=dm (Below.refl wr.heap.size wr)
     cases gk with
     |zero=>exact absurd HA.out (by simp[qw.l0])
     |succ k1=>
      have H:=HA.out
      clear HA
      simp only [qw.l0]at H
      by_cases c14:x27_1<a0_0
      ·rw[if_pos c14]at H
       have c14b0:decide (x27_1<a0_0)=true:=decide_eq_true c14
       clear c14
       have HC15:=dm H
       clear H
       go_upto_region 7 with(fail)
       go_cut [39] (fun v39 wc=>∃ (kq:Nat) (x39_14:Bool),v39=.bool x39_14/\lm (qw.j1 kq l1 a2 x3_1 (rd l1 (ji5)) x27_1 a0_0 x27_1 x39_14 a0_0 l0_1=some r)/\lm (kq<=k1)/\lm (wc.heap[gb1099]? =some (.cells #[.int .i64 a0_0,(.slice A0_1 l0_1.length c0_1)] 31 (0,0)))/\lm (Below wr.heap.size wr wc))
       case first=>
        have H:=HC15.out
        clear HC15
        obtain⟨t1104,A16,H⟩:=ol H
        replace H:(if t1104=true then((uU.f k1 l1 x27_1).bind fun t1105=>(qw.j1 k1 l1 a2 x3_1 (rd l1 (ji5)) x27_1 a0_0 x27_1 (!t1105) a0_0 l0_1)) else(qw.j1 k1 l1 a2 x3_1 (rd l1 (ji5)) x27_1 a0_0 x27_1 false a0_0 l0_1))=some r:=H
        by_cases c17:t1104=true
        ·subst c17
         have H1:((uU.f k1 l1 x27_1).bind fun t1105=>(qw.j1 k1 l1 a2 x3_1 (rd l1 (ji5)) x27_1 a0_0 x27_1 (!t1105) a0_0 l0_1))=some r:=by rw[if_pos rfl]at H;exact H
         clear H
         have H:=H1
         clear H1
         obtain⟨t1105,A18,H⟩:=ol H
         replace H:(qw.j1 k1 l1 a2 x3_1 (rd l1 (ji5)) x27_1 a0_0 x27_1 (!t1105) a0_0 l0_1)=some r:=H
         have H':=dm H
         clear H
         have⟨hcz19_0,hcz19_1,hfz19_0,hfz19_1⟩:=nK (w:=wr) BK1099
         go_wp2_with (first|((with_reducible refine wZ (f:=65) rfl ?_);refine wV (some 33) rfl rfl Try.func65 (by kernel_rfl) rfl #[.agg #[.int .i64 a0_0,.slice A0_1 l0_1.length c0_1],.int .i64 (rd l1 (ji5)),.int .i64 x27_1] rfl ((by(try simp only [List.map_toArray,List.map_cons,List.map_nil]);first|done|(simp only [hji5];rfl)|rfl|(simp only [List.length_drop,List.length_take];rfl))) ?_;(with_reducible refine(uW.calls k1 a0_0 _ _ l0_1 (rd l1 (ji5)) x27_1 true _ ?ng ?ni A16.out).mono ?_);(case ng=>exact nO (nT HR0_1.out HB.out));(case ni=>exact HC0_1.out);rintro e w20 ⟨rfl,hb⟩;refine⟨_,rfl,?_⟩;have n0:=nA BK1099 hb;have n1:=nJ HB hb;clear BK1099 HB;revert n0 n1;intro BK1099 HB;(try clear hb))|(go_at_call 89;(with_reducible refine(uU.calls k1 _ _ l1 x27_1 t1105 _ ?ng ?ni A18.out).mono ?_);(case ng=>exact nO (nT HR1.out HB.out));(case ni=>exact HC1.out);rintro e w' ⟨rfl,⟨nd,rfl⟩⟩))
         go_meet
         case rel=>exact⟨_,(!t1105),((by first|rfl|(simp;done)|(simp[*];done))),H',⟨by have:=HK1.out;first|omega|exact Nat.le_refl _⟩,⟨nG BK1099.out⟩,⟨nC HB.out⟩⟩
        ·replace c17:=Bool.eq_false_iff.mpr c17
         subst c17
         have H1:(qw.j1 k1 l1 a2 x3_1 (rd l1 (ji5)) x27_1 a0_0 x27_1 false a0_0 l0_1)=some r:=by rw[if_neg (show¬ (false=true) by decide)]at H;exact H
         clear H
         have H:=H1
         clear H1
         have H':=dm H
         clear H
         have⟨hcz21_0,hcz21_1,hfz21_0,hfz21_1⟩:=nK (w:=wr) BK1099
         go_wp2_with (first|((with_reducible refine wZ (f:=65) rfl ?_);refine wV (some 33) rfl rfl Try.func65 (by kernel_rfl) rfl #[.agg #[.int .i64 a0_0,.slice A0_1 l0_1.length c0_1],.int .i64 (rd l1 (ji5)),.int .i64 x27_1] rfl ((by(try simp only [List.map_toArray,List.map_cons,List.map_nil]);first|done|(simp only [hji5];rfl)|rfl|(simp only [List.length_drop,List.length_take];rfl))) ?_;(with_reducible refine(uW.calls k1 a0_0 _ _ l0_1 (rd l1 (ji5)) x27_1 false _ ?ng ?ni A16.out).mono ?_);(case ng=>exact nO (nT HR0_1.out HB.out));(case ni=>exact HC0_1.out);rintro e w22 ⟨rfl,hb⟩;refine⟨_,rfl,?_⟩;have n0:=nA BK1099 hb;have n1:=nJ HB hb;clear BK1099 HB;revert n0 n1;intro BK1099 HB;(try clear hb)))
         go_meet
         case rel=>exact⟨_,(false),((by first|rfl|(simp;done)|(simp[*];done))),H',⟨by have:=HK1.out;first|omega|exact Nat.le_refl _⟩,⟨nG BK1099.out⟩,⟨nC HB.out⟩⟩
       case rest=>
        clear HC15
        (try clear c14b0)
        obtain⟨kq,x39_14,rfl,HA,HJ14,BK1099,HB⟩:=hcut
        cases kq with
        |zero=>exact absurd HA.out (by simp[qw.j1])
        |succ kj14=>
         have H:=HA.out
         clear HA
         simp only [qw.j1]at H
         by_cases c23:x39_14=true
         ·subst c23
          have H1:((wR.f l1).bind fun t1106=>((some (([x27_1]:List Int):List Int)).bind fun y1109=>(if t1106.length+y1109.length<17592186044416 then((qw.f kj14 a0_0 l0_1 (t1106++y1109) a2 x3_1).bind fun t1115=>(qw.l0 kj14 l1 a2 t1115 (rd l1 (ji5)) a0_0 (wrap64 (x27_1+1)) a0_0 l0_1)) else(none))))=some r:=by rw[if_pos rfl]at H;exact H
          clear H
          have H:=H1
          clear H1
          obtain⟨t1106,A24,H⟩:=ol H
          replace H:((some (([x27_1]:List Int):List Int)).bind fun y1109=>(if t1106.length+y1109.length<17592186044416 then((qw.f kj14 a0_0 l0_1 (t1106++y1109) a2 x3_1).bind fun t1115=>(qw.l0 kj14 l1 a2 t1115 (rd l1 (ji5)) a0_0 (wrap64 (x27_1+1)) a0_0 l0_1)) else(none)))=some r:=H
          obtain⟨y1109,hy1109⟩:∃y_:List Int,y_=(([x27_1]:List Int)):=⟨_,rfl⟩
          replace H:(if t1106.length+y1109.length<17592186044416 then((qw.f kj14 a0_0 l0_1 (t1106++y1109) a2 x3_1).bind fun t1115=>(qw.l0 kj14 l1 a2 t1115 (rd l1 (ji5)) a0_0 (wrap64 (x27_1+1)) a0_0 l0_1)) else(none))=some r:=by first|(rw[hy1109];with_reducible exact H)|(have H2_:=(Option.bind_some _ _).symm.trans H;rw[hy1109];with_reducible exact H2_)|(have H2_:=(Option.bind_some _ _).symm.trans H;with_reducible exact H2_)|with_reducible exact H|(rw[hy1109];exact H)|exact H
          have Ny1109:=dm hy1109
          clear hy1109
          by_cases c25:t1106.length+y1109.length<17592186044416
          ·rw[if_pos c25]at H
           have LMc25:=dm c25
           clear c25
           obtain⟨y1112,hy1112⟩:∃y_:List Int,y_=(t1106++y1109):=⟨_,rfl⟩
           replace H:((qw.f kj14 a0_0 l0_1 y1112 a2 x3_1).bind fun t1115=>(qw.l0 kj14 l1 a2 t1115 (rd l1 (ji5)) a0_0 (wrap64 (x27_1+1)) a0_0 l0_1))=some r:=by first|(rw[hy1112];with_reducible exact H)|(have H2_:=(Option.bind_some _ _).symm.trans H;rw[hy1112];with_reducible exact H2_)|(have H2_:=(Option.bind_some _ _).symm.trans H;with_reducible exact H2_)|with_reducible exact H|(rw[hy1112];exact H)|exact H
           have Ny1112:=dm hy1112
           clear hy1112
           obtain⟨t1115,A26,H⟩:=ol H
           replace H:(qw.l0 kj14 l1 a2 t1115 (rd l1 (ji5)) a0_0 (wrap64 (x27_1+1)) a0_0 l0_1)=some r:=H
           have H':=dm H
           clear H
           try go_wp2
           have n0:=dm (nV BK1099.out)
           have n1:=dm (o9 HB.out)
           clear BK1099 HB
           revert n0 n1
           intro BK1099 HB
           refine pU 10 (S:=fun w'=>w'.cell? ⟨gb1099,0,none⟩=some (.int .i64 a0_0)/\w'.cell? ⟨gb1099,1,none⟩=some (.slice A0_1 l0_1.length c0_1)) [] ⟨nk BK1099 0,nk BK1099 1⟩ qw.xw qw.xu (fun hHeld HT_ HW_=>?_)
           generalize wc.drew=w27 at BK1099 HB hHeld⊢
           refine lq 1 41 2 ?_
           refine lq 3 43 10 ?_
           refine lq 6 46 74 ?_
           refine lq 7 47 202 ?_
           refine qZ 0 40 203 ?_
           refine yC (σ:=Value×Value) 3 (pg 10 223) (fun s_=>[(42,s_.1),(44,s_.2)]) (fun s_ w'=>(w'.cell? ⟨gb1099,0,none⟩=some (.int .i64 a0_0)/\w'.cell? ⟨gb1099,1,none⟩=some (.slice A0_1 l0_1.length c0_1))/\(Kd.R (Kd.int .i64) 3 w' wr.heap.size (fun k_=>some k_≠(s_.2:Value).ownBlock) s_.1 t1106)/\(Kd.R (Kd.int .i64) 3 w' wr.heap.size (fun k_=>some k_≠(s_.1:Value).ownBlock) s_.2 y1109)/\(w'.heap[gb1099]? =some (.cells #[.int .i64 a0_0,.slice A0_1 l0_1.length c0_1] 31 (0,0)))/\(Below wr.heap.size wr w')) ?_ ?_
           rotate_left
           ·intro rT
            refine vR (i:=2) (j:=4) (Ni:=some 42) (Nj:=some 44) (pg 10 207) (pg 10 219) rfl rfl rfl rfl (vM HT_.out (by kernel_rfl)) (by decide) (by decide) (fun K hK=>?_) (fun K hK=>?_)
            ·skip
             refine oO Try.func103 #[.slice (some ad1100) l1.length c1] ?_
             with_reducible refine(wR.calls _ _ l1 t1106 _ ?ng ?ni A24.out).mono ?_
             (case ng=>exact nO (nT HR1.out HB.out))
             (case ni=>exact HC1.out)
             rintro e w28 ⟨v1107,rfl,ho0,hb⟩
             refine⟨_,rfl,?_⟩
             have n0:=dm (oF ho0 (nX (nC HB.out)))
             have n1:=nA BK1099 hb
             have n2:=nJ HB hb
             clear BK1099 HB
             revert n0 n1 n2
             intro HO1108 BK1099 HB
             (try clear hb ho0)
             refine hK.out _ _ ⟨nk BK1099 0,nk BK1099 1⟩ (fun hHeld=>?_)
             clear hK K
             refine nQ 42 ?_
             refine oD 4 44 223 (fun K hK=>?_)
             refine AR (Kd.int .i64) _ 3 ?hg (N:=44) ?hd (xs:=([x27_1]:List Int)) (inner:=[.int .i64 x27_1]) (ok:=fun _=>True) (okp:=fun _=>True) ?hr ?hp (fun _ hk=>hk) trivial (Below.refl _ _) (Nat.le_refl _) (by simp) ?_;(case hd=>rfl);(case hg=>rfl);(case hr=>first|(go_simp;done)|(go_simp;rfl));(case hp=>exact(oq.one (show Kd.M (Kd.int .i64) _ _ _ x27_1 [.int .i64 x27_1] from rfl) (oq.none _ _)))
             intro v1110 w29 ho30 hb hg_ pq
             clear hg_ pq
             (first|rw[←Ny1109.out]at ho30|(simp only [Int.reduceToNat]at ho30;rw[←Ny1109.out]at ho30))
             have n0:=qm HO1108 ho30 hb
             have n1:=dm (oF (pV ho30 (oN (nH HO1108.out))) (nX (nC HB.out)))
             have n2:=nA BK1099 hb
             have n3:=nJ HB hb
             clear HO1108 BK1099 HB
             revert n0 n1 n2 n3
             intro HO1108 HO1111 BK1099 HB
             clear hb ho30
             refine hK.out _ _ ⟨nk BK1099 0,nk BK1099 1⟩ (fun hHeld=>?_)
             clear hK K
             refine nQ 44 ?_
             exact rE (by simp only [ry,Act.put,List.setIfInBounds_toArray,List.set_cons_zero,List.set_cons_succ]) (rT (v1107,v1110) _ ⟨hHeld,((by(with_reducible repeat(first|apply nY|apply nZ|apply nN));exact nL HO1108.out (fun _ hk=>hk.2))),((by(with_reducible repeat(first|apply nY|apply nZ|apply nN));exact nL HO1111.out (fun _ hk=>hk.2))),(nG BK1099.out),(nC HB.out)⟩)
            ·skip
             refine AR (Kd.int .i64) _ 3 ?hg (N:=44) ?hd (xs:=([x27_1]:List Int)) (inner:=[.int .i64 x27_1]) (ok:=fun _=>True) (okp:=fun _=>True) ?hr ?hp (fun _ hk=>hk) trivial (Below.refl _ _) (Nat.le_refl _) (by simp) ?_;(case hd=>rfl);(case hg=>rfl);(case hr=>first|(go_simp;done)|(go_simp;rfl));(case hp=>exact(oq.one (show Kd.M (Kd.int .i64) _ _ _ x27_1 [.int .i64 x27_1] from rfl) (oq.none _ _)))
             intro v1110 w28 ho29 hb hg_ pq
             clear hg_ pq
             (first|rw[←Ny1109.out]at ho29|(simp only [Int.reduceToNat]at ho29;rw[←Ny1109.out]at ho29))
             have n0:=dm (oF ho29 (nX (nC HB.out)))
             have n1:=nA BK1099 hb
             have n2:=nJ HB hb
             clear BK1099 HB
             revert n0 n1 n2
             intro HO1111 BK1099 HB
             clear hb ho29
             refine hK.out _ _ ⟨nk BK1099 0,nk BK1099 1⟩ (fun hHeld=>?_)
             clear hK K
             refine nQ 44 ?_
             refine oD 2 42 223 (fun K hK=>?_)
             refine oO Try.func103 #[.slice (some ad1100) l1.length c1] ?_
             with_reducible refine(wR.calls _ _ l1 t1106 _ ?ng ?ni A24.out).mono ?_
             (case ng=>exact nO (nT HR1.out HB.out))
             (case ni=>exact HC1.out)
             rintro e w30 ⟨v1107,rfl,ho0,hb⟩
             refine⟨_,rfl,?_⟩
             have n0:=qm HO1111 ho0 hb
             have n1:=dm (oF (pV ho0 (oN (nH HO1111.out))) (nX (nC HB.out)))
             have n2:=nA BK1099 hb
             have n3:=nJ HB hb
             clear HO1111 BK1099 HB
             revert n0 n1 n2 n3
             intro HO1111 HO1108 BK1099 HB
             (try clear hb ho0)
             refine hK.out _ _ ⟨nk BK1099 0,nk BK1099 1⟩ (fun hHeld=>?_)
             clear hK K
             refine nQ 42 ?_
             exact rE (by simp only [ry,Act.put,List.setIfInBounds_toArray,List.set_cons_zero,List.set_cons_succ]) (rT (v1107,v1110) _ ⟨hHeld,((by(with_reducible repeat(first|apply nY|apply nZ|apply nN));exact nL HO1108.out (fun _ hk=>hk.2))),((by(with_reducible repeat(first|apply nY|apply nZ|apply nN));exact nL HO1111.out (fun _ hk=>hk.2))),(nG BK1099.out),(nC HB.out)⟩)
           rintro⟨v1107,v1110⟩ w31 ⟨hS_,h0_,h1_,h2_,h3_⟩
           have n0:lm (Kd.R (Kd.int .i64) 3 w31 wr.heap.size (fun k_=>some k_≠(v1110:Value).ownBlock) v1107 t1106):=⟨h0_⟩
           have n1:lm (Kd.R (Kd.int .i64) 3 w31 wr.heap.size (fun k_=>some k_≠(v1107:Value).ownBlock) v1110 y1109):=⟨h1_⟩
           have n2:lm (w31.heap[gb1099]? =some (.cells #[.int .i64 a0_0,.slice A0_1 l0_1.length c0_1] 31 (0,0))):=⟨h2_⟩
           have n3:lm (Below wr.heap.size wr w31):=⟨h3_⟩
           clear BK1099 HB
           clear h0_ h1_ h2_ h3_
           revert n0 n1 n2 n3
           intro HO1108 HO1111 BK1099 HB
           have hHeld:w31.cell? ⟨gb1099,0,none⟩=some (.int .i64 a0_0)/\w31.cell? ⟨gb1099,1,none⟩=some (.slice A0_1 l0_1.length c0_1):=hS_
           obtain⟨Ao33,co33,eo33⟩:=nW HO1111.out
           (first|subst eo33|(injection eo33 with f1_ f2_ f3_;have f4_:=f1_.symm;have f5_:=f3_.symm;clear f1_ f2_ f3_;subst f4_;subst f5_))
           refine rE (a':= ?_) ?_ ?_
           rotate_left
           ·simp only [ry,Act.put,List.setIfInBounds_toArray,List.set_cons_zero,List.set_cons_succ]
            rfl
           refine oD 5 45 255 (fun K hK=>?_)
           refine EY (Kd.int .i64) (w0:=wr) wr.heap.size (by rfl) (.tmp 42) (.tmp 44) 45 3 (.int .i64 0) 8 rfl Try.underlying45 info3 rfl (by decide) (by omega) v1107 t1106 y1109 _ _ _ (fun k_=>some k_≠(.slice Ao33 y1109.length co33:Value).ownBlock) (fun _=>False) rfl rfl ?aO ?aR (fun _ _ h=>h) (fun _ h=>h.elim) ?aF ?aB ?aS ?aL ?_
           (case aR=>exact nO (nM HO1111.out).2.2)
           (case aB=>exact(nC HB.out))
           (case aF=>exact(fun k_ hk=>Kd.fresh' (oN (nH HO1111.out)) k_ hk))
           (case aO=>exact(nH HO1108.out))
           (case aS=>exact(nX (nC HB.out)))
           (case aL=>have:=LMc25.out;omega)
           intro v1113 w32 ho hb hg hat
           rw[←Ny1112.out]at ho
           have n0:=o_ BK1099 hg (pG HO1108.out BK1099.out (by decide))
           have n1:=dm (tq (ok:=(fun _=>True)) (by(with_reducible repeat(first|apply nY|apply nZ|apply nN));exact nL HO1111.out (fun _ hk=>⟨trivial,hk⟩)) hg hat)
           have n2:=dm (hb)
           have n3:=dm (ho)
           clear BK1099 HO1111 HB HO1108
           revert n0 n1 n2 n3
           intro BK1099 HO1111 HB HO1114
           clear ho hb hg hat
           obtain⟨Ao34,co34,eo34⟩:=nW HO1114.out
           (first|subst eo34|(injection eo34 with f1_ f2_ f3_;have f4_:=f1_.symm;have f5_:=f3_.symm;clear f1_ f2_ f3_;subst f4_;subst f5_))
           refine hK.out _ _ ⟨nk BK1099 0,nk BK1099 1⟩ (fun hHeld=>?_)
           clear hK K
           refine nQ 45 ?_
           refine oD 8 48 511 (fun K hK=>?_)
           have HLc:=dm (LX.below HL.out (nC HB.out))
           refine oO Try.func130 #[.agg #[.int .i64 a0_0,.slice A0_1 l0_1.length c0_1],.slice Ao34 y1112.length co34,.int .i64 a2,vq] ?_
           with_reducible refine(ih kj14 (by have:=HK1.out;have:=HJ14.out;omega) a0_0 _ _ l0_1 _ _ y1112 a2 vq x3_1 t1115 w0 _ ?ng ?ni ?sF ?sN A26.out).mono ?_
           (case ng=>exact HRA.out)
           (case ni=>exact HC0_1.out)
           (case sF=>exact HLc.out.b)
           (case sN=>exact⟨nL (oF (nH HO1114.out) HL.out.b.size) (fun _ _=>trivial),HLc.out.row⟩)
           rintro e w35 ⟨v1_,rfl,hS_,hb0_,hg_,hat_⟩
           refine⟨_,rfl,?_⟩
           have n0:=dm (wT (g:=gb1099) (o:=.cells #[.int .i64 a0_0,.slice A0_1 l0_1.length c0_1] 31 (0,0)) (nG BK1099.out) hg_ (G9 HLc.out.row (nG BK1099.out) (by decide)))
           have n1:=dm (LX.step HLc.out hS_ hb0_ hg_ hat_)
           have n2:=dm (Below.refl w35.heap.size w35)
           clear HO1111 HO1114 BK1099 HB HL HLc hS_ hb0_ hg_ hat_ HR0_1 HR1
           revert n0 n1 n2
           intro BK1099 HL HB
           refine hK.out _ _ ⟨nk BK1099 0,nk BK1099 1⟩ (fun hHeld=>?_)
           clear hK K
           refine nQ 48 ?_
           refine lq 9 3 1023 ?_
           refine pM (pQ HT_.out (by kernel_rfl)) ?_
           try go_wp2
           go_roundg kj14
           case measure=>have:=HK1.out;have:=HJ14.out;omega
           case rel=>exact⟨_,t1115,(wrap64 (x27_1+1)),rfl,(by first|rfl|(simp;done)|(simp[*];done)),H',⟨by have:=HK1.out;have:=HJ14.out;omega⟩,⟨nG BK1099.out⟩,⟨LX.below HL.out (nC HB.out)⟩⟩
          ·rw[if_neg c25]at H
           exact absurd H (by simp)
         ·replace c23:=Bool.eq_false_iff.mpr c23
          subst c23
          have H1:(qw.l0 kj14 l1 a2 x3_1 (rd l1 (ji5)) a0_0 (wrap64 (x27_1+1)) a0_0 l0_1)=some r:=by rw[if_neg (show¬ (false=true) by decide)]at H;exact H
          clear H
          have H:=H1
          clear H1
          have H':=dm H
          clear H
          go_wp2
          go_roundg kj14
          case measure=>have:=HK1.out;have:=HJ14.out;omega
          case rel=>exact⟨_,x3_1,(wrap64 (x27_1+1)),rfl,(by first|rfl|(simp;done)|(simp[*];done)),H',⟨by have:=HK1.out;have:=HJ14.out;omega⟩,⟨nG BK1099.out⟩,⟨LX.below HL.out (nC HB.out)⟩⟩
      ·rw[if_neg c14]at H
       have c14b0:decide (x27_1<a0_0)=false:=decide_eq_false c14
       clear c14
       obtain rfl:=Option.some.inj H
       go_wp2
       go_ret
       exact⟨_,by first|rfl|(simp[qa,qb]<;>rfl),(LX.below HL.out (nC HB.out)).fin⟩
  ·rw[if_neg c7]at H
   exact absurd H (by simp)
 ·rw[if_neg c6]at H
  exact absurd H (by simp)
end Go.Proofs.Ytgeonpciodepgaa.P
