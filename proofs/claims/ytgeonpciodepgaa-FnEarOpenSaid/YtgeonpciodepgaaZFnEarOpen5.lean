/- The proof's parts ahead of the row: of no condition of their own. -/
import Derived.Test.YtgeonpciodepgaaZFnEarOpen4
set_option linter.unusedVariables false
set_option linter.unusedSimpArgs false
namespace Go.Proofs.Ytgeonpciodepgaa.P
open Go.RowKit Go.Proofs.YtgeonpciodepgaaW.PrintWords Go.Proofs.YtgeonpciodepgaaW.PrintLast Go.Proofs.YtgeonpciodepgaaW.PrintMore Go.Proofs.YtgeonpciodepgaaW.PrintWords.Kd Go.Proofs.YtgeonpciodepgaaW.PrintMore.Kd
attribute [local go_sem] wH wM wK wP wJ wO wI wN
mutual
def qJ.l0:Nat->List Int->Int->List (List Int)->Int->Int->Int->Int->List (S59)->Option (List (List Int))
 |0,_,_,_,_,_,_,_,_=>none
 |k+1,x1,x2,x3,x9,x26,x27,x776000,x776001=>if x27<x26 then((vC.f k x776000 x776001 x9 x27).bind fun t780=>(if t780=true then((vG.f k x1 x27).bind fun t781=>(qJ.j1 k x1 x2 x3 x9 x27 x26 x27 (!t781) x776000 x776001)) else(qJ.j1 k x1 x2 x3 x9 x27 x26 x27 false x776000 x776001))) else(some x3)
def qJ.j1:Nat->List Int->Int->List (List Int)->Int->Int->Int->Int->Bool->Int->List (S59)->Option (List (List Int))
 |0,_,_,_,_,_,_,_,_,_,_=>none
 |k+1,x1,x2,x3,x9,x10,x26,x27,x39,x776000,x776001=>if x39=true then((wW.f x1).bind fun t782=>((some (([x10]:List Int):List Int)).bind fun y785=>(if t782.length+y785.length<17592186044416 then((qJ.f k x776000 x776001 (t782++y785) x2 x3).bind fun t791=>(qJ.l0 k x1 x2 t791 x9 x26 (wrap64 (x27+1)) x776000 x776001)) else(none)))) else(qJ.l0 k x1 x2 x3 x9 x26 (wrap64 (x27+1)) x776000 x776001)
def qJ.f:Nat->Int->List (S59)->List Int->Int->List (List Int)->Option (List (List Int))
 |0,_,_,_,_,_=>none
 |k+1,a0_0,l0_1,l1,a2,a3=>if 0<=(wrap64 ((l1.length:Int) - 1)) then(if(wrap64 ((l1.length:Int) - 1))<(l1.length:Int) then(if(rd l1 (wrap64 ((l1.length:Int) - 1)))=a2 then((wW.f l1).bind fun t777=>(if a3.length<5864062014805 then(some (a3++[t777])) else(none))) else(qJ.l0 k l1 a2 a3 (rd l1 (wrap64 ((l1.length:Int) - 1))) a0_0 0 a0_0 l0_1)) else(none)) else(none)
end
def qJ.T8:Bool×List (List Nat×List Nat):=(true,[([],[]),([],[]),([1],[1]),([],[]),([3],[3]),([2,4,2],[2,4]),([],[]),([],[]),([0,5,6,7,5],[0,5,6,7]),([8,8,0,1,2,3,4,5,6,7,8],[7,8])])
def qJ.B8:List Nat:=[0,0,2,0,8,30,0,0,255,511]
theorem qJ.vV:qj .any (opsOf Try.f130 8)=qJ.T8:=by kernel_rfl
theorem qJ.vP:qV qJ.T8.2 qJ.B8=true:=by kernel_rfl
set_option maxHeartbeats 1000000 in
set_option maxRecDepth 100000 in
theorem qJ.calls (k:Nat):∀ (a0_0:Int) (A0_1:Option Addr) (c0_1:Nat) (l0_1:List (S59)) (A1:Option Addr) (c1:Nat) (l1:List Int) (a2:Int) (vo:Value) (a3:List (List Int)) (r:List (List Int)) (w0 w:World) (hr0_1:Kd.C k59 w0 A0_1 l0_1.length l0_1) (hc0_1:l0_1.length<=c0_1) (hB0:Below w0.heap.size w0 w) (hX:Kd.R (Kd.int .i64) 3 w w0.heap.size (fun _=>True) (.slice A1 l1.length c1) l1/\Kd.S (Kd.slice 3 (Kd.int .i64)) 45 w w0.heap.size (fun _=>True) vo a3) (h:qJ.f k a0_0 l0_1 l1 a2 a3=some r),
  Calls Try.prog 130 #[.agg #[.int .i64 a0_0,.slice A0_1 l0_1.length c0_1],.slice A1 l1.length c1,.int .i64 a2,vo] w fun e w'=>∃v1_:Value,e=.returned v1_/\Kd.S (Kd.slice 3 (Kd.int .i64)) 45 w' w0.heap.size (fun _=>True) v1_ r/\Below w0.heap.size w0 w'/\w.grownBy w' vo.ownBlock/\(v1_.ownBlock=vo.ownBlock\/∃b,v1_.ownBlock=some b/\w.heap.size<=b):=by
 induction k using Nat.strongRecOn with
 |_ k ih=>
 intro a0_0 A0_1 c0_1 l0_1 A1 c1 l1 a2 vo a3 r w0 w hr0_1 hc0_1 hB0 hX h
 cases k with
 |zero=>exact absurd h (by simp[qJ.f])
 |succ k=>
 simp only [qJ.f]at h
 have hu31:=Try.underlying31
 have HRA:=dm hr0_1
 have HR0_1:=dm (oG hr0_1 hB0)
 have HC0_1:=dm hc0_1
 clear hr0_1 hc0_1
 have HB0:=dm hB0
 have HX:=dm (LX.start hB0 hX.1 hX.2)
 have HR1:=dm (nM hX.1).2.2
 have HC1:=dm (nM hX.1).2.1
 clear hB0 hX
 have HB:=dm (Below.refl w.heap.size w)
 have H:(if 0<=(wrap64 ((l1.length:Int) - 1)) then(if(wrap64 ((l1.length:Int) - 1))<(l1.length:Int) then(if(rd l1 (wrap64 ((l1.length:Int) - 1)))=a2 then((wW.f l1).bind fun t777=>(if a3.length<5864062014805 then(some (a3++[t777])) else(none))) else(qJ.l0 k l1 a2 a3 (rd l1 (wrap64 ((l1.length:Int) - 1))) a0_0 0 a0_0 l0_1)) else(none)) else(none))=some r:=h
 clear h
 obtain⟨ji5,hji5⟩:∃j_:Int,(wrap64 ((l1.length:Int) - 1))=j_:=⟨_,rfl⟩
 replace H:(if 0<=(ji5) then(if(ji5)<(l1.length:Int) then(if(rd l1 (ji5))=a2 then((wW.f l1).bind fun t777=>(if a3.length<5864062014805 then(some (a3++[t777])) else(none))) else(qJ.l0 k l1 a2 a3 (rd l1 (ji5)) a0_0 0 a0_0 l0_1)) else(none)) else(none))=some r:=by first|(rw[hji5]at H;exact H)|(simp only [hji5]at H⊢;exact H)
 have hji5w:(IntKind.i64.wrap ((l1.length:Int) - 1))=ji5:=(qP _).trans hji5
 by_cases c6:0<=(ji5);rotate_left
 ·rw[if_neg c6]at H
  exact absurd H (by simp)
 rw[if_pos c6]at H
 have c6b0:decide (0<=(ji5))=true:=decide_eq_true c6
 clear c6
 by_cases c7:(ji5)<(l1.length:Int);rotate_left
 ·rw[if_neg c7]at H
  exact absurd H (by simp)
 rw[if_pos c7]at H
 have c7b0:decide ((ji5)<(l1.length:Int))=true:=decide_eq_true c7
 clear c7
 by_cases c8:(rd l1 (ji5))=a2
 ·rw[if_pos c8]at H
  have c8b0:((rd l1 (ji5))==a2)=true:=beq_iff_eq.mpr c8
  have c8b1:((rd l1 (ji5)) !=a2)=false:=bne_eq_false_iff_eq.mpr c8
  clear c8
  obtain⟨t777,A9,H⟩:=ow H
  replace H:(if a3.length<5864062014805 then(some (a3++[t777])) else(none))=some r:=H
  by_cases cLw:a3.length<5864062014805
  ·rw[if_pos cLw]at H
   have LMw:=dm cLw
   clear cLw
   obtain rfl:=Option.some.inj H
   go_enter Try.func130,Try.ntmps130
   go_wp2_with (first|((with_reducible refine nU 4 rfl ?_);refine oI #[.int .i64 a0_0,.slice A0_1 l0_1.length c0_1] 31 ?_;intro gb775 hg w10 nu hb;have n0:=nI HB hb;have n1:=dm (nu);have n2:=dm ((by rw[hg];exact(ou (ny HB.out)):w.heap.size<=gb775));have n3:=dm ((by rw[hg];exact(ou (ny HB.out)):w.heap.size<=gb775));clear HB;revert n0 n1 n2 n3;intro HB BK775 GW775 GE775;clear hb nu hg;have p776:0<=((ji5):Int):=of_decide_eq_true (wz);have q776:(ji5)<(l1.length:Int):=of_decide_eq_true (wz);obtain⟨ad776,e776,hx776_0⟩:=oL HR1.out (ji5) p776 q776;cases e776;replace hx776_0:=nG HB hx776_0;replace p776:=eq_true p776;replace q776:=eq_true q776)|((with_reducible refine og 103 rfl ?_);refine oV 22 rfl Try.func103 (wW.calls (nS (oG HR1.out HB.out)) HC1.out A9.out) ?_;rintro e w11 ⟨v778,rfl,ho0,hb⟩;refine⟨_,rfl,?_⟩;have n0:=dm (oJ ho0 (ou (ny HB.out)));have n1:=nA BK775 hb;have n2:=nI HB hb;clear BK775 HB;revert n0 n1 n2;intro HO779 BK775 HB;(try clear hb ho0);obtain⟨Aow,cow,eow⟩:=nY HO779.out;subst eow)|((with_reducible refine rR (b:=.append) (xs:= #[.tmp 20,.tmp 23]) rfl ?_);at_builtin;refine Gx (Kd.slice 3 (Kd.int .i64)) (w0:=w0) w0.heap.size rfl (.tmp 20) (.tmp 23) 25 45 (.slice none 0 0) 24 rfl Try.underlying25 zC rfl (by decide) (by omega) vo a3 t777 [.slice Aow t777.length cow] (fun _=>True) (fun k_=>some k_=(.slice Aow t777.length cow:Value).ownBlock) rfl rfl ?aP (fun k_ hk_=>⟨trivial,fun e_=>by have h1_:=Gy HX.out.row k_ e_.symm;have h2_:=uN HO779.out k_ hk_.symm;omega⟩) ?aF ?aO ?aB ?aS ?aL ?_;(case aP=>exact Ga (nK (Ef rfl (oJ HO779.out HB0.out.size)) (fun _ h_=>h_)));(case aB=>exact(o6 HB0.out (ny HB.out)));(case aF=>exact(fun _ _=>trivial));(case aO=>exact uX (ut (xN HX.out.row) (ny HB.out)) (fun k_ hk=>⟨trivial,fun e_=>by have h2_:=uN HO779.out k_ e_.symm;have h3_:=hk.2.2.1;omega⟩));(case aS=>exact Nat.le_trans HB0.out.size (ou (ny HB.out)));(case aL=>have:=LMw.out;omega);intro vw_ ww_ ho hb hg hat;have HF:=dm (LX.app (ny HB.out) ho hb hg hat);clear ho hb hg hat BK775 HB))
   go_ret
   exact⟨_,by first|rfl|(simp[rz,rA]<;>rfl),HF.out⟩
  rw[if_neg cLw]at H
  exact absurd H (by simp)
 rw[if_neg c8]at H
 have c8b0:((rd l1 (ji5))==a2)=false:=beq_eq_false_iff_ne.mpr c8
 have c8b1:((rd l1 (ji5)) !=a2)=true:=bne_iff_ne.mpr c8
 have H':=dm H
 clear H
 go_enter Try.func130,Try.ntmps130
 go_wp2_with (first|((with_reducible refine nU 4 rfl ?_);refine oI #[.int .i64 a0_0,.slice A0_1 l0_1.length c0_1] 31 ?_;intro gb775 hg w12 nu hb;have n0:=nI HB hb;have n1:=dm (nu);have n2:=dm ((by rw[hg];exact(ou (ny HB.out)):w.heap.size<=gb775));have n3:=dm ((by rw[hg];exact(ou (ny HB.out)):w.heap.size<=gb775));clear HB;revert n0 n1 n2 n3;intro HB BK775 GW775 GE775;clear hb nu hg;have p776:0<=((ji5):Int):=of_decide_eq_true (wz);have q776:(ji5)<(l1.length:Int):=of_decide_eq_true (wz);obtain⟨ad776,e776,hx776_0⟩:=oL HR1.out (ji5) p776 q776;cases e776;replace hx776_0:=nG HB hx776_0;replace p776:=eq_true p776;replace q776:=eq_true q776;have⟨hcz13_0,hcz13_1,hfz13_0,hfz13_1⟩:=nJ (w:=w12) BK775))
 go_loopg [3,27] k (fun kq v3 v27 w'=>∃ (vq:Value) (x3_1:List (List Int)) (x27_1:Int),vq=v3/\v27=.int .i64 x27_1/\lm (qJ.l0 kq l1 a2 x3_1 (rd l1 (ji5)) a0_0 x27_1 a0_0 l0_1=some r)/\lm (kq<=k)/\lm (w'.heap[gb775]? =some (.cells #[.int .i64 a0_0,(.slice A0_1 l0_1.length c0_1)] 31 (0,0)))/\lm (LX w0 w (some ad776) c1 l1 vo vq x3_1 w'))
 case atStart=>exact⟨vo,a3,(0),rfl,(by first|rfl|(simp;done)|(simp[*];done)),H',⟨Nat.le_refl _⟩,⟨nE BK775.out⟩,⟨LX.below HX.out (ny HB.out)⟩⟩
 case round=>
  clear H'
  (try clear c1 c6b0 c7b0 c8 c8b0 c8b1 hcz13_0 hcz13_1 hfz13_0 hfz13_1 hx776_0 p776 q776)
  obtain⟨vq,x3_1,x27_1,rfl,rfl,HA,HK1,BK775,HL⟩:=hrel
  clear HR0_1 HR1 HB
  have HR0_1:=dm (oG HRA.out HL.out.b)
  have HR1:=dm (nM HL.out.way).2.2
  have HB:=dm (Below.refl wr.heap.size wr)
  cases gk with
  |zero=>exact absurd HA.out (by simp[qJ.l0])
  |succ k1=>
   have H:=HA.out
   clear HA
   simp only [qJ.l0]at H
   by_cases c14:x27_1<a0_0;rotate_left
   ·rw[if_neg c14]at H
    have c14b0:decide (x27_1<a0_0)=false:=decide_eq_false c14
    clear c14
    obtain rfl:=Option.some.inj H
    go_wp2
    go_ret
    exact⟨_,by first|rfl|(simp[rz,rA]<;>rfl),(LX.below HL.out (ny HB.out)).fin⟩
   rw[if_pos c14]at H
   have c14b0:decide (x27_1<a0_0)=true:=decide_eq_true c14
   clear c14
   have HC15:=dm H
   clear H
   go_upto_region 7 with(fail)
   go_cut [39] (fun v39 wc=>∃ (kq:Nat) (x39_14:Bool),v39=.bool x39_14/\lm (qJ.j1 kq l1 a2 x3_1 (rd l1 (ji5)) x27_1 a0_0 x27_1 x39_14 a0_0 l0_1=some r)/\lm (kq<=k1)/\lm (wc.heap[gb775]? =some (.cells #[.int .i64 a0_0,(.slice A0_1 l0_1.length c0_1)] 31 (0,0)))/\lm (Below wr.heap.size wr wc))
   case first=>
    have H:=HC15.out
    clear HC15
    obtain⟨t780,A16,H⟩:=ow H
    replace H:(if t780=true then((vG.f k1 l1 x27_1).bind fun t781=>(qJ.j1 k1 l1 a2 x3_1 (rd l1 (ji5)) x27_1 a0_0 x27_1 (!t781) a0_0 l0_1)) else(qJ.j1 k1 l1 a2 x3_1 (rd l1 (ji5)) x27_1 a0_0 x27_1 false a0_0 l0_1))=some r:=H
    by_cases c17:t780=true
    ·subst c17
     have H1:((vG.f k1 l1 x27_1).bind fun t781=>(qJ.j1 k1 l1 a2 x3_1 (rd l1 (ji5)) x27_1 a0_0 x27_1 (!t781) a0_0 l0_1))=some r:=by rw[if_pos rfl]at H;exact H
     clear H
     have H:=H1
     clear H1
     obtain⟨t781,A18,H⟩:=ow H
     replace H:(qJ.j1 k1 l1 a2 x3_1 (rd l1 (ji5)) x27_1 a0_0 x27_1 (!t781) a0_0 l0_1)=some r:=H
     have H':=dm H
     clear H
     have⟨hcz19_0,hcz19_1,hfz19_0,hfz19_1⟩:=nJ (w:=wr) BK775
     go_wp2_with (first|((with_reducible refine xg (f:=65) rfl ?_);refine wC (some 33) rfl rfl Try.func65 (by kernel_rfl) rfl #[.agg #[.int .i64 a0_0,.slice A0_1 l0_1.length c0_1],.int .i64 (rd l1 (ji5)),.int .i64 x27_1] rfl ((by(try simp only [List.map_toArray,List.map_cons,List.map_nil]);first|done|(simp only [hji5];rfl)|rfl|(simp only [List.length_drop,List.length_take];rfl))) ?_;refine(vC.calls (nS (oG HR0_1.out HB.out)) HC0_1.out A16.out).mono ?_;rintro e w20 ⟨rfl,hb⟩;refine⟨_,rfl,?_⟩;have n0:=nA BK775 hb;have n1:=nI HB hb;clear BK775 HB;revert n0 n1;intro BK775 HB;(try clear hb))|(go_at_call 89;refine(vG.calls (nS (oG HR1.out HB.out)) HC1.out A18.out).mono ?_;rintro e w' ⟨rfl,⟨nd,rfl⟩⟩))
     go_meet
     case rel=>exact⟨_,(!t781),((by first|rfl|(simp;done)|(simp[*];done))),H',⟨by have:=HK1.out;first|omega|exact Nat.le_refl _⟩,⟨nE BK775.out⟩,⟨ny HB.out⟩⟩
    replace c17:=Bool.eq_false_iff.mpr c17
    subst c17
    have H1:(qJ.j1 k1 l1 a2 x3_1 (rd l1 (ji5)) x27_1 a0_0 x27_1 false a0_0 l0_1)=some r:=by rw[if_neg (show¬ (false=true) by decide)]at H;exact H
    clear H
    have H:=H1
    clear H1
    have H':=dm H
    clear H
    have⟨hcz21_0,hcz21_1,hfz21_0,hfz21_1⟩:=nJ (w:=wr) BK775
    go_wp2_with (first|((with_reducible refine xg (f:=65) rfl ?_);refine wC (some 33) rfl rfl Try.func65 (by kernel_rfl) rfl #[.agg #[.int .i64 a0_0,.slice A0_1 l0_1.length c0_1],.int .i64 (rd l1 (ji5)),.int .i64 x27_1] rfl ((by(try simp only [List.map_toArray,List.map_cons,List.map_nil]);first|done|(simp only [hji5];rfl)|rfl|(simp only [List.length_drop,List.length_take];rfl))) ?_;refine(vC.calls (nS (oG HR0_1.out HB.out)) HC0_1.out A16.out).mono ?_;rintro e w22 ⟨rfl,hb⟩;refine⟨_,rfl,?_⟩;have n0:=nA BK775 hb;have n1:=nI HB hb;clear BK775 HB;revert n0 n1;intro BK775 HB;(try clear hb)))
    go_meet
    case rel=>exact⟨_,(false),((by first|rfl|(simp;done)|(simp[*];done))),H',⟨by have:=HK1.out;first|omega|exact Nat.le_refl _⟩,⟨nE BK775.out⟩,⟨ny HB.out⟩⟩
   case rest=>
    clear HC15
    (try clear c14b0)
    obtain⟨kq,x39_14,rfl,HA,HJ14,BK775,HB⟩:=hcut
    cases kq with
    |zero=>exact absurd HA.out (by simp[qJ.j1])
    |succ kj14=>
     have H:=HA.out
     clear HA
     simp only [qJ.j1]at H
     by_cases c23:x39_14=true;rotate_left
     ·replace c23:=Bool.eq_false_iff.mpr c23
      subst c23
      have H1:(qJ.l0 kj14 l1 a2 x3_1 (rd l1 (ji5)) a0_0 (wrap64 (x27_1+1)) a0_0 l0_1)=some r:=by rw[if_neg (show¬ (false=true) by decide)]at H;exact H
      clear H
      have H:=H1
      clear H1
      have H':=dm H
      clear H
      go_wp2
      go_roundg kj14
      case measure=>have:=HK1.out;have:=HJ14.out;omega
      case rel=>exact⟨_,x3_1,(wrap64 (x27_1+1)),rfl,(by first|rfl|(simp;done)|(simp[*];done)),H',⟨by have:=HK1.out;have:=HJ14.out;omega⟩,⟨nE BK775.out⟩,⟨LX.below HL.out (ny HB.out)⟩⟩
     subst c23
     have H1:((wW.f l1).bind fun t782=>((some (([x27_1]:List Int):List Int)).bind fun y785=>(if t782.length+y785.length<17592186044416 then((qJ.f kj14 a0_0 l0_1 (t782++y785) a2 x3_1).bind fun t791=>(qJ.l0 kj14 l1 a2 t791 (rd l1 (ji5)) a0_0 (wrap64 (x27_1+1)) a0_0 l0_1)) else(none))))=some r:=by rw[if_pos rfl]at H;exact H
     clear H
     have H:=H1
     clear H1
     obtain⟨t782,A24,H⟩:=ow H
     replace H:((some (([x27_1]:List Int):List Int)).bind fun y785=>(if t782.length+y785.length<17592186044416 then((qJ.f kj14 a0_0 l0_1 (t782++y785) a2 x3_1).bind fun t791=>(qJ.l0 kj14 l1 a2 t791 (rd l1 (ji5)) a0_0 (wrap64 (x27_1+1)) a0_0 l0_1)) else(none)))=some r:=H
     obtain⟨y785,hy785⟩:∃y_:List Int,y_=(([x27_1]:List Int)):=⟨_,rfl⟩
     replace H:(if t782.length+y785.length<17592186044416 then((qJ.f kj14 a0_0 l0_1 (t782++y785) a2 x3_1).bind fun t791=>(qJ.l0 kj14 l1 a2 t791 (rd l1 (ji5)) a0_0 (wrap64 (x27_1+1)) a0_0 l0_1)) else(none))=some r:=by first|(rw[hy785];with_reducible exact H)|(have H2_:=(Option.bind_some _ _).symm.trans H;rw[hy785];with_reducible exact H2_)|(have H2_:=(Option.bind_some _ _).symm.trans H;with_reducible exact H2_)|with_reducible exact H|(rw[hy785];exact H)|exact H
     have Ny785:=dm hy785
     clear hy785
     by_cases c25:t782.length+y785.length<17592186044416;rotate_left
     ·rw[if_neg c25]at H
      exact absurd H (by simp)
     rw[if_pos c25]at H
     have LMc25:=dm c25
     clear c25
     obtain⟨y788,hy788⟩:∃y_:List Int,y_=(t782++y785):=⟨_,rfl⟩
     replace H:((qJ.f kj14 a0_0 l0_1 y788 a2 x3_1).bind fun t791=>(qJ.l0 kj14 l1 a2 t791 (rd l1 (ji5)) a0_0 (wrap64 (x27_1+1)) a0_0 l0_1))=some r:=by first|(rw[hy788];with_reducible exact H)|(have H2_:=(Option.bind_some _ _).symm.trans H;rw[hy788];with_reducible exact H2_)|(have H2_:=(Option.bind_some _ _).symm.trans H;with_reducible exact H2_)|with_reducible exact H|(rw[hy788];exact H)|exact H
     have Ny788:=dm hy788
     clear hy788
     obtain⟨t791,A26,H⟩:=ow H
     replace H:(qJ.l0 kj14 l1 a2 t791 (rd l1 (ji5)) a0_0 (wrap64 (x27_1+1)) a0_0 l0_1)=some r:=H
     have H':=dm H
     clear H
     try go_wp2
     have n0:=dm (oq BK775.out)
     have n1:=dm (pI HB.out)
     clear BK775 HB
     revert n0 n1
     intro BK775 HB
     refine qc 10 (S:=fun w'=>w'.cell? ⟨gb775,0,none⟩=some (.int .i64 a0_0)/\w'.cell? ⟨gb775,1,none⟩=some (.slice A0_1 l0_1.length c0_1)) [] ⟨nz BK775 0,nz BK775 1⟩ qJ.vV qJ.vP (fun hHeld HT_ HW_=>?_)
     generalize wc.drew=w27 at BK775 HB hHeld⊢
     refine lq 1 41 2 ?_
     refine lq 3 43 10 ?_
     refine lq 6 46 74 ?_
     refine lq 7 47 202 ?_
     refine nT 0 40 203 ?_
     refine yl (σ:=Value×Value) 3 (pQ 10 223) (fun s_=>[(42,s_.1),(44,s_.2)]) (fun s_ w'=>(w'.cell? ⟨gb775,0,none⟩=some (.int .i64 a0_0)/\w'.cell? ⟨gb775,1,none⟩=some (.slice A0_1 l0_1.length c0_1))/\(Kd.R (Kd.int .i64) 3 w' wr.heap.size (fun k_=>some k_≠(s_.2:Value).ownBlock) s_.1 t782)/\(Kd.R (Kd.int .i64) 3 w' wr.heap.size (fun k_=>some k_≠(s_.1:Value).ownBlock) s_.2 y785)/\(w'.heap[gb775]? =some (.cells #[.int .i64 a0_0,.slice A0_1 l0_1.length c0_1] 31 (0,0)))/\(Below wr.heap.size wr w')) ?_ ?_
     rotate_left
     ·intro rW
      refine vM (i:=2) (j:=4) (Ni:=some 42) (Nj:=some 44) (pQ 10 207) (pQ 10 219) rfl rfl rfl rfl (vN HT_.out (by kernel_rfl)) (by decide) (by decide) (fun K hK=>?_) (fun K hK=>?_)
      ·skip
       refine IZ Try.func103 #[.slice (some ad776) l1.length c1] ?_
       with_reducible refine(wW.calls ?o7 ?o8 A24.out).mono ?_
       (case o7=>exact nS (oG HR1.out HB.out))
       (case o8=>exact HC1.out)
       rintro e w28 ⟨v783,rfl,ho0,hb⟩
       refine⟨_,rfl,?_⟩
       have n0:=dm (oJ ho0 (ou (ny HB.out)))
       have n1:=nA BK775 hb
       have n2:=nI HB hb
       clear BK775 HB
       revert n0 n1 n2
       intro HO784 BK775 HB
       (try clear hb ho0)
       refine hK.out _ _ ⟨nz BK775 0,nz BK775 1⟩ (fun hHeld=>?_)
       clear hK K
       refine nX 42 ?_
       refine oN 4 44 223 (fun K hK=>?_)
       refine zR (Kd.int .i64) _ 3 ?hg (N:=44) ?hd (xs:=([x27_1]:List Int)) (inner:=[.int .i64 x27_1]) (ok:=fun _=>True) (okp:=fun _=>True) ?hr ?hp (fun _ hk=>hk) trivial (Below.refl _ _) (Nat.le_refl _) (by simp) ?_;(case hd=>rfl);(case hg=>rfl);(case hr=>first|(go_simp;done)|(go_simp;rfl));(case hp=>exact(oF.one (show Kd.M (Kd.int .i64) _ _ _ x27_1 [.int .i64 x27_1] from rfl) (oF.none _ _)))
       intro v786 w29 ho30 hb hg_ pE
       clear hg_ pE
       (first|rw[←Ny785.out]at ho30|(simp only [Int.reduceToNat]at ho30;rw[←Ny785.out]at ho30))
       have n0:=qD HO784 ho30 hb
       have n1:=dm (oJ (qf ho30 (oZ (nH HO784.out))) (ou (ny HB.out)))
       have n2:=nA BK775 hb
       have n3:=nI HB hb
       clear HO784 BK775 HB
       revert n0 n1 n2 n3
       intro HO784 HO787 BK775 HB
       clear hb ho30
       refine hK.out _ _ ⟨nz BK775 0,nz BK775 1⟩ (fun hHeld=>?_)
       clear hK K
       refine nX 44 ?_
       exact rP (by simp only [rE,Act.put,List.setIfInBounds_toArray,List.set_cons_zero,List.set_cons_succ]) (rW (v783,v786) _ ⟨hHeld,((by(with_reducible repeat(first|apply ol|apply om|apply nP));exact nK HO784.out (fun _ hk=>hk.2))),((by(with_reducible repeat(first|apply ol|apply om|apply nP));exact nK HO787.out (fun _ hk=>hk.2))),(nE BK775.out),(ny HB.out)⟩)
      skip
      refine zR (Kd.int .i64) _ 3 ?hg (N:=44) ?hd (xs:=([x27_1]:List Int)) (inner:=[.int .i64 x27_1]) (ok:=fun _=>True) (okp:=fun _=>True) ?hr ?hp (fun _ hk=>hk) trivial (Below.refl _ _) (Nat.le_refl _) (by simp) ?_;(case hd=>rfl);(case hg=>rfl);(case hr=>first|(go_simp;done)|(go_simp;rfl));(case hp=>exact(oF.one (show Kd.M (Kd.int .i64) _ _ _ x27_1 [.int .i64 x27_1] from rfl) (oF.none _ _)))
      intro v786 w28 ho29 hb hg_ pE
      clear hg_ pE
      (first|rw[←Ny785.out]at ho29|(simp only [Int.reduceToNat]at ho29;rw[←Ny785.out]at ho29))
      have n0:=dm (oJ ho29 (ou (ny HB.out)))
      have n1:=nA BK775 hb
      have n2:=nI HB hb
      clear BK775 HB
      revert n0 n1 n2
      intro HO787 BK775 HB
      clear hb ho29
      refine hK.out _ _ ⟨nz BK775 0,nz BK775 1⟩ (fun hHeld=>?_)
      clear hK K
      refine nX 44 ?_
      refine oN 2 42 223 (fun K hK=>?_)
      refine IZ Try.func103 #[.slice (some ad776) l1.length c1] ?_
      with_reducible refine(wW.calls ?o7 ?o8 A24.out).mono ?_
      (case o7=>exact nS (oG HR1.out HB.out))
      (case o8=>exact HC1.out)
      rintro e w30 ⟨v783,rfl,ho0,hb⟩
      refine⟨_,rfl,?_⟩
      have n0:=qD HO787 ho0 hb
      have n1:=dm (oJ (qf ho0 (oZ (nH HO787.out))) (ou (ny HB.out)))
      have n2:=nA BK775 hb
      have n3:=nI HB hb
      clear HO787 BK775 HB
      revert n0 n1 n2 n3
      intro HO787 HO784 BK775 HB
      (try clear hb ho0)
      refine hK.out _ _ ⟨nz BK775 0,nz BK775 1⟩ (fun hHeld=>?_)
      clear hK K
      refine nX 42 ?_
      exact rP (by simp only [rE,Act.put,List.setIfInBounds_toArray,List.set_cons_zero,List.set_cons_succ]) (rW (v783,v786) _ ⟨hHeld,((by(with_reducible repeat(first|apply ol|apply om|apply nP));exact nK HO784.out (fun _ hk=>hk.2))),((by(with_reducible repeat(first|apply ol|apply om|apply nP));exact nK HO787.out (fun _ hk=>hk.2))),(nE BK775.out),(ny HB.out)⟩)
     rintro⟨v783,v786⟩ w31 ⟨hS_,h0_,h1_,h2_,h3_⟩
     have n0:lm (Kd.R (Kd.int .i64) 3 w31 wr.heap.size (fun k_=>some k_≠(v786:Value).ownBlock) v783 t782):=⟨h0_⟩
     have n1:lm (Kd.R (Kd.int .i64) 3 w31 wr.heap.size (fun k_=>some k_≠(v783:Value).ownBlock) v786 y785):=⟨h1_⟩
     have n2:lm (w31.heap[gb775]? =some (.cells #[.int .i64 a0_0,.slice A0_1 l0_1.length c0_1] 31 (0,0))):=⟨h2_⟩
     have n3:lm (Below wr.heap.size wr w31):=⟨h3_⟩
     clear BK775 HB
     clear h0_ h1_ h2_ h3_
     revert n0 n1 n2 n3
     intro HO784 HO787 BK775 HB
     have hHeld:w31.cell? ⟨gb775,0,none⟩=some (.int .i64 a0_0)/\w31.cell? ⟨gb775,1,none⟩=some (.slice A0_1 l0_1.length c0_1):=hS_
     obtain⟨Ao33,co33,eo33⟩:=nY HO787.out
     (first|subst eo33|(injection eo33 with f1_ f2_ f3_;have f4_:=f1_.symm;have f5_:=f3_.symm;clear f1_ f2_ f3_;subst f4_;subst f5_))
     refine rP (a':= ?_) ?_ ?_
     rotate_left
     ·simp only [rE,Act.put,List.setIfInBounds_toArray,List.set_cons_zero,List.set_cons_succ]
      rfl
     refine oN 5 45 255 (fun K hK=>?_)
     refine Eb (Kd.int .i64) (w0:=wr) wr.heap.size (by rfl) (.tmp 42) (.tmp 44) 45 3 (.int .i64 0) 8 rfl Try.underlying45 info3 rfl (by decide) (by omega) v783 t782 y785 _ _ _ (fun k_=>some k_≠(.slice Ao33 y785.length co33:Value).ownBlock) (fun _=>False) rfl rfl ?aO ?aR (fun _ _ h=>h) (fun _ h=>h.elim) ?aF ?aB ?aS ?aL ?_
     (case aR=>exact nS (nM HO787.out).2.2)
     (case aB=>exact(ny HB.out))
     (case aF=>exact(fun k_ hk=>Kd.fresh' (oZ (nH HO787.out)) k_ hk))
     (case aO=>exact(nH HO784.out))
     (case aS=>exact(ou (ny HB.out)))
     (case aL=>have:=LMc25.out;omega)
     intro v789 w32 ho hb hg hat
     rw[←Ny788.out]at ho
     have n0:=pF BK775 hg (pM HO784.out BK775.out (by decide))
     have n1:=dm (tK (ok:=(fun _=>True)) (by(with_reducible repeat(first|apply ol|apply om|apply nP));exact nK HO787.out (fun _ hk=>⟨trivial,hk⟩)) hg hat)
     have n2:=dm (hb)
     have n3:=dm (ho)
     clear BK775 HO787 HB HO784
     revert n0 n1 n2 n3
     intro BK775 HO787 HB HO790
     clear ho hb hg hat
     obtain⟨Ao34,co34,eo34⟩:=nY HO790.out
     (first|subst eo34|(injection eo34 with f1_ f2_ f3_;have f4_:=f1_.symm;have f5_:=f3_.symm;clear f1_ f2_ f3_;subst f4_;subst f5_))
     refine hK.out _ _ ⟨nz BK775 0,nz BK775 1⟩ (fun hHeld=>?_)
     clear hK K
     refine nX 45 ?_
     refine oN 8 48 511 (fun K hK=>?_)
     have HLc:=dm (LX.below HL.out (ny HB.out))
     refine IZ Try.func130 #[.agg #[.int .i64 a0_0,.slice A0_1 l0_1.length c0_1],.slice Ao34 y788.length co34,.int .i64 a2,vq] ?_
     with_reducible refine(ih kj14 (by have:=HK1.out;have:=HJ14.out;omega) a0_0 _ _ l0_1 _ _ y788 a2 vq x3_1 t791 w0 _ ?o7 ?o8 ?uZ ?u_ A26.out).mono ?_
     (case o7=>exact HRA.out)
     (case o8=>exact HC0_1.out)
     (case uZ=>exact HLc.out.b)
     (case u_=>exact⟨nK (oJ (nH HO790.out) HL.out.b.size) (fun _ _=>trivial),HLc.out.row⟩)
     rintro e w35 ⟨v1_,rfl,hS_,hb0_,hg_,hat_⟩
     refine⟨_,rfl,?_⟩
     have n0:=dm (uY (g:=gb775) (o:=.cells #[.int .i64 a0_0,.slice A0_1 l0_1.length c0_1] 31 (0,0)) (nE BK775.out) hg_ (Eh HLc.out.row (nE BK775.out) (by decide)))
     have n1:=dm (LX.step HLc.out hS_ hb0_ hg_ hat_)
     have n2:=dm (Below.refl w35.heap.size w35)
     clear HO787 HO790 BK775 HB HL HLc hS_ hb0_ hg_ hat_ HR0_1 HR1
     revert n0 n1 n2
     intro BK775 HL HB
     refine hK.out _ _ ⟨nz BK775 0,nz BK775 1⟩ (fun hHeld=>?_)
     clear hK K
     refine nX 48 ?_
     refine lq 9 3 1023 ?_
     refine pY (p8 HT_.out (by kernel_rfl)) ?_
     try go_wp2
     go_roundg kj14
     case measure=>have:=HK1.out;have:=HJ14.out;omega
     case rel=>exact⟨_,t791,(wrap64 (x27_1+1)),rfl,(by first|rfl|(simp;done)|(simp[*];done)),H',⟨by have:=HK1.out;have:=HJ14.out;omega⟩,⟨nE BK775.out⟩,⟨LX.below HL.out (ny HB.out)⟩⟩
end Go.Proofs.Ytgeonpciodepgaa.P
