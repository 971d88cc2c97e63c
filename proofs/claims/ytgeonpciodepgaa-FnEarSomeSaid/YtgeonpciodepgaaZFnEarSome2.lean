/- The proof's parts ahead of the row: of no condition of their own. -/
import Derived.Test.YtgeonpciodepgaaZFnEarSome1
import Derived.Lib.SliceRun
import Derived.Laws.EntriesVeiled
set_option linter.unusedVariables false
set_option linter.unusedSimpArgs false
namespace Go.Proofs.Ytgeonpciodepgaa.P
set_option maxHeartbeats 8000000
set_option maxRecDepth 100000
open Go.RowKit Go.Proofs.YtgeonpciodepgaaW.PrintWords Go.Proofs.YtgeonpciodepgaaW.PrintLast Go.Proofs.YtgeonpciodepgaaW.PrintMore Go.Proofs.YtgeonpciodepgaaW.PrintWords.Kd Go.Proofs.YtgeonpciodepgaaW.PrintMore.Kd
attribute [local go_sem] vO vT vR vW vQ vV vP vU
variable {p:Prop}
theorem CQ(h:p:=by exact lG ab.out):p:=h
theorem CR(h:p:=by(try simp only [List.map_toArray,List.map_cons,List.map_nil]);first|done|(simp only [bY];rfl)|rfl|(simp only [List.length_drop,List.length_take];rfl)):p:=h
theorem CS(h:p:=by(with_reducible repeat(first|apply kH|apply kI|apply kw));exact kv aa.out (fun _ hk=>⟨trivial,hk⟩)):p:=h
theorem CU(h:p:=by(with_reducible repeat(first|apply kH|apply kI|apply kw));exact kv ao.out (fun _ hk=>⟨trivial,hk⟩)):p:=h
theorem tK(h:p:=by(with_reducible repeat(first|apply oQ|apply oU|apply oC));exact qY al.out (fun _ hk=>⟨hk.2,hk.1⟩)):p:=h
theorem CV(h:p:=by(with_reducible repeat(first|apply kH|apply kI|apply kw));exact kv ao.out (fun _ hk=>hk.2)):p:=h
theorem sD(h:p:=by(with_reducible repeat(first|apply oQ|apply oU|apply oC));exact aK.out):p:=h
theorem mJ(h:p:=by(with_reducible repeat(first|apply oQ|apply oU|apply oC));exact al.out):p:=h
theorem wR(h:p:=by have:=bm.out;have:=bn.out;have:=bU.out;have:=b8.out;omega):p:=h
theorem ky(h:p:=by decide):p:=h
mutual
def kY.j0:Nat->List (List Int)->Bool->Int->List (S59)->Option ((List (List Int))×Bool)
 |0,_,_,_,_=>none
 |k+1,x4,gi,av,ax=>if gi=true then(some (x4,false)) else((oO.f av ax).bind fun bH=>(kY.l0 k x4 (([0]:List Int)) av ax bH.1 bH.2))
def kY.l0:Nat->List (List Int)->List Int->Int->List (S59)->Int->List (S59)->Option ((List (List Int))×Bool)
 |0,_,_,_,_,_,_=>none
 |k+1,x4,x6,av,ax,aA,ay=>if(ay.length:Int)>0 then(kY.l1 k x4 x6 0 av ax aA ay) else(some (x4,true))
def kY.j3:Nat->List (List Int)->List Int->Int->Int->List (S59)->Int->List (S59)->Option ((List (List Int))×Bool)
 |0,_,_,_,_,_,_,_=>none
 |k+1,x4,x6,x7,av,ax,aA,ay=>(mo.f k aA ay x6 x7).bind fun cT=>(if cT.2=true then(kY.l2 k x4 x6 cT.1 (([]:List (S59))) 0 av ax aA ay) else(some ((([]:List (List Int))),false)))
def kY.l2:Nat->List (List Int)->List Int->List Int->List (S59)->Int->Int->List (S59)->Int->List (S59)->Option ((List (List Int))×Bool)
 |0,_,_,_,_,_,_,_,_,_=>none
 |k+1,x4,x6,x8,cu,a5,av,ax,aA,ay=>if a5<(x8.length:Int) then(if a5>0 then(if 0<=(wrap64 (a5 - 1)) then(if(wrap64 (a5 - 1))<(x8.length:Int) then(if 0<=a5 then((qG.f (rd x8 (wrap64 (a5 - 1))) (rd x8 a5)).bind fun bI=>(if cu.length<8796093022208 then((some (cu++[(⟨bI.1,bI.2⟩:S59)]:List (S59))).bind fun aM=>((nZ.f k x6 (rd x8 a5)).bind fun ba=>(if ba=true then(kY.l2 k x4 x6 x8 aM (wrap64 (a5+1)) av ax aA ay) else(if x6.length<17592186044416 then(kY.l2 k x4 (x6++[rd x8 a5]) x8 aM (wrap64 (a5+1)) av ax aA ay) else(none))))) else(none))) else(none)) else(none)) else(none)) else(if 0<=a5 then((nZ.f k x6 (rd x8 a5)).bind fun cj=>(if cj=true then(kY.l2 k x4 x6 x8 cu (wrap64 (a5+1)) av ax aA ay) else(if x6.length<17592186044416 then(kY.l2 k x4 (x6++[rd x8 a5]) x8 cu (wrap64 (a5+1)) av ax aA ay) else(none)))) else(none))) else((nL.f k aA ay cu).bind fun cU=>(if x4.length<5864062014805 then(kY.l0 k (x4++[x8]) x6 av ax cU.1 cU.2) else(none)))
def kY.l1:Nat->List (List Int)->List Int->Int->Int->List (S59)->Int->List (S59)->Option ((List (List Int))×Bool)
 |0,_,_,_,_,_,_,_=>none
 |k+1,x4,x6,x7,av,ax,aA,ay=>if x7<av then((nZ.f k x6 x7).bind fun ck=>(if ck=true then((uH.f k aA ay x7).bind fun bo=>(if bo=true then(kY.l1 k x4 x6 (wrap64 (x7+1)) av ax aA ay) else(kY.j3 k x4 x6 x7 av ax aA ay))) else(kY.l1 k x4 x6 (wrap64 (x7+1)) av ax aA ay))) else(kY.j3 k x4 x6 x7 av ax aA ay)
end
def kY.f (k:Nat) (ag:Int) (ai:List (S59)):Option ((List (List Int))×Bool):=(some (([]:List (List Int)):List (List Int))).bind fun aw=>((l6.f k ag ai).bind fun bp=>(if bp=true then(if ag<3 then(kY.j0 k aw true ag ai) else((oD.f k ag ai).bind fun aN=>(if aN=1 then((nK.f k ag ai).bind fun a2=>(kY.j0 k aw (decide ((a2.length:Int)>0)) ag ai)) else(kY.j0 k aw true ag ai)))) else(kY.j0 k aw true ag ai)))
def kY.T18:Bool×List (List Nat×List Nat):=(true,[([],[]),([],[]),([],[]),([2],[2]),([1,3],[1,3]),([4],[4]),([],[]),([],[]),([6,7],[6,7]),([8],[8]),([5,9],[5,9]),([10],[10]),([0,11,10],[0,11]),([12,12,0,1,2,3,4,5,6,7,8,9,10,11,12],[0,12])])
def kY.B18:List Nat:=[0,0,0,4,14,30,0,0,192,448,1022,2046,4095,8191]
theorem kY.EC:mI .any (opsOf Try.f22 18)=kY.T18:=by kernel_rfl
theorem kY.BQ:nP kY.T18.2 kY.B18=true:=by kernel_rfl
theorem kY.calls {k:Nat}{ag:Int}{aQ:Option Addr}{aR:Nat}{ai:List (S59)}{r1:List (List Int)}{r2:Bool}{w:World}(cW:Kd.C k59 w aQ ai.length ai)(cX:ai.length<=aR)(h:kY.f k ag ai=some (r1,r2)):
  Calls Try.prog 22 #[.agg #[.int .i64 ag,.slice aQ ai.length aR]] w fun e w'=>∃eu:Value,e=.returned (.tuple #[eu,.bool r2])/\Kd.S (Kd.slice 3 (Kd.int .i64)) 45 w' w.heap.size (fun _=>True) eu r1/\Below w.heap.size w w':=by
 have g7:=Try.underlying31;have a7:=dm cW;have a8:=dm cX;clear cW cX;have HB:=dm (Below.refl w.heap.size w);unfold kY.f at h;have H:=h;clear h;obtain⟨aw,bJ⟩:∃y_:List (List Int),y_=(([]:List (List Int))):=⟨_,rfl⟩;replace H:((l6.f k ag ai).bind fun bp=>(if bp=true then(if ag<3 then(kY.j0 k aw true ag ai) else((oD.f k ag ai).bind fun aN=>(if aN=1 then((nK.f k ag ai).bind fun a2=>(kY.j0 k aw (decide ((a2.length:Int)>0)) ag ai)) else(kY.j0 k aw true ag ai)))) else(kY.j0 k aw true ag ai)))=some (r1,r2):=lZ bJ H
 have cY:=dm bJ;clear bJ;have dJ:=dm H;clear H
 go_enter Try.func22,Try.ntmps22
 go_upto_region 2 with(first|((with_reducible refine kF 1 rfl ?_);(try(refine nT (by rfl) ?_;dsimp only));refine qz 1 #[.int .i64 ag,.slice aQ ai.length aR] 31 ?_;intro aW hg w3 jV hb;have ab:=dm (jV);have gH:=dm ((by rw[hg];exact(kK (jU HB.out)):w.heap.size<=aW));have gI:=dm ((by rw[hg];exact(kK (jU HB.out)):w.heap.size<=aW));replace HB:=kg HB hb;clear hb jV hg)|((with_reducible refine kF 12 rfl ?_);(try(refine nT (by rfl) ?_;dsimp only));refine xI (Kd.slice 3 (Kd.int .i64)) _ 45 ?hg (N:=12) ?hd (xs:=([]:List (List Int))) (inner:=[]) (ok:=fun _=>True) (okp:=fun _=>True) ?hr ?hp (fun _ hk=>hk) trivial (Below.refl _ _) (Nat.le_refl _) (by simp) ?_;(case hd=>rfl);(case hg=>rfl);(case hr=>first|(go_simp;done)|(go_simp;rfl));(case hp=>exact(kN.none _ _));intro eC w4 cA hb hg_ lq;clear hg_ lq;(first|rw[←cY.out]at cA|(simp only [Int.reduceToNat]at cA;rw[←cY.out]at cA));have aK:=dm (vz cA (kK (jU HB.out)));replace ab:=jT ab hb;replace HB:=kg HB hb;clear hb cA))
 (try simp only [Act.put,List.setIfInBounds_toArray,List.set_cons_zero,List.set_cons_succ])
 go_cut [31] (fun gj wc=>∃ (kq:Nat) (bZ:Bool),gj=.bool bZ/\jP (kY.j0 kq aw bZ ag ai=some (r1,r2))/\jP (kq<=k)/\jP (Kd.S (Kd.slice 3 (Kd.int .i64)) 45 wc w.heap.size (fun _=>True) eC aw)/\jP (wc.heap[aW]? =some (.cells #[.int .i64 ag,(.slice aQ ai.length aR)] 31 (0,0)))/\jP (Below w.heap.size w wc))
 case first=>
  have H:=dJ.out;clear dJ;obtain⟨bp,A6,H⟩:=kS H;(try dsimp only at H)
  rcases mr H with⟨h_,H_⟩|⟨h_,H_⟩<;> (subst h_;clear H;have H:=H_;clear H_)
  ·skip
   replace H:=mh H;rcases H with⟨b6,H⟩|⟨b6,H⟩
   ·(first|rw[b6]|(simp only [mK,nC];rw[b6])|skip);have H':=dm H;clear H;have⟨gl,gm,gn,gp⟩:=ko (w:=w4) ab
    go_wp2_with (first|((with_reducible refine kT 32 rfl ?_);refine nG 14 rfl Try.func32 (l6.calls (kz (lg a7.out HB.out)) a8.out A6.out) ?_;intro gq hb;replace aK:=dm (oz (sD) hb);replace ab:=jT ab hb;replace HB:=kg HB hb;(try clear hb);have⟨fk,fm,fo,fp⟩:=ko (w:=gq) ab))
    go_meet
    case rel=>exact⟨_,(true),(kD),H',⟨by first|omega|exact Nat.le_refl _⟩,⟨sD⟩,⟨jY ab.out⟩,⟨jU HB.out⟩⟩
   (first|rw[b6]|(simp only [mK,nC];rw[b6])|skip);obtain⟨aN,ev,H⟩:=kS H;(try dsimp only at H)
   by_cases b7:aN=1
   ·rw[if_pos b7]at H;have dX:=beq_iff_eq.mpr b7;have dY:=bne_eq_false_iff_eq.mpr b7;clear b7;obtain⟨a2,gr,H⟩:=kS H;(try dsimp only at H);have H':=dm H;clear H;have⟨fq,ft,fu,fv⟩:=ko (w:=w4) ab
    go_wp2_with (first|((with_reducible refine kT 32 rfl ?_);refine nG 14 rfl Try.func32 (l6.calls (kz (lg a7.out HB.out)) a8.out A6.out) ?_;intro gt hb;replace aK:=dm (oz (sD) hb);replace ab:=jT ab hb;replace HB:=kg HB hb;(try clear hb);have⟨fw,fx,fy,fz⟩:=ko (w:=gt) ab)|(go_at_call 57;refine(oD.calls (kz (lg a7.out HB.out)) a8.out ev.out).mono ?_;rintro e gu ⟨rfl,hb⟩;replace aK:=dm (oz (sD) hb);replace ab:=jT ab hb;replace HB:=kg HB hb;(try clear hb);have⟨fA,fB,fC,fD⟩:=ko (w:=gu) ab)|(go_at_call 58;refine(nK.calls (kz (lg a7.out HB.out)) a8.out gr.out).mono ?_;rintro e iy ⟨g8,rfl,a3,hb⟩;replace aK:=dm (oz (sD) hb);have dZ:=dm (kR a3 (kK (jU HB.out)));replace ab:=jT ab hb;replace HB:=kg HB hb;(try clear hb a3);obtain⟨g9,g_,eD⟩:=kJ dZ.out;subst eD))
    go_meet
    case rel=>exact⟨_,(decide ((a2.length:Int)>0)),(kD),H',⟨by first|omega|exact Nat.le_refl _⟩,⟨sD⟩,⟨jY ab.out⟩,⟨jU HB.out⟩⟩
   rw[if_neg b7]at H;have dX:=beq_eq_false_iff_ne.mpr b7;have dY:=bne_iff_ne.mpr b7;have H':=dm H;clear H;have⟨fE,fF,fG,fH⟩:=ko (w:=w4) ab
   go_wp2_with (first|((with_reducible refine kT 32 rfl ?_);refine nG 14 rfl Try.func32 (l6.calls (kz (lg a7.out HB.out)) a8.out A6.out) ?_;intro gv hb;replace aK:=dm (oz (sD) hb);replace ab:=jT ab hb;replace HB:=kg HB hb;(try clear hb);have⟨fI,fJ,fK,fL⟩:=ko (w:=gv) ab)|(go_at_call 57;refine(oD.calls (kz (lg a7.out HB.out)) a8.out ev.out).mono ?_;rintro e iz ⟨rfl,hb⟩;replace aK:=dm (oz (sD) hb);replace ab:=jT ab hb;replace HB:=kg HB hb;(try clear hb)))
   go_meet
   case rel=>exact⟨_,(true),(kD),H',⟨by first|omega|exact Nat.le_refl _⟩,⟨sD⟩,⟨jY ab.out⟩,⟨jU HB.out⟩⟩
  have H':=dm H;clear H;have⟨fM,fN,fO,fP⟩:=ko (w:=w4) ab
  go_wp2_with (first|((with_reducible refine kT 32 rfl ?_);refine nG 14 rfl Try.func32 (l6.calls (kz (lg a7.out HB.out)) a8.out A6.out) ?_;intro iA hb;replace aK:=dm (oz (sD) hb);replace ab:=jT ab hb;replace HB:=kg HB hb;(try clear hb)))
  go_meet
  case rel=>exact⟨_,(true),(kD),H',⟨by first|omega|exact Nat.le_refl _⟩,⟨sD⟩,⟨jY ab.out⟩,⟨jU HB.out⟩⟩
 case rest=>
  clear dJ;obtain⟨kq,bZ,rfl,HA,bm,al,ab,HB⟩:=hcut;cases kq with
  |zero=>exact absurd HA.out (by simp[kY.j0])
  |succ cD=>
   have H:=HA.out;clear HA;simp only [kY.j0]at H
   rcases mr H with⟨h_,H_⟩|⟨h_,H_⟩<;> (subst h_;clear H;have H:=H_;clear H_)
   ·simp only [Option.some.injEq,Prod.mk.injEq]at H;obtain⟨rfl,rfl⟩:=H
    go_wp2
    go_ret2
    exact⟨_,mH,by(with_reducible repeat(first|apply oQ|apply oU|apply oC));exact al.out,jU HB.out⟩
   obtain⟨⟨bq,br⟩,gw,H⟩:=kS H;(try dsimp only at H);obtain⟨dK,bK⟩:∃y_:List Int,y_=(([0]:List Int)):=⟨_,rfl⟩;replace H:(kY.l0 cD aw dK ag ai bq br)=some (r1,r2):=lZ bK H
   have cZ:=dm bK;clear bK;have H':=dm H;clear H;have⟨dv,dw,dx,dy⟩:=ko (w:=wc) ab
   go_wp2_with (first|((with_reducible refine kT 59 rfl ?_);refine lM 34 rfl Try.func59 (oO.calls (kz (lg a7.out HB.out)) a8.out gw.out) ?_;rintro e iB ⟨hD,rfl,a3,hb⟩;refine⟨_,rfl,?_⟩;replace al:=dm (oz (mJ) hb);have a9:=dm (kR a3 (kK (jU HB.out)));replace ab:=jT ab hb;replace HB:=kg HB hb;(try clear hb a3))|((with_reducible refine kF 5 rfl ?_);(try(refine nT (by rfl) ?_;dsimp only));refine qz 5 #[.int .i64 0,.slice none 0 0] 31 ?_;intro au hg gx jV hb;replace al:=dm (oz (mJ) hb);replace a9:=kE a9 hb;have ae:=dm (jV);have gJ:=dm ((by rw[hg];exact(kK (jU HB.out)):w.heap.size<=au));have gK:=dm ((by rw[hg];exact(kK (jU HB.out)):w.heap.size<=au));replace HB:=kg HB hb;have aC:=dm ((by rw[hg];exact Nat.ne_of_lt (lL (g:=aW) (o:=.cells #[.int .i64 ag,.slice aQ ai.length aR] 31 (0,0)) (jY ab.out)):aW≠au));have aG:=dm ((by rw[hg];exact Nat.ne_of_gt (lL (g:=aW) (o:=.cells #[.int .i64 ag,.slice aQ ai.length aR] 31 (0,0)) (jY ab.out)):au≠aW));replace ab:=jT ab hb;clear hb jV hg;have gM:=aG.out;have gN:=aC.out;have⟨dz,dA,dB,dC⟩:=ko (w:=gx) ae;obtain⟨cl,cm,eE⟩:=kJ a9.out;subst eE)|((with_reducible refine kF 35 rfl ?_);(try(refine nT (by rfl) ?_;dsimp only));refine oL (Kd.int .i64) rfl 3 ([0]:List Int) [.int .i64 0] (kN.one (show Kd.M (Kd.int .i64) _ _ _ 0 [.int .i64 0] from rfl) (kN.none _ _)) ?_;intro hJ iC bV hb hg_ lq;clear hg_ lq;(first|rw[←cZ.out]at bV|(simp only [Int.reduceToNat]at bV;rw[←cZ.out]at bV));replace al:=dm (rH (by(with_reducible repeat(first|apply oQ|apply oU|apply oC));exact(qY (uj (p:=⟨au,1,none⟩) (uj (p:=⟨au,0,none⟩) (xN al.out ae.out (ky)) (fun _ hk=>hk.2) (.int .i64 bq)) (fun _ hk=>hk.2) (.slice cl br.length cm)) (fun _ h_=>h_.1))) (p_ bV) hb);replace a9:=dm (qa (by(with_reducible repeat(first|apply kH|apply kI|apply kw));exact(kv (kG (p:=⟨au,1,none⟩) (kG (p:=⟨au,0,none⟩) (lH a9.out ae.out (ky)) (fun _ hk=>hk.2) (.int .i64 bq)) (fun _ hk=>hk.2) (.slice cl br.length cm)) (fun _ h_=>h_.1))) hb);have d7:=dm (kR bV (kK (jU HB.out)));replace ab:=dm (nW (g:=aW) (o:=.cells #[.int .i64 ag,.slice aQ ai.length aR] 31 (0,0)) (CQ) hb);replace ae:=dm (nW (g:=au) (o:=.cells #[.int .i64 bq,.slice cl br.length cm] 31 (0,0)) (lG ae.out) hb);replace HB:=kg HB hb;clear hb bV))
   go_loopg [4,6] cD (fun kq v4 v6 w'=>∃ (aq:List (List Int)) (aD:List Int) (ah:Int) (ac:List (S59)) (bW:Value),jP (kY.l0 kq aq aD ag ai ah ac=some (r1,r2))/\jP (kq<=cD)/\jP (Kd.S (Kd.slice 3 (Kd.int .i64)) 45 w' w.heap.size (fun k_=>some k_≠(v6:Value).ownBlock) v4 aq)/\jP (Kd.R (Kd.int .i64) 3 w' w.heap.size (fun _=>True) v6 aD)/\jP (Kd.R k59 59 w' w.heap.size (fun _=>True) bW ac)/\jP (w'.heap[aW]? =some (.cells #[.int .i64 ag,(.slice aQ ai.length aR)] 31 (0,0)))/\jP (w'.heap[au]? =some (.cells #[.int .i64 ah,bW] 31 (0,0)))/\jP (Below w.heap.size w w'))
   case atStart=>exact⟨(aw),(dK),(bq),(br),(.slice cl br.length cm),H',⟨Nat.le_refl _⟩,⟨by(with_reducible repeat(first|apply oQ|apply oU|apply oC));exact qY al.out (fun _ hk=>hk.2)⟩,⟨jX d7.out⟩,⟨jX a9.out⟩,⟨jY ab.out⟩,⟨jY ae.out⟩,⟨jU HB.out⟩⟩
   case round=>
    clear H';(try clear cE dv dw dz dA dx dy dB dC);obtain⟨aq,aD,ah,ac,bW,HA,bn,al,aj,aa,ab,ae,HB⟩:=hrel;cases gk with
    |zero=>exact absurd HA.out (by simp[kY.l0])
    |succ k2=>
     have H:=HA.out;clear HA;simp only [kY.l0]at H
     by_cases b9:(ac.length:Int)>0;rotate_left
     ·rw[if_neg b9]at H;have cn:=decide_eq_false b9;have co:decide (0<ac.length)=false:=decide_eq_false (by omega);clear b9;simp only [Option.some.injEq,Prod.mk.injEq]at H;obtain⟨rfl,rfl⟩:=H;have gF:=aG.out;have gG:=aC.out;have⟨fg,fh,fi,fj⟩:=ko (w:=wr) ae;obtain⟨g5,g6,et⟩:=kJ aa.out;subst et
      go_wp2
      go_ret2
      exact⟨_,mH,by(with_reducible repeat(first|apply oQ|apply oU|apply oC));exact qY al.out (fun _ hk=>trivial),jU HB.out⟩
     rw[if_pos b9]at H;have cn:=decide_eq_true b9;have co:decide (0<ac.length)=true:=decide_eq_true (by omega);clear b9;have cG:=dm H;clear H;have gO:=aG.out;have gP:=aC.out;have⟨b_,ca,cd,ce⟩:=ko (w:=wr) ae;obtain⟨aT,aU,eF⟩:=kJ aa.out;subst eF
     go_upto_block 2 with(fail)
     go_cut [7] (fun v7 wc=>∃ (kq:Nat) (bk:Int),v7=.int .i64 bk/\jP (kY.j3 kq aq aD bk ag ai ah ac=some (r1,r2))/\jP (kq<=k2)/\jP (Kd.S (Kd.slice 3 (Kd.int .i64)) 45 wc w.heap.size (fun k_=>some k_≠(u6:Value).ownBlock) u4 aq)/\jP (Kd.R (Kd.int .i64) 3 wc w.heap.size (fun _=>True) u6 aD)/\jP (Kd.R k59 59 wc w.heap.size (fun _=>True) (.slice aT ac.length aU) ac)/\jP (wc.heap[aW]? =some (.cells #[.int .i64 ag,(.slice aQ ai.length aR)] 31 (0,0)))/\jP (wc.heap[au]? =some (.cells #[.int .i64 ah,(.slice aT ac.length aU)] 31 (0,0)))/\jP (Below w.heap.size w wc))
     case first=>
      have H:=cG.out;clear cG;have H':=dm H;clear H
      go_wp2
      go_loopg [7] k2 (fun kq v7 w'=>∃ (aE:Int),v7=.int .i64 aE/\jP (kY.l1 kq aq aD aE ag ai ah ac=some (r1,r2))/\jP (kq<=k2)/\jP (Kd.S (Kd.slice 3 (Kd.int .i64)) 45 w' w.heap.size (fun k_=>some k_≠(u6:Value).ownBlock) u4 aq)/\jP (Kd.R (Kd.int .i64) 3 w' w.heap.size (fun _=>True) u6 aD)/\jP (Kd.R k59 59 w' w.heap.size (fun _=>True) (.slice aT ac.length aU) ac)/\jP (w'.heap[aW]? =some (.cells #[.int .i64 ag,(.slice aQ ai.length aR)] 31 (0,0)))/\jP (w'.heap[au]? =some (.cells #[.int .i64 ah,(.slice aT ac.length aU)] 31 (0,0)))/\jP (Below w.heap.size w w'))
      case atStart=>exact⟨(0),(kD),H',⟨Nat.le_refl _⟩,⟨mJ⟩,⟨jX aj.out⟩,⟨jX aa.out⟩,⟨jY ab.out⟩,⟨jY ae.out⟩,⟨jU HB.out⟩⟩
      case round=>
       clear H';(try clear cn co b_ ca cd ce);obtain⟨aE,rfl,HA,cf,al,aj,aa,ab,ae,HB⟩:=hrel;cases gk with
       |zero=>exact absurd HA.out (by simp[kY.l1])
       |succ k3=>
        have H:=HA.out;clear HA;simp only [kY.l1]at H
        replace H:=mh H;rcases H with⟨bL,H⟩|⟨bL,H⟩
        ·(first|rw[bL]|(simp only [mK,nC];rw[bL])|skip);obtain⟨ck,dL,H⟩:=kS H;(try dsimp only at H)
         rcases mr H with⟨h_,H_⟩|⟨h_,H_⟩<;> (subst h_;clear H;have H:=H_;clear H_)
         ·obtain⟨bo,ew,H⟩:=kS H;(try dsimp only at H)
          rcases mr H with⟨h_,H_⟩|⟨h_,H_⟩<;> (subst h_;clear H;have H:=H_;clear H_)
          ·have H':=dm H;clear H;have gQ:=aC.out;have gR:=aG.out;have⟨fQ,fR,fS,fT⟩:=ko (w:=wr) ab;obtain⟨hU,hV,eG⟩:=kJ aj.out;subst eG
           go_wp2_with (first|(go_at_call 47;refine(nZ.calls (kz (ku aj.out).2.2) ((ku aj.out).2.1) dL.out).mono ?_;rintro e w' ⟨rfl,⟨nd,rfl⟩⟩;have⟨fU,fV,fW,fX⟩:=ko (w:=wr) ae)|(go_at_call 60;refine(uH.calls (kz (ku aa.out).2.2) ((ku aa.out).2.1) ew.out).mono ?_;rintro e iD ⟨rfl,hb⟩;replace al:=dm (oz (mJ) hb);replace aj:=kE aj hb;replace aa:=kE aa hb;replace ab:=jT ab hb;replace ae:=jT ae hb;replace HB:=kg HB hb;(try clear hb)))
           go_roundg k3
           case measure=>have:=bm.out;have:=bn.out;have:=cf.out;omega
           case rel=>exact⟨(wrap64 (aE+1)),(kD),H',⟨by have:=bm.out;have:=bn.out;have:=cf.out;omega⟩,⟨mJ⟩,⟨jX aj.out⟩,⟨jX aa.out⟩,⟨jY ab.out⟩,⟨jY ae.out⟩,⟨jU HB.out⟩⟩
          have H':=dm H;clear H;have gS:=aC.out;have gT:=aG.out;have⟨fY,fZ,f2,f3⟩:=ko (w:=wr) ab;obtain⟨hX,hY,eH⟩:=kJ aj.out;subst eH
          go_wp2_with (first|(go_at_call 47;refine(nZ.calls (kz (ku aj.out).2.2) ((ku aj.out).2.1) dL.out).mono ?_;rintro e w' ⟨rfl,⟨nd,rfl⟩⟩;have⟨f4,f5,f6,f7⟩:=ko (w:=wr) ae)|(go_at_call 60;refine(uH.calls (kz (ku aa.out).2.2) ((ku aa.out).2.1) ew.out).mono ?_;rintro e iE ⟨rfl,hb⟩;replace al:=dm (oz (mJ) hb);replace aj:=kE aj hb;replace aa:=kE aa hb;replace ab:=jT ab hb;replace ae:=jT ae hb;replace HB:=kg HB hb;(try clear hb)))
          go_meet
          case rel=>exact⟨_,(aE),(kD),H',⟨by have:=bm.out;have:=bn.out;have:=cf.out;first|omega|exact Nat.le_refl _⟩,⟨mJ⟩,⟨jX aj.out⟩,⟨jX aa.out⟩,⟨jY ab.out⟩,⟨jY ae.out⟩,⟨jU HB.out⟩⟩
         have H':=dm H;clear H;have gU:=aC.out;have gV:=aG.out;have⟨f8,f9,f_,ga⟩:=ko (w:=wr) ab;obtain⟨hZ,ia,eI⟩:=kJ aj.out;subst eI
         go_wp2_with (first|(go_at_call 47;refine(nZ.calls (kz (ku aj.out).2.2) ((ku aj.out).2.1) dL.out).mono ?_;rintro e w' ⟨rfl,⟨nd,rfl⟩⟩))
         go_roundg k3
         case measure=>have:=bm.out;have:=bn.out;have:=cf.out;omega
         case rel=>exact⟨(wrap64 (aE+1)),(kD),H',⟨by have:=bm.out;have:=bn.out;have:=cf.out;omega⟩,⟨mJ⟩,⟨jX aj.out⟩,⟨jX aa.out⟩,⟨jY ab.out⟩,⟨jY ae.out⟩,⟨jU HB.out⟩⟩
        (first|rw[bL]|(simp only [mK,nC];rw[bL])|skip);have H':=dm H;clear H;have gW:=aC.out;have gX:=aG.out;have⟨gb,gc,ge,gf⟩:=ko (w:=wr) ab
        go_wp2
        go_meet
        case rel=>exact⟨_,(aE),(kD),H',⟨by have:=bm.out;have:=bn.out;have:=cf.out;first|omega|exact Nat.le_refl _⟩,⟨mJ⟩,⟨jX aj.out⟩,⟨jX aa.out⟩,⟨jY ab.out⟩,⟨jY ae.out⟩,⟨jU HB.out⟩⟩
     case rest=>
      clear cG;(try clear cn co b_ ca cd ce);obtain⟨kq,bk,rfl,HA,bU,al,aj,aa,ab,ae,HB⟩:=hcut;cases kq with
      |zero=>exact absurd HA.out (by simp[kY.j3])
      |succ bx=>
       have H:=HA.out;clear HA;simp only [kY.j3]at H;obtain⟨⟨ak,dM⟩,ex,H⟩:=kS H;(try dsimp only at H)
       rcases mr H with⟨h_,H_⟩|⟨h_,H_⟩<;> (subst h_;clear H;have H:=H_;clear H_)
       ·obtain⟨dN,bM⟩:∃y_:List (S59),y_=(([]:List (S59))):=⟨_,rfl⟩;replace H:(kY.l2 bx aq aD ak dN 0 ag ai ah ac)=some (r1,r2):=lZ bM H
        have dc:=dm bM;clear bM;have H':=dm H;clear H;have gY:=aG.out;have gZ:=aC.out;have⟨dD,dE,dF,dG⟩:=ko (w:=wc) ae;obtain⟨eJ,eK,eL⟩:=kJ aj.out;subst eL
        go_wp2_with (first|((with_reducible refine kT 61 rfl ?_);refine lM 61 rfl Try.func61 (mo.calls (kz (ku aa.out).2.2) ((ku aa.out).2.1) (kz (ku aj.out).2.2) ((ku aj.out).2.1) ex.out) ?_;rintro e iF ⟨cp,rfl,a3,hb⟩;refine⟨_,rfl,?_⟩;replace al:=dm (rH (mJ) (p_ a3) hb);replace aa:=kE aa hb;have a6:=dm (kR (lF a3 (kW (jX aj.out))) (kK (jU HB.out)));replace aj:=lT aj a3 hb;replace ab:=jT ab hb;replace ae:=jT ae hb;replace HB:=kg HB hb;(try clear hb a3))|((with_reducible refine kF 67 rfl ?_);(try(refine nT (by rfl) ?_;dsimp only));refine oL k59 rfl 59 ([]:List (S59)) [] (kN.none _ _) ?_;intro ib iG bX hb hg_ lq;clear hg_ lq;(first|rw[←dc.out]at bX|(simp only [Int.reduceToNat]at bX;rw[←dc.out]at bX));replace al:=dm (oz (mJ) hb);replace aj:=kE aj hb;replace a6:=kE a6 hb;have d8:=dm (kR (lF bX (kW (jX aa.out))) (kK (jU HB.out)));replace aa:=lT aa bX hb;replace ab:=jT ab hb;replace ae:=jT ae hb;replace HB:=kg HB hb;clear hb bX))
        go_loopg [6,10,11] bx (fun kq v6 ey gy w'=>∃ (ap:List Int) (az:List (S59)) (af:Int),gy=.int .i64 af/\jP (kY.l2 kq aq ap ak az af ag ai ah ac=some (r1,r2))/\jP (kq<=bx)/\jP (Kd.S (Kd.slice 3 (Kd.int .i64)) 45 w' w.heap.size (fun k_=>some k_≠(v6:Value).ownBlock/\some k_≠(cp:Value).ownBlock) u4 aq)/\jP (Kd.R (Kd.int .i64) 3 w' w.heap.size (fun k_=>some k_≠(cp:Value).ownBlock) v6 ap)/\jP (Kd.R (Kd.int .i64) 3 w' w.heap.size (fun k_=>some k_≠(v6:Value).ownBlock) cp ak)/\jP (Kd.R k59 59 w' w.heap.size (fun k_=>some k_≠((.slice aT ac.length aU):Value).ownBlock) ey az)/\jP (Kd.R k59 59 w' w.heap.size (fun k_=>some k_≠(ey:Value).ownBlock) (.slice aT ac.length aU) ac)/\jP (w'.heap[aW]? =some (.cells #[.int .i64 ag,(.slice aQ ai.length aR)] 31 (0,0)))/\jP (w'.heap[au]? =some (.cells #[.int .i64 ah,(.slice aT ac.length aU)] 31 (0,0)))/\jP (Below w.heap.size w w'))
        case atStart=>exact⟨(aD),(dN),(0),(kD),H',⟨Nat.le_refl _⟩,⟨mJ⟩,⟨by(with_reducible repeat(first|apply kH|apply kI|apply kw));exact kv aj.out (fun _ hk=>hk.2)⟩,⟨by(with_reducible repeat(first|apply kH|apply kI|apply kw));exact kv a6.out (fun _ hk=>hk.2)⟩,⟨by(with_reducible repeat(first|apply kH|apply kI|apply kw));exact kv d8.out (fun _ hk=>hk.2)⟩,⟨o9⟩,⟨jY ab.out⟩,⟨jY ae.out⟩,⟨jU HB.out⟩⟩
        case round=>
         clear H';(try clear cF dD dE dF dG);obtain⟨ap,az,af,rfl,HA,b8,al,aj,ao,am,aa,ab,ae,HB⟩:=hrel;cases gk with
         |zero=>exact absurd HA.out (by simp[kY.l2])
         |succ k4=>
          have H:=HA.out;clear HA;simp only [kY.l2]at H
          replace H:=mh H;rcases H with⟨d9,H⟩|⟨d9,H⟩
          ·skip
           replace H:=mh H;rcases H with⟨d_,H⟩|⟨d_,H⟩
           ·obtain⟨aI,bY⟩:∃j_:Int,(wrap64 (af - 1))=j_:=⟨_,rfl⟩;replace H:(if 0<=(aI) then(if(aI)<(ak.length:Int) then(if 0<=af then((qG.f (rd ak (aI)) (rd ak af)).bind fun bI=>(if az.length<8796093022208 then((some (az++[(⟨bI.1,bI.2⟩:S59)]:List (S59))).bind fun aM=>((nZ.f k4 ap (rd ak af)).bind fun ba=>(if ba=true then(kY.l2 k4 aq ap ak aM (wrap64 (af+1)) ag ai ah ac) else(if ap.length<17592186044416 then(kY.l2 k4 aq (ap++[rd ak af]) ak aM (wrap64 (af+1)) ag ai ah ac) else(none))))) else(none))) else(none)) else(none)) else(none))=some (r1,r2):=by first|(rw[bY]at H;exact H)|(simp only [bY]at H⊢;exact H)
            have gz:(IntKind.i64.wrap (af - 1))=aI:=(mK _).trans bY
            obtain⟨g0,H⟩:=lv H
            obtain⟨g2,H⟩:=lv H
            obtain⟨g3,H⟩:=lv H;obtain⟨⟨bd,bf⟩,ez,H⟩:=kS H;(try dsimp only at H)
            obtain⟨dg,H⟩:=ni H;have dh:=dm dg;clear dg;obtain⟨aM,bN⟩:∃y_:List (S59),y_=(az++[(⟨bd,bf⟩:S59)]):=⟨_,rfl⟩;replace H:((nZ.f k4 ap (rd ak af)).bind fun ba=>(if ba=true then(kY.l2 k4 aq ap ak aM (wrap64 (af+1)) ag ai ah ac) else(if ap.length<17592186044416 then(kY.l2 k4 aq (ap++[rd ak af]) ak aM (wrap64 (af+1)) ag ai ah ac) else(none))))=some (r1,r2):=lZ bN H
            have di:=dm bN;clear bN;obtain⟨ba,eA,H⟩:=kS H;(try dsimp only at H)
            rcases mr H with⟨h_,H_⟩|⟨h_,H_⟩<;> (subst h_;clear H;have H:=H_;clear H_)
            ·have H':=dm H;clear H;obtain⟨ic,ie,eM⟩:=kJ ao.out;subst eM;try go_wp2
             replace al:=dm (oC al.out);replace aj:=dm (kw aj.out);replace ao:=dm (kw ao.out);replace am:=dm (kw am.out);replace aa:=dm (kw aa.out);replace ab:=dm (kP ab.out);replace ae:=dm (kP ae.out);replace HB:=dm (l8 HB.out);have bz:0<=((aI):Int):=jZ;have bA:(aI)<(ak.length:Int):=jZ;obtain⟨aX,cH,bh⟩:=lI (ku ao.out).2.2 (aI) bz bA;cases cH;replace bz:=eq_true bz;replace bA:=eq_true bA;have bB:0<=(af:Int):=jZ;have bC:af<(ak.length:Int):=jZ;obtain⟨cq,cI,bj⟩:=lI (ku ao.out).2.2 af bB bC;obtain rfl:aX=cq:=(by injection cI);replace bB:=eq_true bB;replace bC:=eq_true bC;refine nu 14 (S:=fun w'=>w'.cell? (aX.add ((aI)).toNat)=some (.int .i64 (rd ak (aI)))/\w'.cell? (aX.add (af).toNat)=some (.int .i64 (rd ak af))) [11,12] ⟨bh,bj⟩ kY.EC kY.BQ (fun hHeld HT_ HW_=>?_);generalize wr.drew=iH at al aj ao am aa ab ae HB bh bj hHeld⊢;refine jS 0 76 1 ?_;refine jS 1 77 3 ?_;refine jS 2 78 7 ?_;refine jS 3 79 15 ?_;refine jS 4 80 31 ?_;refine jS 6 82 95 ?_;refine jS 7 83 223 ?_;refine jS 8 84 479 ?_;refine kL 5 81 511 ?_;refine kL 9 85 1023 ?_;refine lu 10 86 2047 (fun K hK=>?_);refine qO Try.func46 (kX) rfl #[.int .i64 (rd ak (aI)),.int .i64 (rd ak af)] (by rfl) rfl rfl (CR) ?_;refine(qG.calls ez.out).mono ?_;rintro e iI ⟨rfl,hb⟩;have cJ:=(hb.cell (World.block_lt_of_cell? _ _ (hHeld.1))).trans (hHeld.1);have cL:=(hb.cell (World.block_lt_of_cell? _ _ (hHeld.2))).trans (hHeld.2);refine⟨_,rfl,?_⟩;replace al:=dm (oz (mJ) hb);replace aj:=kE aj hb;replace ao:=kE ao hb;replace am:=kE am hb;replace aa:=kE aa hb;replace ab:=jT ab hb;replace ae:=jT ae hb;replace HB:=kg HB hb;(try clear hb gA hk hi);refine hK.out _ _ ⟨cJ,cL⟩ (fun hHeld=>?_);clear hK K;refine kM 86 ?_;refine qp 11 (some 87) (lm 14 4095) (fun K hK=>?_);refine uf (w1:= ?_) (v:= ?_) (by rfl) rfl ?_ ?_;rotate_left 2
             ·go_simp
              constructor
              ·rfl
              rfl
             refine hK.out _ _ ?_;clear hK K;refine kM 87 ?_;refine qp 12 (some 88) (lm 14 8191) (fun K hK=>?_);refine tJ k59 (w0:=w) w.heap.size (by rfl) (.tmp 76) (.tmp 87) 29 59 (.agg #[(.int .i64 0),(.int .i64 0)]) 16 rfl Try.underlying29 qB rfl (ky) (by omega) u10 az (⟨bd,bf⟩:S59) [.int .i64 bd,.int .i64 bf] (fun k_=>some k_≠(.slice aT ac.length aU:Value).ownBlock) (fun _=>False) rfl rfl ?aP (fun _ hk=>hk.elim) ?aF ?aO ?aB ?aS ?aL ?_;(case aP=>exact pI _ _ _ (⟨bd,bf⟩:S59));(case aB=>exact(jU HB.out));(case aF=>exact(fun k_ hk=>Kd.fresh' (kW (jX aa.out)) k_ hk));(case aO=>exact(jX am.out));(case aS=>exact(kK (jU HB.out)));(case aL=>have:=dh.out;omega);intro eN iJ ho hb hg hat;rw[←di.out]at ho;have n0:=dm (xL (mJ) (oW (jX am.out)) (ky) hg);have n1:=dm (oN (jX aj.out) (oW (jX am.out)) (ky) hg);have n2:=dm (oN (jX ao.out) (oW (jX am.out)) (ky) hg);have n3:=dm (oG (ok:=(fun _=>True)) (CS) hg hat);have n4:=lY ab hg (lU am.out ab.out (ky));have n5:=lY ae hg (lU am.out ae.out (ky));have n6:=dm (hb);have n7:=dm (ho);clear al aj ao aa ab ae HB am;revert n0 n1 n2 n3 n4 n5 n6 n7;intro al aj ao aa ab ae HB bu;clear ho hb hg hat;refine hK.out _ _ ?_;clear hK K;refine kM 88 ?_;refine jS 13 10 16383 ?_;refine mG (mU HT_.out (kX)) ?_;have bD:0<=(af:Int):=jZ;have bE:af<(ak.length:Int):=jZ;obtain⟨cr,cM,dH⟩:=lI (ku ao.out).2.2 af bD bE;obtain rfl:aX=cr:=(by injection cM);replace bD:=eq_true bD;replace bE:=eq_true bE;obtain⟨eO,eP,eQ⟩:=kJ aj.out;subst eQ;try go_wp2_with (first|((with_reducible refine kT 47 rfl ?_);refine lM 94 rfl Try.func47 (nZ.calls (kz (ku aj.out).2.2) ((ku aj.out).2.1) eA.out) ?_;rintro e w' ⟨rfl,⟨nd,rfl⟩⟩;refine⟨_,rfl,?_⟩))
             go_roundg k4
             case measure=>have:=bm.out;have:=bn.out;have:=bU.out;have:=b8.out;omega
             case rel=>exact⟨(ap),(aM),(wrap64 (af+1)),(kD),H',⟨wR⟩,⟨mJ⟩,⟨jX aj.out⟩,⟨jX ao.out⟩,⟨jX bu.out⟩,⟨o9⟩,⟨jY ab.out⟩,⟨jY ae.out⟩,⟨jU HB.out⟩⟩
            skip
            obtain⟨dk,H⟩:=ni H;have ea:=dm dk;clear dk;obtain⟨dO,bO⟩:∃y_:List Int,y_=(ap++[rd ak af]):=⟨_,rfl⟩;replace H:(kY.l2 k4 aq dO ak aM (wrap64 (af+1)) ag ai ah ac)=some (r1,r2):=lZ bO H
            have eb:=dm bO;clear bO;have H':=dm H;clear H;obtain⟨ig,dP,eR⟩:=kJ ao.out;subst eR;try go_wp2
            replace al:=dm (oC al.out);replace aj:=dm (kw aj.out);replace ao:=dm (kw ao.out);replace am:=dm (kw am.out);replace aa:=dm (kw aa.out);replace ab:=dm (kP ab.out);replace ae:=dm (kP ae.out);replace HB:=dm (l8 HB.out);have bz:0<=((aI):Int):=jZ;have bA:(aI)<(ak.length:Int):=jZ;obtain⟨aX,cH,bh⟩:=lI (ku ao.out).2.2 (aI) bz bA;cases cH;replace bz:=eq_true bz;replace bA:=eq_true bA;have bB:0<=(af:Int):=jZ;have bC:af<(ak.length:Int):=jZ;obtain⟨cq,cI,bj⟩:=lI (ku ao.out).2.2 af bB bC;obtain rfl:aX=cq:=(by injection cI);replace bB:=eq_true bB;replace bC:=eq_true bC;refine nu 14 (S:=fun w'=>w'.cell? (aX.add ((aI)).toNat)=some (.int .i64 (rd ak (aI)))/\w'.cell? (aX.add (af).toNat)=some (.int .i64 (rd ak af))) [11,12] ⟨bh,bj⟩ kY.EC kY.BQ (fun hHeld HT_ HW_=>?_);generalize wr.drew=iK at al aj ao am aa ab ae HB bh bj hHeld⊢;refine jS 0 76 1 ?_;refine jS 1 77 3 ?_;refine jS 2 78 7 ?_;refine jS 3 79 15 ?_;refine jS 4 80 31 ?_;refine jS 6 82 95 ?_;refine jS 7 83 223 ?_;refine jS 8 84 479 ?_;refine kL 5 81 511 ?_;refine kL 9 85 1023 ?_;refine lu 10 86 2047 (fun K hK=>?_);refine qO Try.func46 (kX) rfl #[.int .i64 (rd ak (aI)),.int .i64 (rd ak af)] (by rfl) rfl rfl (CR) ?_;refine(qG.calls ez.out).mono ?_;rintro e iL ⟨rfl,hb⟩;have cJ:=(hb.cell (World.block_lt_of_cell? _ _ (hHeld.1))).trans (hHeld.1);have cL:=(hb.cell (World.block_lt_of_cell? _ _ (hHeld.2))).trans (hHeld.2);refine⟨_,rfl,?_⟩;replace al:=dm (oz (mJ) hb);replace aj:=kE aj hb;replace ao:=kE ao hb;replace am:=kE am hb;replace aa:=kE aa hb;replace ab:=jT ab hb;replace ae:=jT ae hb;replace HB:=kg HB hb;(try clear hb gA hk hi);refine hK.out _ _ ⟨cJ,cL⟩ (fun hHeld=>?_);clear hK K;refine kM 86 ?_;refine qp 11 (some 87) (lm 14 4095) (fun K hK=>?_);refine uf (w1:= ?_) (v:= ?_) (by rfl) rfl ?_ ?_;rotate_left 2
            ·go_simp
             constructor
             ·rfl
             rfl
            refine hK.out _ _ ?_;clear hK K;refine kM 87 ?_;refine qp 12 (some 88) (lm 14 8191) (fun K hK=>?_);refine tJ k59 (w0:=w) w.heap.size (by rfl) (.tmp 76) (.tmp 87) 29 59 (.agg #[(.int .i64 0),(.int .i64 0)]) 16 rfl Try.underlying29 qB rfl (ky) (by omega) u10 az (⟨bd,bf⟩:S59) [.int .i64 bd,.int .i64 bf] (fun k_=>some k_≠(.slice aT ac.length aU:Value).ownBlock) (fun _=>False) rfl rfl ?aP (fun _ hk=>hk.elim) ?aF ?aO ?aB ?aS ?aL ?_;(case aP=>exact pI _ _ _ (⟨bd,bf⟩:S59));(case aB=>exact(jU HB.out));(case aF=>exact(fun k_ hk=>Kd.fresh' (kW (jX aa.out)) k_ hk));(case aO=>exact(jX am.out));(case aS=>exact(kK (jU HB.out)));(case aL=>have:=dh.out;omega);intro eN iM ho hb hg hat;rw[←di.out]at ho;have n0:=dm (xL (mJ) (oW (jX am.out)) (ky) hg);have n1:=dm (oN (jX aj.out) (oW (jX am.out)) (ky) hg);have n2:=dm (oN (jX ao.out) (oW (jX am.out)) (ky) hg);have n3:=dm (oG (ok:=(fun _=>True)) (CS) hg hat);have n4:=lY ab hg (lU am.out ab.out (ky));have n5:=lY ae hg (lU am.out ae.out (ky));have n6:=dm (hb);have n7:=dm (ho);clear al aj ao aa ab ae HB am;revert n0 n1 n2 n3 n4 n5 n6 n7;intro al aj ao aa ab ae HB bu;clear ho hb hg hat;refine hK.out _ _ ?_;clear hK K;refine kM 88 ?_;refine jS 13 10 16383 ?_;refine mG (mU HT_.out (kX)) ?_;have bD:0<=(af:Int):=jZ;have bE:af<(ak.length:Int):=jZ;obtain⟨cr,cM,dH⟩:=lI (ku ao.out).2.2 af bD bE;obtain rfl:aX=cr:=(by injection cM);replace bD:=eq_true bD;replace bE:=eq_true bE;obtain⟨dQ,dR,eS⟩:=kJ aj.out;subst eS;try go_wp2_with (first|((with_reducible refine kT 47 rfl ?_);refine lM 94 rfl Try.func47 (nZ.calls (kz (ku aj.out).2.2) ((ku aj.out).2.1) eA.out) ?_;rintro e w' ⟨rfl,⟨nd,rfl⟩⟩;refine⟨_,rfl,?_⟩;have cN:0<=(af:Int):=jZ;have cO:af<(ak.length:Int):=jZ;obtain⟨ec,eT,gg⟩:=lI (ku ao.out).2.2 af cN cO;obtain rfl:aX=ec:=(by injection eT);replace cN:=eq_true cN;replace cO:=eq_true cO)|((with_reducible refine oJ (b:=.append) (xs:= #[.tmp 96,.tmp 101]) rfl ?_);(try(refine nT (by rfl) ?_;dsimp only));at_builtin;refine pE (Kd.int .i64) (w0:=w) w.heap.size rfl (.tmp 96) (.tmp 101) 45 3 (.int .i64 0) 8 rfl Try.underlying45 info3 rfl (ky) (by omega) (.slice dQ ap.length dR) ap (rd ak af) [.int .i64 (rd ak af)] (fun k_=>some k_≠(.slice (some aX) ak.length dP:Value).ownBlock) (fun _=>False) rfl rfl ?aP (fun _ hk=>hk.elim) ?aF ?aO ?aB ?aS ?aL ?_;(case aP=>exact rfl);(case aB=>exact(jU HB.out));(case aF=>exact(fun k_ hk=>Kd.fresh' (kW (jX ao.out)) k_ hk));(case aO=>exact(jX aj.out));(case aS=>exact(kK (jU HB.out)));(case aL=>have:=ea.out;omega);intro ii iN ho hb hg hat;rw[←eb.out]at ho;have n0:=dm (zu (ok:=(fun k_=>some k_≠(.slice (some aX) ak.length dP:Value).ownBlock)) (tK) hg hat);have n1:=dm (oG (ok:=(fun _=>True)) (CU) hg hat);have n2:=dm (oN (jX aa.out) (oW (jX aj.out)) (ky) hg);have n3:=lY ab hg (lU aj.out ab.out (ky));have n4:=lY ae hg (lU aj.out ae.out (ky));have n5:=dm (oN (jX bu.out) (oW (jX aj.out)) (ky) hg);have n6:=dm (hb);have n7:=dm (ho);clear al ao aa ab ae bu HB aj;revert n0 n1 n2 n3 n4 n5 n6 n7;intro al ao aa ab ae bu HB ed;clear ho hb hg hat))
            go_roundg k4
            case measure=>have:=bm.out;have:=bn.out;have:=bU.out;have:=b8.out;omega
            case rel=>exact⟨(dO),(aM),(wrap64 (af+1)),(kD),H',⟨wR⟩,⟨tK⟩,⟨jX ed.out⟩,⟨CV⟩,⟨jX bu.out⟩,⟨o9⟩,⟨jY ab.out⟩,⟨jY ae.out⟩,⟨jU HB.out⟩⟩
           skip
           obtain⟨g4,H⟩:=lv H;obtain⟨cj,eB,H⟩:=kS H;(try dsimp only at H)
           rcases mr H with⟨h_,H_⟩|⟨h_,H_⟩<;> (subst h_;clear H;have H:=H_;clear H_)
           ·have H':=dm H;clear H;obtain⟨ij,ik,eU⟩:=kJ ao.out;subst eU;have bF:0<=(af:Int):=jZ;have bG:af<(ak.length:Int):=jZ;obtain⟨b3,cP,dI⟩:=lI (ku ao.out).2.2 af bF bG;cases cP;replace bF:=eq_true bF;replace bG:=eq_true bG;obtain⟨eV,eW,eX⟩:=kJ aj.out;subst eX
            go_wp2_with (first|((with_reducible refine kT 47 rfl ?_);refine lM 94 rfl Try.func47 (nZ.calls (kz (ku aj.out).2.2) ((ku aj.out).2.1) eB.out) ?_;rintro e w' ⟨rfl,⟨nd,rfl⟩⟩;refine⟨_,rfl,?_⟩))
            go_roundg k4
            case measure=>have:=bm.out;have:=bn.out;have:=bU.out;have:=b8.out;omega
            case rel=>exact⟨(ap),(az),(wrap64 (af+1)),(kD),H',⟨wR⟩,⟨mJ⟩,⟨jX aj.out⟩,⟨jX ao.out⟩,⟨jX am.out⟩,⟨jX aa.out⟩,⟨jY ab.out⟩,⟨jY ae.out⟩,⟨jU HB.out⟩⟩
           skip
           obtain⟨dq,H⟩:=ni H;have ee:=dm dq;clear dq;obtain⟨dS,bP⟩:∃y_:List Int,y_=(ap++[rd ak af]):=⟨_,rfl⟩;replace H:(kY.l2 k4 aq dS ak az (wrap64 (af+1)) ag ai ah ac)=some (r1,r2):=lZ bP H
           have ef:=dm bP;clear bP;have H':=dm H;clear H;obtain⟨il,dT,eY⟩:=kJ ao.out;subst eY;have bF:0<=(af:Int):=jZ;have bG:af<(ak.length:Int):=jZ;obtain⟨b3,cP,dI⟩:=lI (ku ao.out).2.2 af bF bG;cases cP;replace bF:=eq_true bF;replace bG:=eq_true bG;obtain⟨dr,dt,eg⟩:=kJ aj.out;subst eg
           go_wp2_with (first|((with_reducible refine kT 47 rfl ?_);refine lM 94 rfl Try.func47 (nZ.calls (kz (ku aj.out).2.2) ((ku aj.out).2.1) eB.out) ?_;rintro e w' ⟨rfl,⟨nd,rfl⟩⟩;refine⟨_,rfl,?_⟩;have cQ:0<=(af:Int):=jZ;have cS:af<(ak.length:Int):=jZ;obtain⟨eh,eZ,gh⟩:=lI (ku ao.out).2.2 af cQ cS;obtain rfl:b3=eh:=(by injection eZ);replace cQ:=eq_true cQ;replace cS:=eq_true cS)|((with_reducible refine oJ (b:=.append) (xs:= #[.tmp 96,.tmp 101]) rfl ?_);(try(refine nT (by rfl) ?_;dsimp only));at_builtin;refine pE (Kd.int .i64) (w0:=w) w.heap.size rfl (.tmp 96) (.tmp 101) 45 3 (.int .i64 0) 8 rfl Try.underlying45 info3 rfl (ky) (by omega) (.slice dr ap.length dt) ap (rd ak af) [.int .i64 (rd ak af)] (fun k_=>some k_≠(.slice (some b3) ak.length dT:Value).ownBlock) (fun _=>False) rfl rfl ?aP (fun _ hk=>hk.elim) ?aF ?aO ?aB ?aS ?aL ?_;(case aP=>exact rfl);(case aB=>exact(jU HB.out));(case aF=>exact(fun k_ hk=>Kd.fresh' (kW (jX ao.out)) k_ hk));(case aO=>exact(jX aj.out));(case aS=>exact(kK (jU HB.out)));(case aL=>have:=ee.out;omega);intro im io ho hb hg hat;rw[←ef.out]at ho;have n0:=dm (zu (ok:=(fun k_=>some k_≠(.slice (some b3) ak.length dT:Value).ownBlock)) (tK) hg hat);have n1:=dm (oG (ok:=(fun _=>True)) (CU) hg hat);have n2:=dm (oN (jX am.out) (oW (jX aj.out)) (ky) hg);have n3:=dm (oN (jX aa.out) (oW (jX aj.out)) (ky) hg);have n4:=lY ab hg (lU aj.out ab.out (ky));have n5:=lY ae hg (lU aj.out ae.out (ky));have n6:=dm (hb);have n7:=dm (ho);clear al ao am aa ab ae HB aj;revert n0 n1 n2 n3 n4 n5 n6 n7;intro al ao am aa ab ae HB ei;clear ho hb hg hat))
           go_roundg k4
           case measure=>have:=bm.out;have:=bn.out;have:=bU.out;have:=b8.out;omega
           case rel=>exact⟨(dS),(az),(wrap64 (af+1)),(kD),H',⟨wR⟩,⟨tK⟩,⟨jX ei.out⟩,⟨CV⟩,⟨jX am.out⟩,⟨jX aa.out⟩,⟨jY ab.out⟩,⟨jY ae.out⟩,⟨jU HB.out⟩⟩
          obtain⟨⟨a4,aV⟩,e2,H⟩:=kS H;(try dsimp only at H)
          obtain⟨ct,H⟩:=ni H;have dU:=dm ct;clear ct;obtain⟨dV,bQ⟩:∃y_:List (List Int),y_=(aq++[ak]):=⟨_,rfl⟩;replace H:(kY.l0 k4 dV ap ag ai a4 aV)=some (r1,r2):=lZ bQ H
          have ej:=dm bQ;clear bQ;have H':=dm H;clear H;obtain⟨bR,bS,ek⟩:=kJ ao.out;subst ek;have gB:=aG.out;have gC:=aC.out;have⟨e3,e4,e5,e6⟩:=ko (w:=wr) ae;obtain⟨b4,b5,el⟩:=kJ am.out;subst el
          go_wp2_with (first|((with_reducible refine kT 62 rfl ?_);refine lM 105 rfl Try.func62 (nL.calls (kz (ku aa.out).2.2) ((ku aa.out).2.1) (kz (ku am.out).2.2) ((ku am.out).2.1) e2.out) ?_;rintro e dW ⟨iq,rfl,a3,hb⟩;refine⟨_,rfl,?_⟩;replace al:=dm (oz (mJ) hb);replace aj:=kE aj hb;replace ao:=kE ao hb;have a_:=dm (kR (lF (lF a3 (kW (jX am.out))) (kW (jX aa.out))) (kK (jU HB.out)));replace am:=lT am a3 hb;replace aa:=lT aa a3 hb;replace ab:=jT ab hb;replace ae:=jT ae hb;replace HB:=kg HB hb;(try clear hb a3);have⟨e7,e8,e9,fa⟩:=ko (w:=dW) ae;obtain⟨aY,aZ,em⟩:=kJ a_.out;subst em)|((with_reducible refine vL (t:=31) (p:=5) rfl ?_);refine wz (t:=31) (p:=5) (v:= ?vo_w111) (w1:=((dW.setCell ⟨au,0,none⟩ (.int .i64 a4)).setCell ⟨au,1,none⟩ (.slice aY aV.length aZ))) ?hg ?ho ?hn ?hr ?_;(case ho=>rfl);(case hg=>rfl);(case hn=>rfl);(case hr=>first|(go_simp;done)|(go_simp;rfl));intro bl hw;have n0:jP (Kd.S (Kd.slice 3 (Kd.int .i64)) 45 bl w.heap.size (fun k_=>some k_≠(u6:Value).ownBlock/\some k_≠(.slice bR ak.length bS:Value).ownBlock) u4 aq):=⟨(by rw[hw];exact(by(with_reducible repeat(first|apply oQ|apply oU|apply oC));exact qY (uj (p:=⟨au,1,none⟩) (uj (p:=⟨au,0,none⟩) (xN al.out ae.out (ky)) (fun _ hk=>hk.2) (.int .i64 a4)) (fun _ hk=>hk.2) (.slice aY aV.length aZ)) (fun _ hk=>⟨hk.1.1,hk.1.2⟩)))⟩;have n1:jP (Kd.R (Kd.int .i64) 3 bl w.heap.size (fun k_=>some k_≠(.slice bR ak.length bS:Value).ownBlock) u6 ap):=⟨(by rw[hw];exact(by(with_reducible repeat(first|apply kH|apply kI|apply kw));exact kv (kG (p:=⟨au,1,none⟩) (kG (p:=⟨au,0,none⟩) (lH aj.out ae.out (ky)) (fun _ hk=>hk.2) (.int .i64 a4)) (fun _ hk=>hk.2) (.slice aY aV.length aZ)) (fun _ hk=>hk.1)))⟩;have n2:jP (Kd.R (Kd.int .i64) 3 bl w.heap.size (fun k_=>some k_≠(u6:Value).ownBlock) (.slice bR ak.length bS) ak):=⟨(by rw[hw];exact(by(with_reducible repeat(first|apply kH|apply kI|apply kw));exact kv (kG (p:=⟨au,1,none⟩) (kG (p:=⟨au,0,none⟩) (lH ao.out ae.out (ky)) (fun _ hk=>hk.2) (.int .i64 a4)) (fun _ hk=>hk.2) (.slice aY aV.length aZ)) (fun _ hk=>hk.1)))⟩;have n3:jP (Kd.R k59 59 bl w.heap.size (fun k_=>some k_≠(.slice aT ac.length aU:Value).ownBlock/\some k_≠(.slice aY aV.length aZ:Value).ownBlock) (.slice b4 az.length b5) az):=⟨(by rw[hw];exact(by(with_reducible repeat(first|apply kH|apply kI|apply kw));exact kv (kG (p:=⟨au,1,none⟩) (kG (p:=⟨au,0,none⟩) (lH am.out ae.out (ky)) (fun _ hk=>hk.2) (.int .i64 a4)) (fun _ hk=>hk.2) (.slice aY aV.length aZ)) (fun _ hk=>⟨hk.1.1,hk.1.2⟩)))⟩;have n4:jP (Kd.R k59 59 bl w.heap.size (fun k_=>some k_≠(.slice b4 az.length b5:Value).ownBlock/\some k_≠(.slice aY aV.length aZ:Value).ownBlock) (.slice aT ac.length aU) ac):=⟨(by rw[hw];exact(by(with_reducible repeat(first|apply kH|apply kI|apply kw));exact kv (kG (p:=⟨au,1,none⟩) (kG (p:=⟨au,0,none⟩) (lH aa.out ae.out (ky)) (fun _ hk=>hk.2) (.int .i64 a4)) (fun _ hk=>hk.2) (.slice aY aV.length aZ)) (fun _ hk=>⟨hk.1.1,hk.1.2⟩)))⟩;have n5:jP (Kd.R k59 59 bl w.heap.size (fun k_=>some k_≠(.slice b4 az.length b5:Value).ownBlock/\some k_≠(.slice aT ac.length aU:Value).ownBlock) (.slice aY aV.length aZ) aV):=⟨(by rw[hw];exact(by(with_reducible repeat(first|apply kH|apply kI|apply kw));exact kv (kG (p:=⟨au,1,none⟩) (kG (p:=⟨au,0,none⟩) (lH a_.out ae.out (ky)) (fun _ hk=>hk.2) (.int .i64 a4)) (fun _ hk=>hk.2) (.slice aY aV.length aZ)) (fun _ hk=>⟨hk.1.1.2,hk.1.2⟩)))⟩;have n6:jP (bl.heap[aW]? =some (.cells #[.int .i64 ag,.slice aQ ai.length aR] 31 (0,0))):=⟨(by rw[hw];exact(CQ))⟩;have n7:jP (bl.heap[au]? =some (.cells #[.int .i64 a4,.slice aY aV.length aZ] 31 (0,0))):=⟨(by rw[hw];exact(lG ae.out))⟩;have n8:jP (Below w.heap.size w bl):=⟨(by rw[hw];exact(jU HB.out))⟩;clear hw al aj ao am aa a_ ab ae HB;revert n0 n1 n2 n3 n4 n5 n6 n7 n8;intro al aj ao am aa a_ ab ae HB)|((with_reducible refine oJ (b:=.append) (xs:= #[.tmp 106,.tmp 108]) rfl ?_);(try(refine nT (by rfl) ?_;dsimp only));at_builtin;refine Bz (Kd.slice 3 (Kd.int .i64)) (w0:=w) w.heap.size rfl (.tmp 106) (.tmp 108) 25 45 (.slice none 0 0) 24 rfl Try.underlying25 DJ rfl (ky) (by omega) u4 aq ak [.slice bR ak.length bS] (fun k_=>some k_≠(u6:Value).ownBlock) (fun k_=>some k_=(.slice bR ak.length bS:Value).ownBlock) rfl rfl ?aP (fun k_ hk_=>((kv (ok':=fun k_=>((fun k_=>some k_≠(u6:Value).ownBlock)) k_/\some k_≠(u4:Value).ownBlock) (xC (ao.out) (sJ al.out) (ky)) (fun k_ hk=>⟨hk.1,hk.2⟩))).1 k_ hk_.symm) ?aF ?aO ?aB ?aS ?aL ?_;(case aP=>exact Bg (kv (zt rfl (kv (ok':=fun k_=>((fun k_=>some k_≠(u6:Value).ownBlock)) k_/\some k_≠(u4:Value).ownBlock) (xC (ao.out) (sJ al.out) (ky)) (fun k_ hk=>⟨hk.1,hk.2⟩))) (fun _ h_=>h_)));(case aB=>exact(jU HB.out));(case aF=>exact(fun k_ hk=>Kd.fresh' (kW (jX aj.out)) k_ hk));(case aO=>exact(by(with_reducible repeat(first|apply oQ|apply oU|apply oC));exact qY al.out (fun k_ hk=>⟨hk.1,fun e_=>hk.2 e_⟩)));(case aS=>exact(kK (jU HB.out)));(case aL=>have:=dU.out;omega);intro ir iu ho hb hg hat;rw[←ej.out]at ho;have n0:=dm (oN (jX aj.out) (sJ (mJ)) (ky) hg);have n1:=dm (oN (jX am.out) (sJ (mJ)) (ky) hg);have n2:=dm (oN (jX aa.out) (sJ (mJ)) (ky) hg);have n3:=lY ab hg (xJ al.out ab.out (ky));have n4:=lY ae hg (xJ al.out ae.out (ky));have n5:=dm (oN (jX a_.out) (sJ (mJ)) (ky) hg);have n6:=dm (hb);have n7:=dm (ho);clear aj am aa ab ae a_ HB al ao;revert n0 n1 n2 n3 n4 n5 n6 n7;intro aj am aa ab ae a_ HB en;clear ho hb hg hat))
          go_roundg k4
          case measure=>have:=bm.out;have:=bn.out;have:=bU.out;have:=b8.out;omega
          case rel=>exact⟨(dV),(ap),(a4),(aV),(.slice aY aV.length aZ),H',⟨wR⟩,⟨by(with_reducible repeat(first|apply oQ|apply oU|apply oC));exact en.out⟩,⟨by(with_reducible repeat(first|apply kH|apply kI|apply kw));exact kv aj.out (fun _ hk=>trivial)⟩,⟨by(with_reducible repeat(first|apply kH|apply kI|apply kw));exact kv a_.out (fun _ hk=>trivial)⟩,⟨jY ab.out⟩,⟨jY ae.out⟩,⟨jU HB.out⟩⟩
       obtain⟨fb,bT⟩:∃y_:List (List Int),y_=(([]:List (List Int))):=⟨_,rfl⟩;replace H:(some (fb,false))=some (r1,r2):=lZ bT H
       have du:=dm bT;clear bT;simp only [Option.some.injEq,Prod.mk.injEq]at H;obtain⟨rfl,rfl⟩:=H;have gD:=aG.out;have gE:=aC.out;have⟨fc,fd,fe,ff⟩:=ko (w:=wc) ae;obtain⟨eo,ep,eq⟩:=kJ aj.out;subst eq
       go_wp2_with (first|((with_reducible refine kT 61 rfl ?_);refine lM 61 rfl Try.func61 (mo.calls (kz (ku aa.out).2.2) ((ku aa.out).2.1) (kz (ku aj.out).2.2) ((ku aj.out).2.1) ex.out) ?_;rintro e iv ⟨cp,rfl,a3,hb⟩;refine⟨_,rfl,?_⟩;replace al:=dm (rH (mJ) (p_ a3) hb);replace aa:=kE aa hb;have a6:=dm (kR (lF a3 (kW (jX aj.out))) (kK (jU HB.out)));replace aj:=lT aj a3 hb;replace ab:=jT ab hb;replace ae:=jT ae hb;replace HB:=kg HB hb;(try clear hb a3))|((with_reducible refine kF 66 rfl ?_);(try(refine nT (by rfl) ?_;dsimp only));refine xI (Kd.slice 3 (Kd.int .i64)) _ 45 ?hg (N:=66) ?hd (xs:=([]:List (List Int))) (inner:=[]) (ok:=fun _=>True) (okp:=fun _=>True) ?hr ?hp (fun _ hk=>hk) trivial (Below.refl _ _) (Nat.le_refl _) (by simp) ?_;(case hd=>rfl);(case hg=>rfl);(case hr=>first|(go_simp;done)|(go_simp;rfl));(case hp=>exact(kN.none _ _));intro iw ix bv hb hg_ lq;clear hg_ lq;(first|rw[←du.out]at bv|(simp only [Int.reduceToNat]at bv;rw[←du.out]at bv));replace aa:=kE aa hb;have es:=dm (vz (xK (xK (xK bv (BC (mJ))) (kW (jX aj.out))) (kW (jX a6.out))) (kK (jU HB.out)));replace al:=dm (rH (mJ) (BA bv) hb);replace aj:=kE aj hb;replace a6:=kE a6 hb;replace ab:=jT ab hb;replace ae:=jT ae hb;replace HB:=kg HB hb;clear hb bv))
       go_ret2
       exact⟨_,mH,by(with_reducible repeat(first|apply oQ|apply oU|apply oC));exact qY es.out (fun _ hk=>trivial),jU HB.out⟩
theorem x_(h:p:=by rw[hg];exact Nat.ne_of_lt (lL (g:=aq) (o:=.cells #[.int .i64 ae,.slice (some a9) aa.length aT] 31 (0,0)) (jY af.out))):p:=h
theorem yc(h:p:=by rw[hg];exact Nat.ne_of_gt (lL (g:=aq) (o:=.cells #[.int .i64 ae,.slice (some a9) aa.length aT] 31 (0,0)) (jY af.out))):p:=h
def qA.l0:Nat->Int->List Int->Int->Int->Option (Int)
 |0,_,_,_,_=>none
 |k+1,x3,x6,x7,x8=>if x8<x7 then(if 0<=x8 then(if x8<(x6.length:Int) then(if(rd x6 x8)=x3 then(qA.l0 k x3 x6 x7 (wrap64 (x8+1))) else(some (rd x6 x8))) else(none)) else(none)) else(some x3)
def qA.f (k:Nat) (l0:List Int):Option (Int):=qA.l0 k 0 l0 (l0.length:Int) 0
theorem qA.calls {k:Nat}{A0:Option Addr}{c0:Nat}{l0:List Int}{r:Int}{w:World}(bA:Kd.C (Kd.int .i64) w A0 l0.length l0)(bB:l0.length<=c0)(h:qA.f k l0=some r):
  Calls Try.prog 109 #[.slice A0 l0.length c0] w fun e w'=>e=.returned (.int .i64 r)/\lh w w':=by
 have bj:=dm bA;have cZ:=dm bB;clear bA bB;unfold qA.f at h;have H:=h;clear h;have H':=dm H;clear H
 go_enter Try.func109,Try.ntmps109
 go_wp2
 go_loopg [8] k (fun kq v8 w'=>∃ (aj:Int),v8=.int .i64 aj/\jP (qA.l0 kq 0 l0 (l0.length:Int) aj=some r)/\jP (kq<=k)/\lh w w')
 case atStart=>exact⟨(0),(kD),H',⟨Nat.le_refl _⟩,by repeat(first|exact lh.refl _|apply lh.step)⟩
 case round=>
  clear H';try clear c1
  obtain⟨aj,rfl,HA,bC,⟨m1,rfl⟩⟩:=hrel;cases gk with
  |zero=>exact absurd HA.out (by simp[qA.l0])
  |succ k1=>
   have H:=HA.out;clear HA;simp only [qA.l0]at H
   replace H:=mh H;rcases H with⟨bE,H⟩|⟨bE,H⟩
   ·skip
    obtain⟨dM,H⟩:=lv H
    obtain⟨aW,H⟩:=lv H
    by_cases c5:(rd l0 aj)=0
    ·rw[if_pos c5]at H;have bS:=beq_iff_eq.mpr c5;have co:=bne_eq_false_iff_eq.mpr c5;clear c5;have H':=dm H;clear H;have aX:0<=(aj:Int):=jZ;have aY:aj<(l0.length:Int):=jZ;obtain⟨b9,bF,bR⟩:=lI bj.out aj aX aY;cases bF;replace aX:=eq_true aX;replace aY:=eq_true aY
     go_wp2
     go_roundg k1
     case measure=>have:=bC.out;omega
     case rel=>exact⟨(wrap64 (aj+1)),(kD),H',⟨by have:=bC.out;omega⟩,by repeat(first|exact lh.refl _|apply lh.step)⟩
    rw[if_neg c5]at H;have bS:=beq_eq_false_iff_ne.mpr c5;have co:=bne_iff_ne.mpr c5;obtain rfl:=Option.some.inj H;have aX:0<=(aj:Int):=jZ;have aY:aj<(l0.length:Int):=jZ;obtain⟨b9,bF,bR⟩:=lI bj.out aj aX aY;cases bF;replace aX:=eq_true aX;replace aY:=eq_true aY
    go_wp2
    go_ret
    exact⟨kD,by repeat(first|exact lh.refl _|apply lh.step)⟩
   obtain rfl:=Option.some.inj H
   go_wp2
   go_ret
   exact⟨kD,by repeat(first|exact lh.refl _|apply lh.step)⟩
def cmp_isNaN_int.f (a0:Int):Option (Bool):=some (a0 !=a0)
theorem cmp_isNaN_int.calls {a0:Int}{r:Bool}{w:World}(h:cmp_isNaN_int.f a0=some r):
  Calls Try.prog 129 #[.int .i64 a0] w fun e w'=>e=.returned (.bool r)/\lh w w':=by
 unfold cmp_isNaN_int.f at h;have H:=h;clear h;obtain rfl:=Option.some.inj H
 go_enter Try.func129,Try.ntmps129
 go_wp2
 go_ret
 exact⟨kD,by repeat(first|exact lh.refl _|apply lh.step)⟩
def cmp_Compare_int.f (a0:Int) (a1:Int):Option (Int):=(cmp_isNaN_int.f a0).bind fun aZ=>((cmp_isNaN_int.f a1).bind fun az=>(if aZ=true then(if az=true then(some 0) else(some (-1))) else(if az=true then(some 1) else(if a0<a1 then(some (-1)) else(if a0>a1 then(some 1) else(some 0))))))
theorem cmp_Compare_int.calls {a0:Int}{a1:Int}{r:Int}{w:World}(h:cmp_Compare_int.f a0 a1=some r):
  Calls Try.prog 110 #[.int .i64 a0,.int .i64 a1] w fun e w'=>e=.returned (.int .i64 r)/\lh w w':=by
 unfold cmp_Compare_int.f at h;have H:=h;clear h;obtain⟨aZ,A3,H⟩:=kS H;(try dsimp only at H);obtain⟨az,A4,H⟩:=kS H;(try dsimp only at H)
 rcases mr H with⟨h_,H_⟩|⟨h_,H_⟩<;> (subst h_;clear H;have H:=H_;clear H_)
 ·skip
  rcases mr H with⟨h_,H_⟩|⟨h_,H_⟩<;> (subst h_;clear H;have H:=H_;clear H_)
  ·obtain rfl:=Option.some.inj H
   go_enter Try.func110,Try.ntmps110
   go_wp2_with (first|((with_reducible refine kT 129 rfl ?_);refine lM 8 rfl Try.func129 (cmp_isNaN_int.calls A3.out) ?_;rintro e w' ⟨rfl,⟨nd,rfl⟩⟩;refine⟨_,rfl,?_⟩)|((with_reducible refine kT 129 rfl ?_);refine lM 10 rfl Try.func129 (cmp_isNaN_int.calls A4.out) ?_;rintro e w' ⟨rfl,⟨nd,rfl⟩⟩;refine⟨_,rfl,?_⟩))
   go_ret
   exact⟨kD,by repeat(first|exact lh.refl _|apply lh.step)⟩
  obtain rfl:=Option.some.inj H
  go_enter Try.func110,Try.ntmps110
  go_wp2_with (first|((with_reducible refine kT 129 rfl ?_);refine lM 8 rfl Try.func129 (cmp_isNaN_int.calls A3.out) ?_;rintro e w' ⟨rfl,⟨nd,rfl⟩⟩;refine⟨_,rfl,?_⟩)|((with_reducible refine kT 129 rfl ?_);refine lM 10 rfl Try.func129 (cmp_isNaN_int.calls A4.out) ?_;rintro e w' ⟨rfl,⟨nd,rfl⟩⟩;refine⟨_,rfl,?_⟩))
  go_ret
  exact⟨kD,by repeat(first|exact lh.refl _|apply lh.step)⟩
 skip
 rcases mr H with⟨h_,H_⟩|⟨h_,H_⟩<;> (subst h_;clear H;have H:=H_;clear H_)
 ·obtain rfl:=Option.some.inj H
  go_enter Try.func110,Try.ntmps110
  go_wp2_with (first|((with_reducible refine kT 129 rfl ?_);refine lM 8 rfl Try.func129 (cmp_isNaN_int.calls A3.out) ?_;rintro e w' ⟨rfl,⟨nd,rfl⟩⟩;refine⟨_,rfl,?_⟩)|((with_reducible refine kT 129 rfl ?_);refine lM 10 rfl Try.func129 (cmp_isNaN_int.calls A4.out) ?_;rintro e w' ⟨rfl,⟨nd,rfl⟩⟩;refine⟨_,rfl,?_⟩))
  go_ret
  exact⟨kD,by repeat(first|exact lh.refl _|apply lh.step)⟩
 skip
 replace H:=mh H;rcases H with⟨bG,H⟩|⟨bG,H⟩
 ·obtain rfl:=Option.some.inj H
  go_enter Try.func110,Try.ntmps110
  go_wp2_with (first|((with_reducible refine kT 129 rfl ?_);refine lM 8 rfl Try.func129 (cmp_isNaN_int.calls A3.out) ?_;rintro e w' ⟨rfl,⟨nd,rfl⟩⟩;refine⟨_,rfl,?_⟩)|((with_reducible refine kT 129 rfl ?_);refine lM 10 rfl Try.func129 (cmp_isNaN_int.calls A4.out) ?_;rintro e w' ⟨rfl,⟨nd,rfl⟩⟩;refine⟨_,rfl,?_⟩))
  go_ret
  exact⟨kD,by repeat(first|exact lh.refl _|apply lh.step)⟩
 skip
 replace H:=mh H;rcases H with⟨bH,H⟩|⟨bH,H⟩
 ·obtain rfl:=Option.some.inj H
  go_enter Try.func110,Try.ntmps110
  go_wp2_with (first|((with_reducible refine kT 129 rfl ?_);refine lM 8 rfl Try.func129 (cmp_isNaN_int.calls A3.out) ?_;rintro e w' ⟨rfl,⟨nd,rfl⟩⟩;refine⟨_,rfl,?_⟩)|((with_reducible refine kT 129 rfl ?_);refine lM 10 rfl Try.func129 (cmp_isNaN_int.calls A4.out) ?_;rintro e w' ⟨rfl,⟨nd,rfl⟩⟩;refine⟨_,rfl,?_⟩))
  go_ret
  exact⟨kD,by repeat(first|exact lh.refl _|apply lh.step)⟩
 obtain rfl:=Option.some.inj H
 go_enter Try.func110,Try.ntmps110
 go_wp2_with (first|((with_reducible refine kT 129 rfl ?_);refine lM 8 rfl Try.func129 (cmp_isNaN_int.calls A3.out) ?_;rintro e w' ⟨rfl,⟨nd,rfl⟩⟩;refine⟨_,rfl,?_⟩)|((with_reducible refine kT 129 rfl ?_);refine lM 10 rfl Try.func129 (cmp_isNaN_int.calls A4.out) ?_;rintro e w' ⟨rfl,⟨nd,rfl⟩⟩;refine⟨_,rfl,?_⟩))
 go_ret
 exact⟨kD,by repeat(first|exact lh.refl _|apply lh.step)⟩
def qm.f (k:Nat) (ae:Int) (aE:Int) (aR:Int) (aL:Int):Option (Int):=(cmp_Compare_int.f ae aR).bind fun aF=>((cmp_Compare_int.f aE aL).bind fun aC=>((qA.f k (([aF,aC]:List Int))).bind fun aG=>(some aG)))
def qm.T1:Bool×List (List Nat×List Nat):=(true,[([],[]),([0],[0]),([],[]),([2],[2]),([1,3],[1,3]),([],[]),([5],[5]),([],[]),([7],[7]),([6,8,4],[6,8]),([4,9],[4,9]),([10,9],[10]),([11,11,0,1,2,3,4,5,6,7,8,9,10,11],[11])])
def qm.B1:List Nat:=[0,1,0,4,15,0,32,0,128,511,1023,2047,4095]
theorem qm.AJ:mI .any (opsOf Try.f80 1)=qm.T1:=by kernel_rfl
theorem qm.zD:nP qm.T1.2 qm.B1=true:=by kernel_rfl
theorem qm.calls {k:Nat}{ae:Int}{aE:Int}{aR:Int}{aL:Int}{r:Int}{w:World}(h:qm.f k ae aE aR aL=some r):
  Calls Try.prog 80 #[.agg #[.int .i64 ae,.int .i64 aE],.agg #[.int .i64 aR,.int .i64 aL]] w fun e w'=>e=.returned (.int .i64 r)/\Below w.heap.size w w':=by
 have bI:=Try.underlying59;have HB:=dm (Below.refl w.heap.size w);unfold qm.f at h;have H:=h;clear h;obtain⟨aF,A3,H⟩:=kS H;(try dsimp only at H);obtain⟨aC,A4,H⟩:=kS H;(try dsimp only at H);obtain⟨bJ,a_⟩:∃y_:List Int,y_=(([aF,aC]:List Int)):=⟨_,rfl⟩;replace H:((qA.f k bJ).bind fun aG=>(some aG))=some r:=lZ a_ H
 have bM:=dm a_;clear a_;obtain⟨aG,A5,H⟩:=kS H;(try dsimp only at H);obtain rfl:=Option.some.inj H
 go_enter Try.func80,Try.ntmps80;try go_wp2_with (first|((with_reducible refine kF 2 rfl ?_);refine kZ #[.int .i64 ae,.int .i64 aE] 59 ?_;intro aI hg w6 jV hb;have ah:=dm (jV);have dq:=dm (kC:w.heap.size<=aI);have dr:=dm (kC:w.heap.size<=aI);replace HB:=kg HB hb;clear hb jV hg)|((with_reducible refine kF 3 rfl ?_);refine kZ #[.int .i64 aR,.int .i64 aL] 59 ?_;intro aU hg w7 jV hb;have ak:=dm (jV);have dt:=dm (kC:w.heap.size<=aU);have du:=dm (kC:w.heap.size<=aU);replace HB:=kg HB hb;have cf:=dm ((by rw[hg];exact Nat.ne_of_lt (lL (g:=aI) (o:=.cells #[.int .i64 ae,.int .i64 aE] 59 (0,0)) (jY ah.out)):aI≠aU));have cg:=dm ((by rw[hg];exact Nat.ne_of_gt (lL (g:=aI) (o:=.cells #[.int .i64 ae,.int .i64 aE] 59 (0,0)) (jY ah.out)):aU≠aI));replace ah:=jT ah hb;clear hb jV hg))
 replace ah:=dm (kP ah.out);replace ak:=dm (kP ak.out);replace HB:=dm (l8 HB.out);refine nu 13 (S:=fun w'=>w'.cell? ⟨aI,0,none⟩=some (.int .i64 ae)/\w'.cell? ⟨aI,1,none⟩=some (.int .i64 aE)/\w'.cell? ⟨aU,0,none⟩=some (.int .i64 aR)/\w'.cell? ⟨aU,1,none⟩=some (.int .i64 aL)) [] ⟨jR ah 0,jR ah 1,jR ak 0,jR ak 1⟩ qm.AJ qm.zD (fun hHeld HT_ HW_=>?_);generalize w7.drew=w8 at ah ak HB hHeld⊢;refine jS 0 5 1 ?_;refine jS 2 7 5 ?_;refine jS 5 10 37 ?_;refine jS 7 12 165 ?_;refine kL 1 6 167 ?_;refine kL 3 8 175 ?_;refine kL 6 11 239 ?_;refine kL 8 13 495 ?_;refine lu 4 9 511 (fun K hK=>?_);refine mg Try.func110 (cmp_Compare_int.calls A3.out) ?_;rintro e w' ⟨rfl,⟨nd,rfl⟩⟩;refine⟨_,rfl,?_⟩;refine hK.out _ _ ⟨jR ah 0,jR ah 1,jR ak 0,jR ak 1⟩ (fun hHeld=>?_);clear hK K;refine kM 9 ?_;refine lu 9 14 1023 (fun K hK=>?_);refine mg Try.func110 (cmp_Compare_int.calls A4.out) ?_;rintro e w' ⟨rfl,⟨nd,rfl⟩⟩;refine⟨_,rfl,?_⟩;refine hK.out _ _ ⟨jR ah 0,jR ah 1,jR ak 0,jR ak 1⟩ (fun hHeld=>?_);clear hK K;refine kM 14 ?_;refine lu 10 15 2047 (fun K hK=>?_);refine rC (Kd.int .i64) _ 3 ?hg (N:=15) ?hd (xs:=([aF,aC]:List Int)) (inner:=[.int .i64 aF,.int .i64 aC]) (ok:=fun _=>True) (okp:=fun _=>True) ?hr ?hp (fun _ hk=>hk) trivial (Below.refl _ _) (Nat.le_refl _) (by simp) ?_;(case hd=>rfl);(case hg=>rfl);(case hr=>first|(go_simp;done)|(go_simp;rfl));(case hp=>exact(kN.one (show Kd.M (Kd.int .i64) _ _ _ aF [.int .i64 aF] from rfl) (kN.one (show Kd.M (Kd.int .i64) _ _ _ aC [.int .i64 aC] from rfl) (kN.none _ _))));intro dN w9 bk hb hg_ lq;clear hg_ lq;(first|rw[←bM.out]at bk|(simp only [Int.reduceToNat]at bk;rw[←bM.out]at bk));have bp:=dm (kR bk (kK (jU HB.out)));replace ah:=jT ah hb;replace ak:=jT ak hb;replace HB:=kg HB hb;clear hb bk;obtain⟨cp,cq,bU⟩:=kJ bp.out;(first|subst bU|(injection bU with ch c_ ci;have db:=ch.symm;have dc:=ci.symm;clear ch c_ ci;subst db;subst dc));refine hK.out _ _ ⟨jR ah 0,jR ah 1,jR ak 0,jR ak 1⟩ (fun hHeld=>?_);clear hK K;refine kM 15 ?_;refine lu 11 16 4095 (fun K hK=>?_);refine mg Try.func109 (qA.calls (kz (ku bp.out).2.2) ((ku bp.out).2.1) A5.out) ?_;rintro e w' ⟨rfl,⟨nd,rfl⟩⟩;refine⟨_,rfl,?_⟩;refine hK.out _ _ ⟨jR ah 0,jR ah 1,jR ak 0,jR ak 1⟩ (fun hHeld=>?_);clear hK K;refine kM 16 ?_;refine jS 12 4 8191 ?_;refine mG (mU HT_.out (kX)) ?_;try go_wp2
 go_ret
 exact⟨nQ,jU HB.out⟩
def oH.l0:Nat->List (S59)->Int->Option (Bool)
 |0,_,_=>none
 |k+1,x0,x3=>if x3<(x0.length:Int) then(if 0<=(wrap64 (x3 - 1)) then(if(wrap64 (x3 - 1))<(x0.length:Int) then(if 0<=x3 then((qm.f k ((jQ x0 (wrap64 (x3 - 1))).f0) ((jQ x0 (wrap64 (x3 - 1))).f1) ((jQ x0 x3).f0) ((jQ x0 x3).f1)).bind fun aM=>(if aM>=0 then(some false) else(oH.l0 k x0 (wrap64 (x3+1))))) else(none)) else(none)) else(none)) else(some true)
def oH.f (k:Nat) (l0:List (S59)):Option (Bool):=oH.l0 k l0 1
def oH.T4:Bool×List (List Nat×List Nat):=(true,[([],[]),([],[]),([1],[1]),([0,2],[0,2]),([3],[3]),([],[]),([],[]),([5,6],[5,6]),([7],[7]),([4,8],[4,8]),([9],[9])])
def oH.B4:List Nat:=[0,0,2,7,15,0,0,96,224,511,1023]
theorem oH.xq:mI .any (opsOf Try.f88 4)=oH.T4:=by kernel_rfl
theorem oH.wF:nP oH.T4.2 oH.B4=true:=by kernel_rfl
theorem oH.calls {k:Nat}{A0:Option Addr}{c0:Nat}{l0:List (S59)}{r:Bool}{w:World}(bA:Kd.C k59 w A0 l0.length l0)(bB:l0.length<=c0)(h:oH.f k l0=some r):
  Calls Try.prog 88 #[.slice A0 l0.length c0] w fun e w'=>e=.returned (.bool r)/\Below w.heap.size w w':=by
 have bI:=Try.underlying59;have bj:=dm bA;have cZ:=dm bB;clear bA bB;have HB:=dm (Below.refl w.heap.size w);unfold oH.f at h;have H:=h;clear h;have H':=dm H;clear H
 go_enter Try.func88,Try.ntmps88
 go_wp2
 go_loopg [3] k (fun kq v3 w'=>∃ (ac:Int),v3=.int .i64 ac/\jP (oH.l0 kq l0 ac=some r)/\jP (kq<=k)/\jP (Below w.heap.size w w'))
 case atStart=>exact⟨(1),(kD),H',⟨Nat.le_refl _⟩,⟨jU HB.out⟩⟩
 case round=>
  clear H';obtain⟨ac,rfl,HA,bC,HB⟩:=hrel;cases gk with
  |zero=>exact absurd HA.out (by simp[oH.l0])
  |succ k1=>
   have H:=HA.out;clear HA;simp only [oH.l0]at H
   replace H:=mh H;rcases H with⟨bE,H⟩|⟨bE,H⟩
   ·obtain⟨ag,aK⟩:∃j_:Int,(wrap64 (ac - 1))=j_:=⟨_,rfl⟩;replace H:(if 0<=(ag) then(if(ag)<(l0.length:Int) then(if 0<=ac then((qm.f k1 ((jQ l0 (ag)).f0) ((jQ l0 (ag)).f1) ((jQ l0 ac).f0) ((jQ l0 ac).f1)).bind fun aM=>(if aM>=0 then(some false) else(oH.l0 k1 l0 (wrap64 (ac+1))))) else(none)) else(none)) else(none))=some r:=by first|(rw[aK]at H;exact H)|(simp only [aK]at H⊢;exact H)
    have dv:(IntKind.i64.wrap (ac - 1))=ag:=(mK _).trans aK
    obtain⟨aW,H⟩:=lv H
    obtain⟨bS,H⟩:=lv H
    obtain⟨dO,H⟩:=lv H;obtain⟨aM,A7,H⟩:=kS H;(try dsimp only at H)
    replace H:=mh H;rcases H with⟨bG,H⟩|⟨bG,H⟩
    ·obtain rfl:=Option.some.inj H;try go_wp2
     replace HB:=dm (l8 HB.out);have a4:0<=((ag):Int):=jZ;have a5:(ag)<(l0.length:Int):=jZ;obtain⟨ap,bK,av,aw⟩:=mR bj.out (ag) a4 a5;have aN:=aw;have aO:=av;cases bK;replace av:=kr HB av;replace aw:=kr HB aw;replace a4:=eq_true a4;replace a5:=eq_true a5;have a6:0<=(ac:Int):=jZ;have a7:ac<(l0.length:Int):=jZ;obtain⟨bq,bL,ax,ay⟩:=mR bj.out ac a6 a7;have aP:=ay;have aQ:=ax;obtain rfl:ap=bq:=(by injection bL);replace ax:=kr HB ax;replace ay:=kr HB ay;replace a6:=eq_true a6;replace a7:=eq_true a7;refine nu 11 (S:=fun w'=>w'.cell? (ap.add (((ag)).toNat*2))=some (.int .i64 ((jQ l0 (ag)).f0))/\w'.cell? ⟨(ap.add (((ag)).toNat*2)).block,(ap.add (((ag)).toNat*2)).off+1,none⟩=some (.int .i64 ((jQ l0 (ag)).f1))/\w'.cell? (ap.add ((ac).toNat*2))=some (.int .i64 ((jQ l0 ac).f0))/\w'.cell? ⟨(ap.add ((ac).toNat*2)).block,(ap.add ((ac).toNat*2)).off+1,none⟩=some (.int .i64 ((jQ l0 ac).f1))) [] ⟨(kr HB aO),(kr HB aN),(kr HB aQ),(kr HB aP)⟩ oH.xq oH.wF (fun hHeld HT_ HW_=>?_);generalize wr.drew=w9 at HB av aw ax ay hHeld⊢;refine jS 0 10 1 ?_;refine jS 1 11 3 ?_;refine jS 2 12 7 ?_;refine jS 3 13 15 ?_;refine jS 5 15 47 ?_;refine jS 6 16 111 ?_;refine jS 7 17 239 ?_;refine kL 4 14 255 ?_;refine kL 8 18 511 ?_;refine lu 9 19 1023 (fun K hK=>?_);refine qO Try.func80 (kX) rfl #[.agg #[.int .i64 ((jQ l0 (ag)).f0),.int .i64 ((jQ l0 (ag)).f1)],.agg #[.int .i64 ((jQ l0 ac).f0),.int .i64 ((jQ l0 ac).f1)]] (by rfl) rfl rfl (xY) ?_;refine(qm.calls A7.out).mono ?_;rintro e dQ ⟨rfl,hb⟩;refine⟨_,rfl,?_⟩;replace HB:=kg HB hb;(try clear hb);refine hK.out _ _ ⟨(kr HB aO),(kr HB aN),(kr HB aQ),(kr HB aP)⟩ (fun hHeld=>?_);clear hK K;refine kM 19 ?_;refine jS 10 20 2047 ?_;refine mG (mU HT_.out (kX)) ?_;try go_wp2
     go_ret
     exact⟨by first|rfl|(simp[qb,qc]<;>rfl)|(simp only [←aK];first|rfl|(simp[qb,qc]<;>rfl))|(simp[*,qb,qc]<;>rfl),jU HB.out⟩
    have H':=dm H;clear H;try go_wp2
    replace HB:=dm (l8 HB.out);have a4:0<=((ag):Int):=jZ;have a5:(ag)<(l0.length:Int):=jZ;obtain⟨ap,bK,av,aw⟩:=mR bj.out (ag) a4 a5;have aN:=aw;have aO:=av;cases bK;replace av:=kr HB av;replace aw:=kr HB aw;replace a4:=eq_true a4;replace a5:=eq_true a5;have a6:0<=(ac:Int):=jZ;have a7:ac<(l0.length:Int):=jZ;obtain⟨bq,bL,ax,ay⟩:=mR bj.out ac a6 a7;have aP:=ay;have aQ:=ax;obtain rfl:ap=bq:=(by injection bL);replace ax:=kr HB ax;replace ay:=kr HB ay;replace a6:=eq_true a6;replace a7:=eq_true a7;refine nu 11 (S:=fun w'=>w'.cell? (ap.add (((ag)).toNat*2))=some (.int .i64 ((jQ l0 (ag)).f0))/\w'.cell? ⟨(ap.add (((ag)).toNat*2)).block,(ap.add (((ag)).toNat*2)).off+1,none⟩=some (.int .i64 ((jQ l0 (ag)).f1))/\w'.cell? (ap.add ((ac).toNat*2))=some (.int .i64 ((jQ l0 ac).f0))/\w'.cell? ⟨(ap.add ((ac).toNat*2)).block,(ap.add ((ac).toNat*2)).off+1,none⟩=some (.int .i64 ((jQ l0 ac).f1))) [] ⟨(kr HB aO),(kr HB aN),(kr HB aQ),(kr HB aP)⟩ oH.xq oH.wF (fun hHeld HT_ HW_=>?_);generalize wr.drew=dR at HB av aw ax ay hHeld⊢;refine jS 0 10 1 ?_;refine jS 1 11 3 ?_;refine jS 2 12 7 ?_;refine jS 3 13 15 ?_;refine jS 5 15 47 ?_;refine jS 6 16 111 ?_;refine jS 7 17 239 ?_;refine kL 4 14 255 ?_;refine kL 8 18 511 ?_;refine lu 9 19 1023 (fun K hK=>?_);refine qO Try.func80 (kX) rfl #[.agg #[.int .i64 ((jQ l0 (ag)).f0),.int .i64 ((jQ l0 (ag)).f1)],.agg #[.int .i64 ((jQ l0 ac).f0),.int .i64 ((jQ l0 ac).f1)]] (by rfl) rfl rfl (xY) ?_;refine(qm.calls A7.out).mono ?_;rintro e dS ⟨rfl,hb⟩;refine⟨_,rfl,?_⟩;replace HB:=kg HB hb;(try clear hb);refine hK.out _ _ ⟨(kr HB aO),(kr HB aN),(kr HB aQ),(kr HB aP)⟩ (fun hHeld=>?_);clear hK K;refine kM 19 ?_;refine jS 10 20 2047 ?_;refine mG (mU HT_.out (kX)) ?_;try go_wp2
    go_roundg k1
    case measure=>have:=bC.out;omega
    case rel=>exact⟨(wrap64 (ac+1)),(kD),H',⟨by have:=bC.out;omega⟩,⟨jU HB.out⟩⟩
   obtain rfl:=Option.some.inj H
   go_wp2
   go_ret
   exact⟨nQ,jU HB.out⟩
mutual
def nU.j0:Nat->Bool->Int->List (S59)->Option (Bool)
 |0,_,_,_=>none
 |k+1,dd,aV,aH=>if dd=true then(some false) else(nU.l0 k aH (aH.length:Int) 0 aV aH)
def nU.l0:Nat->List (S59)->Int->Int->Int->List (S59)->Option (Bool)
 |0,_,_,_,_,_=>none
 |k+1,bl,cj,bf,aV,aH=>if bf<cj then(if 0<=bf then(if bf<(bl.length:Int) then(if((jQ bl bf).f0)<0 then(some false) else(if((jQ bl bf).f0)>=((jQ bl bf).f1) then(some false) else(if((jQ bl bf).f1)>=aV then(some false) else(nU.l0 k bl cj (wrap64 (bf+1)) aV aH)))) else(none)) else(none)) else((oH.f k aH).bind fun br=>(some br))
end
def nU.f (k:Nat) (ae:Int) (aa:List (S59)):Option (Bool):=if ae<0 then(nU.j0 k true ae aa) else(nU.j0 k (decide (ae>8)) ae aa)
theorem nU.calls {k:Nat}{ae:Int}{bd:Option Addr}{aT:Nat}{aa:List (S59)}{r:Bool}{w:World}(bN:Kd.C k59 w bd aa.length aa)(bO:aa.length<=aT)(h:nU.f k ae aa=some r):
  Calls Try.prog 50 #[.agg #[.int .i64 ae,.slice bd aa.length aT]] w fun e w'=>e=.returned (.bool r)/\Below w.heap.size w w':=by
 have dP:=Try.underlying31;have bI:=Try.underlying59;have ba:=dm bN;have b_:=dm bO;clear bN bO;have HB:=dm (Below.refl w.heap.size w);unfold nU.f at h;have H:=h;clear h;have bV:=dm H;clear H
 go_enter Try.func50,Try.ntmps50
 go_upto_region 1 with(first|((with_reducible refine kF 1 rfl ?_);refine kZ #[.int .i64 ae,.slice bd aa.length aT] 31 ?_;intro aq hg w3 jV hb;have af:=dm (jV);have dw:=dm (kC:w.heap.size<=aq);have dx:=dm (kC:w.heap.size<=aq);replace HB:=kg HB hb;clear hb jV hg))
 (try simp only [Act.put,List.setIfInBounds_toArray,List.set_cons_zero,List.set_cons_succ])
 go_cut [12] (fun de wc=>∃ (kq:Nat) (bh:Bool),de=.bool bh/\jP (nU.j0 kq bh ae aa=some r)/\jP (kq<=k)/\jP (wc.heap[aq]? =some (.cells #[.int .i64 ae,(.slice bd aa.length aT)] 31 (0,0)))/\jP (Below w.heap.size w wc))
 case first=>
  have H:=bV.out;clear bV
  replace H:=mh H;rcases H with⟨aW,H⟩|⟨aW,H⟩
  ·(first|rw[aW]|(simp only [mK,nC];rw[aW])|skip);have H':=dm H;clear H;have⟨df,dg,dh,di⟩:=ko (w:=w3) af
   go_wp2
   go_meet
   case rel=>exact⟨_,(true),(kD),H',⟨by first|omega|exact Nat.le_refl _⟩,⟨jY af.out⟩,⟨jU HB.out⟩⟩
  (first|rw[aW]|(simp only [mK,nC];rw[aW])|skip);have H':=dm H;clear H;have⟨bW,bX,bY,bZ⟩:=ko (w:=w3) af
  go_wp2
  go_meet
  case rel=>exact⟨_,(decide (ae>8)),(kD),H',⟨by first|omega|exact Nat.le_refl _⟩,⟨jY af.out⟩,⟨jU HB.out⟩⟩
 case rest=>
  clear bV;obtain⟨kq,bh,rfl,HA,ck,af,HB⟩:=hcut;cases kq with
  |zero=>exact absurd HA.out (by simp[nU.j0])
  |succ b3=>
   have H:=HA.out;clear HA;simp only [nU.j0]at H
   rcases mr H with⟨h_,H_⟩|⟨h_,H_⟩<;> (subst h_;clear H;have H:=H_;clear H_)
   ·obtain rfl:=Option.some.inj H
    go_wp2
    go_ret
    exact⟨nQ,jU HB.out⟩
   have H':=dm H;clear H;have⟨b4,b5,b6,b7⟩:=ko (w:=wc) af
   go_wp2
   go_loopg [16] b3 (fun kq dj w'=>∃ (ab:Int),dj=.int .i64 ab/\jP (nU.l0 kq aa (aa.length:Int) ab ae aa=some r)/\jP (kq<=b3)/\jP (w'.heap[aq]? =some (.cells #[.int .i64 ae,(.slice bd aa.length aT)] 31 (0,0)))/\jP (Below w.heap.size w w'))
   case atStart=>exact⟨(0),(kD),H',⟨Nat.le_refl _⟩,⟨jY af.out⟩,⟨jU HB.out⟩⟩
   case round=>
    clear H';(try clear c7 b4 b5 b6 b7);obtain⟨ab,rfl,HA,cl,af,HB⟩:=hrel;cases gk with
    |zero=>exact absurd HA.out (by simp[nU.l0])
    |succ k2=>
     have H:=HA.out;clear HA;simp only [nU.l0]at H
     replace H:=mh H;rcases H with⟨bH,H⟩|⟨bH,H⟩
     ·skip
      obtain⟨dy,H⟩:=lv H
      obtain⟨dz,H⟩:=lv H
      replace H:=mh H;rcases H with⟨ca,H⟩|⟨ca,H⟩
      ·obtain rfl:=Option.some.inj H;have aA:0<=(ab:Int):=jZ;have aB:ab<(aa.length:Int):=jZ;obtain⟨a9,a8,am,ao⟩:=mR ba.out ab aA aB;cases a8;replace am:=kr HB am;replace ao:=kr HB ao;replace aA:=eq_true aA;replace aB:=eq_true aB
       go_wp2_with (first|((with_reducible refine kF 4 rfl ?_);refine kZ #[.int .i64 0,.int .i64 0] 59 ?_;intro ai hg dk jV hb;have aS:=dm (jV);have bu:=dm (kC:w.heap.size<=ai);have bv:=dm (kC:w.heap.size<=ai);replace HB:=kg HB hb;have al:=dm (x_:aq≠ai);have au:=dm (yc:ai≠aq);replace af:=jT af hb;clear hb jV hg;have dA:=au.out;have dB:=al.out;have⟨cr,ct,cu,cv⟩:=ko (w:=dk) aS))
       go_ret
       exact⟨nQ,jU HB.out⟩
      skip
      replace H:=mh H;rcases H with⟨cd,H⟩|⟨cd,H⟩
      ·obtain rfl:=Option.some.inj H;have aA:0<=(ab:Int):=jZ;have aB:ab<(aa.length:Int):=jZ;obtain⟨a9,a8,am,ao⟩:=mR ba.out ab aA aB;cases a8;replace am:=kr HB am;replace ao:=kr HB ao;replace aA:=eq_true aA;replace aB:=eq_true aB
       go_wp2_with (first|((with_reducible refine kF 4 rfl ?_);refine kZ #[.int .i64 0,.int .i64 0] 59 ?_;intro ai hg dl jV hb;have aS:=dm (jV);have bu:=dm (kC:w.heap.size<=ai);have bv:=dm (kC:w.heap.size<=ai);replace HB:=kg HB hb;have al:=dm (x_:aq≠ai);have au:=dm (yc:ai≠aq);replace af:=jT af hb;clear hb jV hg;have dC:=au.out;have dD:=al.out;have⟨cw,cx,cy,cz⟩:=ko (w:=dl) aS))
       go_ret
       exact⟨nQ,jU HB.out⟩
      skip
      replace H:=mh H;rcases H with⟨ce,H⟩|⟨ce,H⟩
      ·obtain rfl:=Option.some.inj H;have aA:0<=(ab:Int):=jZ;have aB:ab<(aa.length:Int):=jZ;obtain⟨a9,a8,am,ao⟩:=mR ba.out ab aA aB;cases a8;replace am:=kr HB am;replace ao:=kr HB ao;replace aA:=eq_true aA;replace aB:=eq_true aB
       go_wp2_with (first|((with_reducible refine kF 4 rfl ?_);refine kZ #[.int .i64 0,.int .i64 0] 59 ?_;intro ai hg cm jV hb;have aS:=dm (jV);have bu:=dm (kC:w.heap.size<=ai);have bv:=dm (kC:w.heap.size<=ai);replace HB:=kg HB hb;have al:=dm (x_:aq≠ai);have au:=dm (yc:ai≠aq);replace af:=jT af hb;clear hb jV hg;have dE:=au.out;have dF:=al.out;have⟨cA,cD,cE,cF⟩:=ko (w:=cm) aS;have⟨cG,cH,cI,cJ⟩:=ko (w:=cm) af))
       go_ret
       exact⟨nQ,jU HB.out⟩
      have H':=dm H;clear H;have aA:0<=(ab:Int):=jZ;have aB:ab<(aa.length:Int):=jZ;obtain⟨a9,a8,am,ao⟩:=mR ba.out ab aA aB;cases a8;replace am:=kr HB am;replace ao:=kr HB ao;replace aA:=eq_true aA;replace aB:=eq_true aB
      go_wp2_with (first|((with_reducible refine kF 4 rfl ?_);refine kZ #[.int .i64 0,.int .i64 0] 59 ?_;intro ai hg cn jV hb;have aS:=dm (jV);have bu:=dm (kC:w.heap.size<=ai);have bv:=dm (kC:w.heap.size<=ai);replace HB:=kg HB hb;have al:=dm (x_:aq≠ai);have au:=dm (yc:ai≠aq);replace af:=jT af hb;clear hb jV hg;have dG:=au.out;have dH:=al.out;have⟨cL,cM,cN,cO⟩:=ko (w:=cn) aS;have⟨cP,cQ,cS,cT⟩:=ko (w:=cn) af))
      go_roundg k2
      case measure=>have:=ck.out;have:=cl.out;omega
      case rel=>exact⟨(wrap64 (ab+1)),(kD),H',⟨by have:=ck.out;have:=cl.out;omega⟩,⟨lG af.out⟩,⟨jU HB.out⟩⟩
     obtain⟨br,dn,H⟩:=kS H;(try dsimp only at H);obtain rfl:=Option.some.inj H;have⟨cU,cW,cX,cY⟩:=ko (w:=wr) af
     go_wp2_with (first|((with_reducible refine kT 88 rfl ?_);refine nG 40 rfl Try.func88 (oH.calls (kz (lg ba.out HB.out)) b_.out dn.out) ?_;intro dT hb;replace af:=jT af hb;replace HB:=kg HB hb;(try clear hb)))
     go_ret
     exact⟨nQ,jU HB.out⟩
def rE.f (a0:Int) (a1:Int):Option (Int×Int):=some (mn a0 a1,mx a0 a1)
theorem rE.calls {a0:Int}{a1:Int}{r1:Int}{r2:Int}{w:World}(h:rE.f a0 a1=some (r1,r2)):
  Calls Try.prog 53 #[.int .i64 a0,.int .i64 a1] w fun e w'=>e=.returned (.agg #[.int .i64 r1,.int .i64 r2])/\Below w.heap.size w w':=by
 have bI:=Try.underlying59;have HB:=dm (Below.refl w.heap.size w);unfold rE.f at h;have H:=h;clear h;obtain⟨ag,aK⟩:∃j_:Int,(mn a0 a1)=j_:=⟨_,rfl⟩;replace H:(some (ag,mx a0 a1))=some (r1,r2):=by first|(rw[aK]at H;exact H)|(simp only [aK]at H⊢;exact H)
 have dI:(if a1<a0 then a1 else a0)=ag:=aK;obtain⟨b8,bx⟩:∃j_:Int,(mx a0 a1)=j_:=⟨_,rfl⟩;replace H:(some (ag,b8))=some (r1,r2):=by first|(rw[bx]at H;exact H)|(simp only [bx]at H⊢;exact H)
 have dJ:(if a0<a1 then a1 else a0)=b8:=bx;simp only [Option.some.injEq,Prod.mk.injEq]at H;obtain⟨rfl,rfl⟩:=H
 go_enter Try.func53,Try.ntmps53
 go_wp2_with (first|((with_reducible refine kF 4 rfl ?_);refine kZ #[.int .i64 0,.int .i64 0] 59 ?_;intro bz hg w5 jV hb;have bQ:=dm (jV);have dK:=dm (kC:w.heap.size<=bz);have dL:=dm (kC:w.heap.size<=bz);replace HB:=kg HB hb;clear hb jV hg;have⟨bW,bX,bY,bZ⟩:=ko (w:=w5) bQ))
 refine bodyPost_ret (results_cell_row rfl _ _ bz 59 #[.int .i64 ag,.int .i64 b8] (0,0) _ rfl (lG bQ.out) Try.underlying59 rfl (kX)) rfl ?_;exact⟨by first|rfl|(simp[qb,qc]<;>rfl)|(simp only [←aK,←bx];first|rfl|(simp[qb,qc]<;>rfl))|(simp[*,qb,qc]<;>rfl),jU HB.out⟩
theorem vH(h:p:=by exact lG ag.out):p:=h
theorem Cu(h:p:=by(with_reducible repeat(first|apply kH|apply kI|apply kw));exact kv (kG (p:=⟨af,1,none⟩) (kG (p:=⟨af,0,none⟩) (lH ae.out ag.out (by decide)) (fun _ hk=>hk.2) (.int .i64 ((jQ aa ab).f0))) (fun _ hk=>hk.2) (.int .i64 ((jQ aa ab).f1))) (fun _ hk=>trivial)):p:=h
theorem Cv(h:p:=by rw[hg];exact Nat.ne_of_lt (lL (g:=au) (o:=.cells #[.int .i64 ai,.slice (some bl) aa.length av] 31 (0,0)) (jY ac.out))):p:=h
theorem Cw(h:p:=by rw[hg];exact Nat.ne_of_gt (lL (g:=au) (o:=.cells #[.int .i64 ai,.slice (some bl) aa.length av] 31 (0,0)) (jY ac.out))):p:=h
attribute [local go_sem high] Ac
mutual
def lQ.l0:Nat->List Int->Int->Int->Int->List (S59)->Option (List Int)
 |0,_,_,_,_,_=>none
 |k+1,x3,dB,cD,aw,aq=>if cD<dB then(if x3.length<17592186044416 then(lQ.l0 k (x3++[cD]) dB (wrap64 (cD+1)) aw aq) else(none)) else(lQ.l1 k x3 true aw aq)
def lQ.l1:Nat->List Int->Bool->Int->List (S59)->Option (List Int)
 |0,_,_,_,_=>none
 |k+1,x3,x5,aw,aq=>if x5=true then(lQ.l2 k x3 false aq (aq.length:Int) 0 aw aq) else(some x3)
def lQ.l2:Nat->List Int->Bool->List (S59)->Int->Int->Int->List (S59)->Option (List Int)
 |0,_,_,_,_,_,_,_=>none
 |k+1,x3,x5,aN,cE,aG,aw,aq=>if aG<cE then(if 0<=aG then(if aG<(aN.length:Int) then(if 0<=((jQ aN aG).f0) then(if((jQ aN aG).f0)<(x3.length:Int) then(if 0<=((jQ aN aG).f1) then(if((jQ aN aG).f1)<(x3.length:Int) then(if(rd x3 ((jQ aN aG).f0))=(rd x3 ((jQ aN aG).f1)) then(lQ.l2 k x3 x5 aN cE (wrap64 (aG+1)) aw aq) else(lQ.l2 k ((x3.set (((jQ aN aG).f0):Int).toNat (mn (rd x3 ((jQ aN aG).f0)) (rd x3 ((jQ aN aG).f1)))).set (((jQ aN aG).f1):Int).toNat (mn (rd x3 ((jQ aN aG).f0)) (rd x3 ((jQ aN aG).f1)))) true aN cE (wrap64 (aG+1)) aw aq)) else(none)) else(none)) else(none)) else(none)) else(none)) else(none)) else(lQ.l1 k x3 x5 aw aq)
end
def lQ.f (k:Nat) (ai:Int) (aa:List (S59)):Option (List Int):=lQ.l0 k (([]:List Int)) ai 0 ai aa
def lQ.T13:Bool×List (List Nat×List Nat):=(true,[([],[]),([],[]),([1],[1]),([0,2],[0,2]),([3],[3]),([],[]),([],[]),([6],[6]),([5,7],[5,7]),([8],[8]),([4,9],[4,9]),([10,0,1,2,3,4,5,6,7,8,9,10],[10])])
def lQ.B13:List Nat:=[0,0,2,7,15,0,0,64,224,480,1023,2047]
theorem lQ.yZ:mI .any (opsOf Try.f98 13)=lQ.T13:=by kernel_rfl
theorem lQ.xR:nP lQ.T13.2 lQ.B13=true:=by kernel_rfl
def lQ.T14:Bool×List (List Nat×List Nat):=(true,[([],[]),([],[]),([1],[1]),([0,2],[0,2]),([3],[3]),([],[]),([],[]),([6],[6]),([5,7],[5,7]),([8],[8]),([4,9],[4,9])])
def lQ.B14:List Nat:=[0,0,2,7,15,0,0,64,224,480,1023]
theorem lQ.EB:mI .any (opsOf Try.f98 14)=lQ.T14:=by kernel_rfl
theorem lQ.BP:nP lQ.T14.2 lQ.B14=true:=by kernel_rfl
def lQ.T15:Bool×List (List Nat×List Nat):=(true,[([],[]),([],[]),([1],[1]),([],[]),([],[]),([4],[4]),([],[]),([],[]),([0,2,0,1,2,6],[0,2]),([8,6,0,1,2,6],[6,8]),([3,5,0,1,2,3,4,5,6,7,8,9],[3,5]),([10,7,9,0,1,2,3,4,5,6,7,8,9],[7,10])])
def lQ.B15:List Nat:=[0,0,2,0,0,16,0,0,71,327,1023,2047]
theorem lQ.JS:mI .any (opsOf Try.f98 15)=lQ.T15:=by kernel_rfl
theorem lQ.F3:nP lQ.T15.2 lQ.B15=true:=by kernel_rfl
theorem lQ.calls {k:Nat}{ai:Int}{aI:Option Addr}{av:Nat}{aa:List (S59)}{r:List Int}{w:World}(bm:Kd.C k59 w aI aa.length aa)(bn:aa.length<=av)(h:lQ.f k ai aa=some r):
  Calls Try.prog 98 #[.agg #[.int .i64 ai,.slice aI aa.length av]] w fun e w'=>∃dC:Value,e=.returned (dC)/\Kd.R (Kd.int .i64) 3 w' w.heap.size (fun _=>True) dC r/\Below w.heap.size w w':=by
 have dF:=Try.underlying31;have cF:=Try.underlying59;have bz:=dm bm;have ch:=dm bn;clear bm bn;have HB:=dm (Below.refl w.heap.size w);unfold lQ.f at h;have H:=h;clear h;obtain⟨cG,bo⟩:∃y_:List Int,y_=(([]:List Int)):=⟨_,rfl⟩;replace H:(lQ.l0 k cG ai 0 ai aa)=some r:=lZ bo H
 have ci:=dm bo;clear bo;have H':=dm H;clear H
 go_enter Try.func98,Try.ntmps98
 go_wp2_with (first|((with_reducible refine kF 1 rfl ?_);refine kZ #[.int .i64 ai,.slice aI aa.length av] 31 ?_;intro au hg w2 jV hb;have ac:=dm (jV);have ej:=dm (kC:w.heap.size<=au);have dj:=dm (kC:w.heap.size<=au);replace HB:=kg HB hb;clear hb jV hg)|((with_reducible refine kF 9 rfl ?_);refine oL (Kd.int .i64) rfl 3 ([]:List Int) [] (kN.none _ _) ?_;intro ez w3 bS hb hg_ lq;clear hg_ lq;(first|rw[←ci.out]at bS|(simp only [Int.reduceToNat]at bS;rw[←ci.out]at bS));have dk:=dm (kR bS (kK (jU HB.out)));replace ac:=jT ac hb;replace HB:=kg HB hb;clear hb bS;have⟨bT,bU,bV,bW⟩:=ko (w:=w3) ac))
 go_loopg [3,12] k (fun kq v3 dU w'=>∃ (ay:List Int) (ax:Int),dU=.int .i64 ax/\jP (lQ.l0 kq ay ai ax ai aa=some r)/\jP (kq<=k)/\jP (Kd.R (Kd.int .i64) 3 w' w.heap.size (fun _=>True) v3 ay)/\jP (w'.heap[au]? =some (.cells #[.int .i64 ai,(.slice aI aa.length av)] 31 (0,0)))/\jP (Below w.heap.size w w'))
 case atStart=>exact⟨(cG),(0),(kD),H',⟨Nat.le_refl _⟩,⟨jX dk.out⟩,⟨jY ac.out⟩,⟨jU HB.out⟩⟩
 case round=>
  clear H';(try clear bT bU bV bW);obtain⟨ay,ax,rfl,HA,aK,ae,ac,HB⟩:=hrel;cases gk with
  |zero=>exact absurd HA.out (by simp[lQ.l0])
  |succ k1=>
   have H:=HA.out;clear HA;simp only [lQ.l0]at H
   replace H:=mh H;rcases H with⟨b4,H⟩|⟨b4,H⟩
   ·skip
    obtain⟨c7,H⟩:=ni H;have dG:=dm c7;clear c7;obtain⟨cH,bp⟩:∃y_:List Int,y_=(ay++[ax]):=⟨_,rfl⟩;replace H:(lQ.l0 k1 cH ai (wrap64 (ax+1)) ai aa)=some r:=lZ bp H
    have dl:=dm bp;clear bp;have H':=dm H;clear H
    go_wp2_with (first|((with_reducible refine oJ (b:=.append) (xs:= #[.tmp 15,.tmp 17]) rfl ?_);at_builtin;refine pE (Kd.int .i64) (w0:=w) w.heap.size rfl (.tmp 15) (.tmp 17) 45 3 (.int .i64 0) 8 rfl Try.underlying45 info3 rfl (by decide) (by omega) u3 ay ax [.int .i64 ax] (fun _=>True) (fun _=>False) rfl rfl ?aP (fun _ hk=>hk.elim) ?aF ?aO ?aB ?aS ?aL ?_;(case aP=>exact rfl);(case aB=>exact(jU HB.out));(case aF=>exact(fun _ _=>trivial));(case aO=>exact(jX ae.out));(case aS=>exact(kK (jU HB.out)));(case aL=>have:=dG.out;omega);intro eA w8 ho hb hg hat;rw[←dl.out]at ho;have n0:=lY ac hg (lU ae.out ac.out (by decide));have n1:=dm (hb);have n2:=dm (ho);clear ac HB ae;revert n0 n1 n2;intro ac HB dn;clear ho hb hg hat))
    go_roundg k1
    case measure=>have:=aK.out;omega
    case rel=>exact⟨(cH),(wrap64 (ax+1)),(kD),H',⟨by have:=aK.out;omega⟩,⟨jX dn.out⟩,⟨jY ac.out⟩,⟨jU HB.out⟩⟩
   have H':=dm H;clear H
   go_wp2
   go_loopg [5] k1 (fun kq v5 w'=>∃ (bu:List Int) (bJ:Bool),v5=.bool bJ/\jP (lQ.l1 kq bu bJ ai aa=some r)/\jP (kq<=k1)/\jP (Kd.R (Kd.int .i64) 3 w' w.heap.size (fun _=>True) u3 bu)/\jP (w'.heap[au]? =some (.cells #[.int .i64 ai,(.slice aI aa.length av)] 31 (0,0)))/\jP (Below w.heap.size w w'))
   case atStart=>exact⟨(ay),(true),(kD),H',⟨Nat.le_refl _⟩,⟨jX ae.out⟩,⟨jY ac.out⟩,⟨jU HB.out⟩⟩
   case round=>
    clear H';(try clear b4);obtain⟨bu,bJ,rfl,HA,bC,ae,ac,HB⟩:=hrel;cases gk with
    |zero=>exact absurd HA.out (by simp[lQ.l1])
    |succ k2=>
     have H:=HA.out;clear HA;simp only [lQ.l1]at H
     rcases mr H with⟨h_,H_⟩|⟨h_,H_⟩<;> (subst h_;clear H;have H:=H_;clear H_)
     ·have H':=dm H;clear H;have⟨cw,cx,cy,cz⟩:=ko (w:=wr) ac
      go_wp2
      go_loopg [5,24] k2 (fun kq v5 dV w'=>∃ (ah:List Int) (bv:Bool) (ab:Int),v5=.bool bv/\dV=.int .i64 ab/\jP (lQ.l2 kq ah bv aa (aa.length:Int) ab ai aa=some r)/\jP (kq<=k2)/\jP (Kd.R (Kd.int .i64) 3 w' w.heap.size (fun _=>True) u3 ah)/\jP (w'.heap[au]? =some (.cells #[.int .i64 ai,(.slice aI aa.length av)] 31 (0,0)))/\jP (Below w.heap.size w w'))
      case atStart=>exact⟨(bu),(false),(0),(kD),(kD),H',⟨Nat.le_refl _⟩,⟨jX ae.out⟩,⟨jY ac.out⟩,⟨jU HB.out⟩⟩
      case round=>
       clear H';(try clear c9 cw cx cy cz);obtain⟨ah,bv,ab,rfl,rfl,HA,bD,ae,ac,HB⟩:=hrel;cases gk with
       |zero=>exact absurd HA.out (by simp[lQ.l2])
       |succ k3=>
        have H:=HA.out;clear HA;simp only [lQ.l2]at H
        replace H:=mh H;rcases H with⟨dq,H⟩|⟨dq,H⟩
        ·skip
         obtain⟨ek,H⟩:=lv H
         obtain⟨el,H⟩:=lv H
         obtain⟨em,H⟩:=lv H
         obtain⟨en,H⟩:=lv H
         obtain⟨eo,H⟩:=lv H
         obtain⟨ep,H⟩:=lv H;obtain⟨aY,bK⟩:∃j_:Int,(mn (rd ah ((jQ aa ab).f0)) (rd ah ((jQ aa ab).f1)))=j_:=⟨_,rfl⟩;replace H:(if(rd ah ((jQ aa ab).f0))=(rd ah ((jQ aa ab).f1)) then(lQ.l2 k3 ah bv aa (aa.length:Int) (wrap64 (ab+1)) ai aa) else(lQ.l2 k3 ((ah.set (((jQ aa ab).f0):Int).toNat (aY)).set (((jQ aa ab).f1):Int).toNat (aY)) true aa (aa.length:Int) (wrap64 (ab+1)) ai aa))=some r:=by first|(rw[bK]at H;exact H)|(simp only [bK]at H⊢;exact H)
         have dW:(if(rd ah ((jQ aa ab).f1))<(rd ah ((jQ aa ab).f0)) then(rd ah ((jQ aa ab).f1)) else(rd ah ((jQ aa ab).f0)))=aY:=bK
         by_cases bB:(rd ah ((jQ aa ab).f0))=(rd ah ((jQ aa ab).f1))
         ·rw[if_pos bB]at H;have dr:=beq_iff_eq.mpr bB;have dt:=bne_eq_false_iff_eq.mpr bB;clear bB;have H':=dm H;clear H;have a3:0<=(ab:Int):=jZ;have a4:ab<(aa.length:Int):=jZ;obtain⟨bl,b5,aT,aU⟩:=mR bz.out ab a3 a4;cases b5;replace aT:=kr HB aT;replace aU:=kr HB aU;replace a3:=eq_true a3;replace a4:=eq_true a4;try go_wp2_with (first|((with_reducible refine kF 7 rfl ?_);refine kZ #[.int .i64 0,.int .i64 0] 59 ?_;intro af hg bF jV hb;replace ae:=kE ae hb;have ag:=dm (jV);have du:=dm (kC:w.heap.size<=af);have cp:=dm (kC:w.heap.size<=af);replace HB:=kg HB hb;have aE:=dm (Cv:au≠af);have aZ:=dm (Cw:af≠au);replace ac:=jT ac hb;clear hb jV hg;have eq:=aZ.out;have es:=aE.out;have⟨dM,dN,dO,dP⟩:=ko (w:=bF) ag))
          have n0:jP (Kd.R (Kd.int .i64) 3 ((bF.setCell ⟨af,0,none⟩ (.int .i64 ((jQ aa ab).f0))).setCell ⟨af,1,none⟩ (.int .i64 ((jQ aa ab).f1))) w.heap.size (fun _=>True) u3 ah):=⟨Cu⟩;have n1:jP (((bF.setCell ⟨af,0,none⟩ (.int .i64 ((jQ aa ab).f0))).setCell ⟨af,1,none⟩ (.int .i64 ((jQ aa ab).f1))).heap[au]? =some (.cells #[.int .i64 ai,.slice (some bl) aa.length av] 31 (0,0))):=⟨nX⟩;have n2:jP (((bF.setCell ⟨af,0,none⟩ (.int .i64 ((jQ aa ab).f0))).setCell ⟨af,1,none⟩ (.int .i64 ((jQ aa ab).f1))).heap[af]? =some (.cells #[.int .i64 ((jQ aa ab).f0),.int .i64 ((jQ aa ab).f1)] 59 (0,0))):=⟨vH⟩;have n3:jP (Below w.heap.size w ((bF.setCell ⟨af,0,none⟩ (.int .i64 ((jQ aa ab).f0))).setCell ⟨af,1,none⟩ (.int .i64 ((jQ aa ab).f1)))):=⟨jU HB.out⟩;(try clear ae ac ag HB);generalize((bF.setCell ⟨af,0,none⟩ (.int .i64 ((jQ aa ab).f0))).setCell ⟨af,1,none⟩ (.int .i64 ((jQ aa ab).f1)))=dX at n0 n1 n2 n3⊢;revert n0 n1 n2 n3;intro ae ac ag HB;replace ae:=dm (kw ae.out);replace ac:=dm (kP ac.out);replace ag:=dm (kP ag.out);replace HB:=dm (l8 HB.out);obtain⟨eB,eC,cI⟩:=kJ ae.out;(first|subst cI|(injection cI with bX cJ bY;have cL:=bX.symm;have cM:=bY.symm;clear bX cJ bY;subst cL;subst cM));have a5:0<=(((jQ aa ab).f0):Int):=jZ;have a6:((jQ aa ab).f0)<(ah.length:Int):=jZ;obtain⟨ap,b6,az⟩:=lI (ku ae.out).2.2 ((jQ aa ab).f0) a5 a6;cases b6;replace a5:=eq_true a5;replace a6:=eq_true a6;have a7:0<=(((jQ aa ab).f1):Int):=jZ;have a8:((jQ aa ab).f1)<(ah.length:Int):=jZ;obtain⟨bL,b7,aA⟩:=lI (ku ae.out).2.2 ((jQ aa ab).f1) a7 a8;obtain rfl:ap=bL:=(by injection b7);replace a7:=eq_true a7;replace a8:=eq_true a8;refine nu 12 (S:=fun w'=>w'.cell? ⟨af,0,none⟩=some (.int .i64 ((jQ aa ab).f0))/\w'.cell? ⟨af,1,none⟩=some (.int .i64 ((jQ aa ab).f1))/\w'.cell? (ap.add (((jQ aa ab).f0)).toNat)=some (.int .i64 (rd ah ((jQ aa ab).f0)))/\w'.cell? (ap.add (((jQ aa ab).f1)).toNat)=some (.int .i64 (rd ah ((jQ aa ab).f1)))) [] ⟨jR ag 0,jR ag 1,az,aA⟩ lQ.yZ lQ.xR (fun hHeld HT_ HW_=>?_);generalize dX.drew=dY at ae ac ag HB az aA hHeld⊢;refine jS 0 28 1 ?_;refine jS 1 29 3 ?_;refine jS 5 33 35 ?_;refine jS 6 34 99 ?_;refine kL 2 30 103 ?_;refine jS 3 31 111 ?_;refine kL 4 32 127 ?_;refine kL 7 35 255 ?_;refine jS 8 36 511 ?_;refine kL 9 37 1023 ?_;refine jS 10 38 2047 ?_;refine jS 11 8 4095 ?_;refine mG (mU HT_.out (by kernel_rfl)) ?_;try go_wp2
          replace ae:=dm (kw ae.out);replace ac:=dm (kP ac.out);replace ag:=dm (kP ag.out);replace HB:=dm (l8 HB.out);have a9:0<=(((jQ aa ab).f0):Int):=jZ;have a_:((jQ aa ab).f0)<(ah.length:Int):=jZ;obtain⟨bM,b8,aC⟩:=lI (ku ae.out).2.2 ((jQ aa ab).f0) a9 a_;obtain rfl:ap=bM:=(by injection b8);replace a9:=eq_true a9;replace a_:=eq_true a_;have ba:0<=(((jQ aa ab).f1):Int):=jZ;have bd:((jQ aa ab).f1)<(ah.length:Int):=jZ;obtain⟨bN,b9,aD⟩:=lI (ku ae.out).2.2 ((jQ aa ab).f1) ba bd;obtain rfl:ap=bN:=(by injection b9);replace ba:=eq_true ba;replace bd:=eq_true bd;refine nu 11 (S:=fun w'=>w'.cell? ⟨af,0,none⟩=some (.int .i64 ((jQ aa ab).f0))/\w'.cell? ⟨af,1,none⟩=some (.int .i64 ((jQ aa ab).f1))/\w'.cell? (ap.add (((jQ aa ab).f0)).toNat)=some (.int .i64 (rd ah ((jQ aa ab).f0)))/\w'.cell? (ap.add (((jQ aa ab).f1)).toNat)=some (.int .i64 (rd ah ((jQ aa ab).f1)))) [] ⟨jR ag 0,jR ag 1,aC,aD⟩ lQ.EB lQ.BP (fun hHeld HT_ HW_=>?_);generalize dY.drew=eN at ae ac ag HB aC aD hHeld⊢;refine jS 0 39 1 ?_;refine jS 1 40 3 ?_;refine jS 5 44 35 ?_;refine jS 6 45 99 ?_;refine kL 2 41 103 ?_;refine jS 3 42 111 ?_;refine kL 4 43 127 ?_;refine kL 7 46 255 ?_;refine jS 8 47 511 ?_;refine kL 9 48 1023 ?_;refine jS 10 49 2047 ?_;refine mG (mU HT_.out (by kernel_rfl)) ?_;try go_wp2
          go_roundg k3
          case measure=>have:=aK.out;have:=bC.out;have:=bD.out;omega
          case rel=>exact⟨(ah),(bv),(wrap64 (ab+1)),(kD),(kD),H',⟨by have:=aK.out;have:=bC.out;have:=bD.out;omega⟩,⟨jX ae.out⟩,⟨jY ac.out⟩,⟨jU HB.out⟩⟩
         rw[if_neg bB]at H;have dr:=beq_eq_false_iff_ne.mpr bB;have dt:=bne_iff_ne.mpr bB;obtain⟨cN,bq⟩:∃y_:List Int,y_=(ah.set (((jQ aa ab).f0):Int).toNat (aY)):=⟨_,rfl⟩;replace H:(lQ.l2 k3 (cN.set (((jQ aa ab).f1):Int).toNat (aY)) true aa (aa.length:Int) (wrap64 (ab+1)) ai aa)=some r:=lZ bq H
         have dv:=dm bq;clear bq;obtain⟨cO,br⟩:∃y_:List Int,y_=(cN.set (((jQ aa ab).f1):Int).toNat (aY)):=⟨_,rfl⟩;replace H:(lQ.l2 k3 cO true aa (aa.length:Int) (wrap64 (ab+1)) ai aa)=some r:=lZ br H
         have dw:=dm br;clear br;have H':=dm H;clear H;have a3:0<=(ab:Int):=jZ;have a4:ab<(aa.length:Int):=jZ;obtain⟨bl,b5,aT,aU⟩:=mR bz.out ab a3 a4;cases b5;replace aT:=kr HB aT;replace aU:=kr HB aU;replace a3:=eq_true a3;replace a4:=eq_true a4;try go_wp2_with (first|((with_reducible refine kF 7 rfl ?_);refine kZ #[.int .i64 0,.int .i64 0] 59 ?_;intro af hg bG jV hb;replace ae:=kE ae hb;have ag:=dm (jV);have du:=dm (kC:w.heap.size<=af);have cp:=dm (kC:w.heap.size<=af);replace HB:=kg HB hb;have aE:=dm (Cv:au≠af);have aZ:=dm (Cw:af≠au);replace ac:=jT ac hb;clear hb jV hg;have et:=aZ.out;have eu:=aE.out;have⟨dQ,dR,dS,dT⟩:=ko (w:=bG) ag))
         have n0:jP (Kd.R (Kd.int .i64) 3 ((bG.setCell ⟨af,0,none⟩ (.int .i64 ((jQ aa ab).f0))).setCell ⟨af,1,none⟩ (.int .i64 ((jQ aa ab).f1))) w.heap.size (fun _=>True) u3 ah):=⟨Cu⟩;have n1:jP (((bG.setCell ⟨af,0,none⟩ (.int .i64 ((jQ aa ab).f0))).setCell ⟨af,1,none⟩ (.int .i64 ((jQ aa ab).f1))).heap[au]? =some (.cells #[.int .i64 ai,.slice (some bl) aa.length av] 31 (0,0))):=⟨nX⟩;have n2:jP (((bG.setCell ⟨af,0,none⟩ (.int .i64 ((jQ aa ab).f0))).setCell ⟨af,1,none⟩ (.int .i64 ((jQ aa ab).f1))).heap[af]? =some (.cells #[.int .i64 ((jQ aa ab).f0),.int .i64 ((jQ aa ab).f1)] 59 (0,0))):=⟨vH⟩;have n3:jP (Below w.heap.size w ((bG.setCell ⟨af,0,none⟩ (.int .i64 ((jQ aa ab).f0))).setCell ⟨af,1,none⟩ (.int .i64 ((jQ aa ab).f1)))):=⟨jU HB.out⟩;(try clear ae ac ag HB);generalize((bG.setCell ⟨af,0,none⟩ (.int .i64 ((jQ aa ab).f0))).setCell ⟨af,1,none⟩ (.int .i64 ((jQ aa ab).f1)))=dZ at n0 n1 n2 n3⊢;revert n0 n1 n2 n3;intro ae ac ag HB;replace ae:=dm (kw ae.out);replace ac:=dm (kP ac.out);replace ag:=dm (kP ag.out);replace HB:=dm (l8 HB.out);obtain⟨eD,eE,cP⟩:=kJ ae.out;(first|subst cP|(injection cP with bX cJ bY;have cL:=bX.symm;have cM:=bY.symm;clear bX cJ bY;subst cL;subst cM));have a5:0<=(((jQ aa ab).f0):Int):=jZ;have a6:((jQ aa ab).f0)<(ah.length:Int):=jZ;obtain⟨ap,b6,az⟩:=lI (ku ae.out).2.2 ((jQ aa ab).f0) a5 a6;cases b6;replace a5:=eq_true a5;replace a6:=eq_true a6;have a7:0<=(((jQ aa ab).f1):Int):=jZ;have a8:((jQ aa ab).f1)<(ah.length:Int):=jZ;obtain⟨bL,b7,aA⟩:=lI (ku ae.out).2.2 ((jQ aa ab).f1) a7 a8;obtain rfl:ap=bL:=(by injection b7);replace a7:=eq_true a7;replace a8:=eq_true a8;refine nu 12 (S:=fun w'=>w'.cell? ⟨af,0,none⟩=some (.int .i64 ((jQ aa ab).f0))/\w'.cell? ⟨af,1,none⟩=some (.int .i64 ((jQ aa ab).f1))/\w'.cell? (ap.add (((jQ aa ab).f0)).toNat)=some (.int .i64 (rd ah ((jQ aa ab).f0)))/\w'.cell? (ap.add (((jQ aa ab).f1)).toNat)=some (.int .i64 (rd ah ((jQ aa ab).f1)))) [] ⟨jR ag 0,jR ag 1,az,aA⟩ lQ.yZ lQ.xR (fun hHeld HT_ HW_=>?_);generalize dZ.drew=d7 at ae ac ag HB az aA hHeld⊢;refine jS 0 28 1 ?_;refine jS 1 29 3 ?_;refine jS 5 33 35 ?_;refine jS 6 34 99 ?_;refine kL 2 30 103 ?_;refine jS 3 31 111 ?_;refine kL 4 32 127 ?_;refine kL 7 35 255 ?_;refine jS 8 36 511 ?_;refine kL 9 37 1023 ?_;refine jS 10 38 2047 ?_;refine jS 11 8 4095 ?_;refine mG (mU HT_.out (by kernel_rfl)) ?_;try go_wp2
         replace ae:=dm (kw ae.out);replace ac:=dm (kP ac.out);replace ag:=dm (kP ag.out);replace HB:=dm (l8 HB.out);have a9:0<=(((jQ aa ab).f0):Int):=jZ;have a_:((jQ aa ab).f0)<(ah.length:Int):=jZ;obtain⟨bM,b8,aC⟩:=lI (ku ae.out).2.2 ((jQ aa ab).f0) a9 a_;obtain rfl:ap=bM:=(by injection b8);replace a9:=eq_true a9;replace a_:=eq_true a_;have ba:0<=(((jQ aa ab).f1):Int):=jZ;have bd:((jQ aa ab).f1)<(ah.length:Int):=jZ;obtain⟨bN,b9,aD⟩:=lI (ku ae.out).2.2 ((jQ aa ab).f1) ba bd;obtain rfl:ap=bN:=(by injection b9);replace ba:=eq_true ba;replace bd:=eq_true bd;refine nu 11 (S:=fun w'=>w'.cell? ⟨af,0,none⟩=some (.int .i64 ((jQ aa ab).f0))/\w'.cell? ⟨af,1,none⟩=some (.int .i64 ((jQ aa ab).f1))/\w'.cell? (ap.add (((jQ aa ab).f0)).toNat)=some (.int .i64 (rd ah ((jQ aa ab).f0)))/\w'.cell? (ap.add (((jQ aa ab).f1)).toNat)=some (.int .i64 (rd ah ((jQ aa ab).f1)))) [] ⟨jR ag 0,jR ag 1,aC,aD⟩ lQ.EB lQ.BP (fun hHeld HT_ HW_=>?_);generalize d7.drew=d8 at ae ac ag HB aC aD hHeld⊢;refine jS 0 39 1 ?_;refine jS 1 40 3 ?_;refine jS 5 44 35 ?_;refine jS 6 45 99 ?_;refine kL 2 41 103 ?_;refine jS 3 42 111 ?_;refine kL 4 43 127 ?_;refine kL 7 46 255 ?_;refine jS 8 47 511 ?_;refine kL 9 48 1023 ?_;refine jS 10 49 2047 ?_;refine mG (mU HT_.out (by kernel_rfl)) ?_;try go_wp2
         replace ae:=dm (kw ae.out);replace ac:=dm (kP ac.out);replace ag:=dm (kP ag.out);replace HB:=dm (l8 HB.out);have cQ:0<=(((jQ aa ab).f0):Int):=jZ;have cS:(((jQ aa ab).f0):Int)<((ah.length:Int):Int):=jZ;obtain⟨eF,eG,cT,cU,dH,eH,cW⟩:=wB ae.out (by omega);(first|cases cT|(injection cT with ea_ en_ ec_;(first|subst ea_|(injection ea_ with ea_;subst ea_));subst ec_;clear en_));have cX:=dm cU;have dI:=dm cW;clear cU dH cW;(first|simp only [add_plain]at az|skip);(first|simp only [add_plain]at aA|skip);(first|simp only [add_plain]at aC|skip);(first|simp only [add_plain]at aD|skip);obtain⟨cY,cZ⟩:=sj 0 ae.out (((jQ aa ab).f0):Int) cQ cS;replace cQ:=eq_true cQ;replace cS:=eq_true cS;have b_:=zo ae.out (((jQ aa ab).f0):Int) aY;rw[←dv.out]at b_;have ca:=dm b_;clear b_;have c_:0<=(((jQ aa ab).f1):Int):=jZ;have db:(((jQ aa ab).f1):Int)<((ah.length:Int):Int):=jZ;obtain⟨dc,dd⟩:=sj 0 ca.out (((jQ aa ab).f1):Int) c_ db;replace c_:=eq_true c_;replace db:=eq_true db;have cd:=zo ca.out (((jQ aa ab).f1):Int) aY;rw[←dw.out]at cd;have de:=dm cd;clear cd;refine nu 12 (S:=fun w'=>w'.cell? ⟨af,0,none⟩=some (.int .i64 ((jQ aa ab).f0))/\w'.cell? ⟨af,1,none⟩=some (.int .i64 ((jQ aa ab).f1))) [11] ⟨jR ag 0,jR ag 1⟩ lQ.JS lQ.F3 (fun hHeld HT_ HW_=>?_);generalize d8.drew=eO at ae ac ag HB dI ca de cZ dd cY dc az aA aC aD hHeld⊢;refine jS 0 50 1 ?_;refine jS 1 51 3 ?_;refine jS 3 53 11 ?_;refine jS 4 54 27 ?_;refine jS 6 56 91 ?_;refine jS 7 57 219 ?_;refine kL 2 52 223 ?_;refine jS 8 58 479 ?_;refine kL 5 55 511 ?_;refine uV 9 (none) (lm 12 1023) (fun K hK=>?_);refine o8 (w1:= ?_) (by rfl) rfl ?_ ?_;rotate_left
         ·go_simp
          rfl
         refine hK.out _ _ ⟨((cell_far (fun e_=>lU ae.out ag.out (by decide) (congrArg some e_)) _).trans (hHeld.1)),((cell_far (fun e_=>lU ae.out ag.out (by decide) (congrArg some e_)) _).trans (hHeld.2))⟩ (fun hHeld=>?_);clear hK K;refine jS 10 59 2047 ?_;refine qp 11 (none) (lm 12 4095) (fun K hK=>?_);refine o8 (w1:= ?_) (by rfl) rfl ?_ ?_;rotate_left
         ·go_simp
          rfl
         refine hK.out _ _ ?_;clear hK K;refine mG (mU HT_.out (by kernel_rfl)) ?_;try go_wp2
         go_roundg k3
         case measure=>have:=aK.out;have:=bC.out;have:=bD.out;omega
         case rel=>exact⟨(cO),(true),(wrap64 (ab+1)),(kD),(kD),H',⟨by have:=aK.out;have:=bC.out;have:=bD.out;omega⟩,⟨jX de.out⟩,⟨by(with_reducible repeat(first|refine o6 ?_ _|refine kP ?_|refine ng ?_ _));refine pF ?_ (by have h_:=lU ae.out ac.out (by decide);intro e_;exact h_ (by rw[e_];rfl)) _;(with_reducible repeat(first|refine o6 ?_ _|refine kP ?_|refine ng ?_ _));refine pF ?_ (by have h_:=lU ae.out ac.out (by decide);intro e_;exact h_ (by rw[e_];rfl)) _;(with_reducible repeat(first|refine o6 ?_ _|refine kP ?_|refine ng ?_ _));exact ac.out⟩,⟨by repeat(first|(with_reducible first|exact HB.out|apply oV|apply pz|apply l8|refine nM ?_ cX.out|refine nM ?_ cX.out|refine nM ?_ dj.out|refine nM ?_ cp.out)|exact HB.out)⟩⟩
        have H':=dm H;clear H
        go_wp2
        go_roundg k3
        case measure=>have:=aK.out;have:=bC.out;have:=bD.out;omega
        case rel=>exact⟨(ah),(bv),(kD),H',⟨by have:=aK.out;have:=bC.out;have:=bD.out;omega⟩,⟨jX ae.out⟩,⟨jY ac.out⟩,⟨jU HB.out⟩⟩
     obtain rfl:=Option.some.inj H
     go_wp2
     go_ret
     exact⟨_,mH,jX ae.out,jU HB.out⟩
def pM.l0:Nat->Int->List Int->Int->Int->Option (Int)
 |0,_,_,_,_=>none
 |k+1,x3,x7,x8,x9=>if x9<x8 then(if 0<=x9 then(if x9<(x7.length:Int) then(if x9=(rd x7 x9) then(pM.l0 k (wrap64 (x3+1)) x7 x8 (wrap64 (x9+1))) else(pM.l0 k x3 x7 x8 (wrap64 (x9+1)))) else(none)) else(none)) else(some x3)
def pM.f (k:Nat) (ai:Int) (aa:List (S59)):Option (Int):=(lQ.f k ai aa).bind fun ao=>(pM.l0 k 0 ao (ao.length:Int) 0)
theorem pM.calls {k:Nat}{ai:Int}{aI:Option Addr}{av:Nat}{aa:List (S59)}{r:Int}{w:World}(bm:Kd.C k59 w aI aa.length aa)(bn:aa.length<=av)(h:pM.f k ai aa=some r):
  Calls Try.prog 63 #[.agg #[.int .i64 ai,.slice aI aa.length av]] w fun e w'=>e=.returned (.int .i64 r)/\Below w.heap.size w w':=by
 have dF:=Try.underlying31;have bz:=dm bm;have ch:=dm bn;clear bm bn;have HB:=dm (Below.refl w.heap.size w);unfold pM.f at h;have H:=h;clear h;obtain⟨ao,A2,H⟩:=kS H;(try dsimp only at H);have H':=dm H;clear H
 go_enter Try.func63,Try.ntmps63
 go_wp2_with (first|((with_reducible refine kF 1 rfl ?_);refine kZ #[.int .i64 ai,.slice aI aa.length av] 31 ?_;intro bO hg w3 jV hb;have aR:=dm (jV);have ev:=dm (kC:w.heap.size<=bO);have ew:=dm (kC:w.heap.size<=bO);replace HB:=kg HB hb;clear hb jV hg;have⟨df,dg,dh,di⟩:=ko (w:=w3) aR)|((with_reducible refine kT 98 rfl ?_);refine lM 7 rfl Try.func98 (lQ.calls (kz (lg bz.out HB.out)) ch.out A2.out) ?_;rintro e w5 ⟨eI,rfl,dD,hb⟩;refine⟨_,rfl,?_⟩;have cq:=dm (kR dD (kK (jU HB.out)));replace aR:=jT aR hb;replace HB:=kg HB hb;(try clear hb dD);obtain⟨d9,d_,ea⟩:=kJ cq.out;subst ea))
 go_loopg [3,9] k (fun kq v3 v9 w'=>∃ (ay:Int) (ak:Int),v3=.int .i64 ay/\v9=.int .i64 ak/\jP (pM.l0 kq ay ao (ao.length:Int) ak=some r)/\jP (kq<=k)/\jP (Kd.R (Kd.int .i64) 3 w' w.heap.size (fun _=>True) (.slice d9 ao.length d_) ao)/\jP (w'.heap[bO]? =some (.cells #[.int .i64 ai,(.slice aI aa.length av)] 31 (0,0)))/\jP (Below w.heap.size w w'))
 case atStart=>exact⟨(0),(0),(kD),(kD),H',⟨Nat.le_refl _⟩,⟨jX cq.out⟩,⟨jY aR.out⟩,⟨jU HB.out⟩⟩
 case round=>
  clear H';(try clear df dg dh di);obtain⟨ay,ak,rfl,rfl,HA,aK,bP,aR,HB⟩:=hrel;cases gk with
  |zero=>exact absurd HA.out (by simp[pM.l0])
  |succ k1=>
   have H:=HA.out;clear HA;simp only [pM.l0]at H
   replace H:=mh H;rcases H with⟨ce,H⟩|⟨ce,H⟩
   ·skip
    obtain⟨eJ,H⟩:=lv H
    obtain⟨eK,H⟩:=lv H
    by_cases c10:ak=(rd ao ak)
    ·rw[if_pos c10]at H;have dx:=beq_iff_eq.mpr c10;have dy:=bne_eq_false_iff_eq.mpr c10;clear c10;have H':=dm H;clear H;have bf:0<=(ak:Int):=jZ;have bh:ak<(ao.length:Int):=jZ;obtain⟨dz,cf,cA⟩:=lI (ku bP.out).2.2 ak bf bh;cases cf;replace bf:=eq_true bf;replace bh:=eq_true bh
     go_wp2
     go_roundg k1
     case measure=>have:=aK.out;omega
     case rel=>exact⟨(wrap64 (ay+1)),(wrap64 (ak+1)),(kD),(kD),H',⟨by have:=aK.out;omega⟩,⟨jX bP.out⟩,⟨jY aR.out⟩,⟨jU HB.out⟩⟩
    rw[if_neg c10]at H;have dx:=beq_eq_false_iff_ne.mpr c10;have dy:=bne_iff_ne.mpr c10;have H':=dm H;clear H;have bf:0<=(ak:Int):=jZ;have bh:ak<(ao.length:Int):=jZ;obtain⟨dz,cf,cA⟩:=lI (ku bP.out).2.2 ak bf bh;cases cf;replace bf:=eq_true bf;replace bh:=eq_true bh
    go_wp2
    go_roundg k1
    case measure=>have:=aK.out;omega
    case rel=>exact⟨(ay),(wrap64 (ak+1)),(kD),(kD),H',⟨by have:=aK.out;omega⟩,⟨jX bP.out⟩,⟨jY aR.out⟩,⟨jU HB.out⟩⟩
   obtain rfl:=Option.some.inj H
   go_wp2
   go_ret
   exact⟨nQ,jU HB.out⟩
def qV.l0:Nat->List (S59)->Int->Int->Int->Int->Option (Int)
 |0,_,_,_,_,_=>none
 |k+1,x0,x7,x8,bH,bI=>if x8<x7 then(if 0<=x8 then(if x8<(x0.length:Int) then(if(bH==((jQ x0 x8).f0)&&(bI==((jQ x0 x8).f1)))=true then(some x8) else(qV.l0 k x0 x7 (wrap64 (x8+1)) bH bI)) else(none)) else(none)) else(some (-1))
def qV.f (k:Nat) (l0:List (S59)) (al:Int) (am:Int):Option (Int):=qV.l0 k l0 (l0.length:Int) 0 al am
theorem qV.calls {k:Nat}{A0:Option Addr}{c0:Nat}{l0:List (S59)}{al:Int}{am:Int}{r:Int}{w:World}(bZ:Kd.C k59 w A0 l0.length l0)(b3:l0.length<=c0)(h:qV.f k l0 al am=some r):
  Calls Try.prog 111 #[.slice A0 l0.length c0,.agg #[.int .i64 al,.int .i64 am]] w fun e w'=>e=.returned (.int .i64 r)/\Below w.heap.size w w':=by
 have cF:=Try.underlying59;have cr:=dm bZ;have dE:=dm b3;clear bZ b3;have HB:=dm (Below.refl w.heap.size w);unfold qV.f at h;have H:=h;clear h;have H':=dm H;clear H
 go_enter Try.func111,Try.ntmps111
 go_wp2_with (first|((with_reducible refine kF 3 rfl ?_);refine kZ #[.int .i64 al,.int .i64 am] 59 ?_;intro aM hg w3 jV hb;have aX:=dm (jV);have ct:=dm (kC:w.heap.size<=aM);have cu:=dm (kC:w.heap.size<=aM);replace HB:=kg HB hb;clear hb jV hg))
 repeat(go_quiet (first|((with_reducible refine kF 3 rfl ?_);refine kZ #[.int .i64 al,.int .i64 am] 59 ?_;intro aM hg w3 jV hb;have aX:=dm (jV);have ct:=dm (kC:w.heap.size<=aM);have cu:=dm (kC:w.heap.size<=aM);replace HB:=kg HB hb;clear hb jV hg));try go_wp2_with (first|((with_reducible refine kF 3 rfl ?_);refine kZ #[.int .i64 al,.int .i64 am] 59 ?_;intro aM hg w3 jV hb;have aX:=dm (jV);have ct:=dm (kC:w.heap.size<=aM);have cu:=dm (kC:w.heap.size<=aM);replace HB:=kg HB hb;clear hb jV hg)))
 go_loopg [8] k (fun kq v8 w'=>∃ (aj:Int),v8=.int .i64 aj/\jP (qV.l0 kq l0 (l0.length:Int) aj al am=some r)/\jP (kq<=k)/\jP (w'.heap[aM]? =some (.cells #[.int .i64 al,.int .i64 am] 59 (0,0)))/\jP (Below w.heap.size w w'))
 case atStart=>exact⟨(0),(kD),H',⟨Nat.le_refl _⟩,⟨jY aX.out⟩,⟨jU HB.out⟩⟩
 case round=>
  clear H';obtain⟨aj,rfl,HA,aK,aX,HB⟩:=hrel;cases gk with
  |zero=>exact absurd HA.out (by simp[qV.l0])
  |succ k1=>
   have H:=HA.out;clear HA;simp only [qV.l0]at H
   replace H:=mh H;rcases H with⟨dJ,H⟩|⟨dJ,H⟩
   ·skip
    obtain⟨eL,H⟩:=lv H
    obtain⟨b4,H⟩:=lv H
    by_cases c7:(al==((jQ l0 aj).f0)&&(am==((jQ l0 aj).f1)))=true
    ·rw[if_pos c7]at H;have ce:(al==((jQ l0 aj).f0)&&(am==((jQ l0 aj).f1)))=true:=c7;(try(have dK:decide (al=((jQ l0 aj).f0)&&(am==((jQ l0 aj).f1)))=true:=by simpa using c7));(try(have dL:(al==((jQ l0 aj).f0)&&(am==((jQ l0 aj).f1)))=true:=by simpa using c7));clear c7;obtain rfl:=Option.some.inj H;have⟨eb,ec,ed,ee⟩:=ko (w:=wr) aX;have bj:0<=(aj:Int):=jZ;have bk:aj<(l0.length:Int):=jZ;obtain⟨dA,cg,aV,aW⟩:=mR cr.out aj bj bk;cases cg;replace aV:=kr HB aV;replace aW:=kr HB aW;replace bj:=eq_true bj;replace bk:=eq_true bk
     go_wp2
     repeat(go_quiet (fail);try go_wp2)
     go_ret
     exact⟨nQ,jU HB.out⟩
    rw[if_neg c7]at H;have ce:(al==((jQ l0 aj).f0)&&(am==((jQ l0 aj).f1)))=false:=by simpa using c7
    (try(have dK:decide (al=((jQ l0 aj).f0)&&(am==((jQ l0 aj).f1)))=false:=by simpa using c7));(try(have dL:(al==((jQ l0 aj).f0)&&(am==((jQ l0 aj).f1)))=false:=by simpa using c7));(try(have eM:¬ (al=((jQ l0 aj).f0)&&(am==((jQ l0 aj).f1))):=by simpa using c7));clear c7;have H':=dm H;clear H;have⟨ef,eg,eh,ei⟩:=ko (w:=wr) aX;have bj:0<=(aj:Int):=jZ;have bk:aj<(l0.length:Int):=jZ;obtain⟨dA,cg,aV,aW⟩:=mR cr.out aj bj bk;cases cg;replace aV:=kr HB aV;replace aW:=kr HB aW;replace bj:=eq_true bj;replace bk:=eq_true bk
    go_wp2
    repeat(go_quiet (fail);try go_wp2)
    go_roundg k1
    case measure=>have:=aK.out;omega
    case rel=>exact⟨(wrap64 (aj+1)),(kD),H',⟨by have:=aK.out;omega⟩,⟨jY aX.out⟩,⟨jU HB.out⟩⟩
   obtain rfl:=Option.some.inj H
   go_wp2
   repeat(go_quiet (fail);try go_wp2)
   go_ret
   exact⟨nQ,jU HB.out⟩
def tq.f (k:Nat) (l0:List (S59)) (al:Int) (am:Int):Option (Bool):=(qV.f k l0 al am).bind fun bx=>(some (decide (bx>=0)))
theorem tq.calls {k:Nat}{A0:Option Addr}{c0:Nat}{l0:List (S59)}{al:Int}{am:Int}{r:Bool}{w:World}(bZ:Kd.C k59 w A0 l0.length l0)(b3:l0.length<=c0)(h:tq.f k l0 al am=some r):
  Calls Try.prog 81 #[.slice A0 l0.length c0,.agg #[.int .i64 al,.int .i64 am]] w fun e w'=>e=.returned (.bool r)/\Below w.heap.size w w':=by
 have cF:=Try.underlying59;have cr:=dm bZ;have dE:=dm b3;clear bZ b3;have HB:=dm (Below.refl w.heap.size w);unfold tq.f at h;have H:=h;clear h;obtain⟨bx,A3,H⟩:=kS H;(try dsimp only at H);obtain rfl:=Option.some.inj H
 go_enter Try.func81,Try.ntmps81
 go_wp2_with (first|((with_reducible refine kF 3 rfl ?_);refine kZ #[.int .i64 al,.int .i64 am] 59 ?_;intro cv hg w4 jV hb;have bA:=dm (jV);have ex:=dm (kC:w.heap.size<=cv);have ey:=dm (kC:w.heap.size<=cv);replace HB:=kg HB hb;clear hb jV hg;have⟨bT,bU,bV,bW⟩:=ko (w:=w4) bA)|((with_reducible refine kT 111 rfl ?_);refine nG 7 rfl Try.func111 (qV.calls (kz (lg cr.out HB.out)) dE.out A3.out) ?_;intro w6 hb;replace bA:=jT bA hb;replace HB:=kg HB hb;(try clear hb)))
 go_ret
 exact⟨nQ,jU HB.out⟩
theorem Cx(h:p:=by exact lG au.out):p:=h
theorem Cy(h:p:=by(with_reducible repeat(first|apply kH|apply kI|apply kw));exact(kv (kG (p:=⟨aj,1,none⟩) (kG (p:=⟨aj,0,none⟩) (kv ac.out (fun k_ hk=>(⟨hk,hk.2⟩:_/\k_≠aj))) (fun _ hk=>hk.2) (.int .i64 ((jQ aa ab).f0))) (fun _ hk=>hk.2) (.int .i64 ((jQ aa ab).f1))) (fun _ h_=>h_.1))):p:=h
theorem Cz(h:p:=by rw[hg];exact Nat.ne_of_lt (lL (g:=ap) (o:=.cells #[.int .i64 ae,.slice (some a4) aa.length av] 31 (0,0)) (jY af.out))):p:=h
theorem CB(h:p:=by rw[hg];exact Nat.ne_of_gt (lL (g:=ap) (o:=.cells #[.int .i64 ae,.slice (some a4) aa.length av] 31 (0,0)) (jY af.out))):p:=h
theorem CE(h:p:=by rw[hg];exact Nat.ne_of_lt (lL (g:=ap) (o:=.cells #[.int .i64 ae,.slice aD aa.length av] 31 (0,0)) (jY af.out))):p:=h
theorem CF(h:p:=by rw[hg];exact Nat.ne_of_gt (lL (g:=ap) (o:=.cells #[.int .i64 ae,.slice aD aa.length av] 31 (0,0)) (jY af.out))):p:=h
theorem zT(h:p:=by rw[hg];exact Nat.ne_of_lt (lL (g:=am) (o:=.cells #[.int .i64 0,.slice none 0 0] 31 (0,0)) (jY ag.out))):p:=h
theorem zS(h:p:=by rw[hg];exact Nat.ne_of_gt (lL (g:=am) (o:=.cells #[.int .i64 0,.slice none 0 0] 31 (0,0)) (jY ag.out))):p:=h
def oh.l0:Nat->List (S59)->List (S59)->Int->Int->Int->List (S59)->Option (Int× (List (S59)))
 |0,_,_,_,_,_,_=>none
 |k+1,x1,bm,b3,a5,bf,aW=>if a5<b3 then(if 0<=a5 then(if a5<(bm.length:Int) then((tq.f k x1 ((jQ bm a5).f0) ((jQ bm a5).f1)).bind fun bC=>(if bC=true then(oh.l0 k x1 bm b3 (wrap64 (a5+1)) bf aW) else(if aW.length<8796093022208 then(oh.l0 k x1 bm b3 (wrap64 (a5+1)) bf (aW++[(⟨(jQ bm a5).f0,(jQ bm a5).f1⟩:S59)])) else(none)))) else(none)) else(none)) else(some (bf,aW))
def oh.f (k:Nat) (ae:Int) (aa:List (S59)) (l1:List (S59)):Option (Int× (List (S59))):=oh.l0 k l1 aa (aa.length:Int) 0 ae (([]:List (S59)))
theorem oh.calls {k:Nat}{ae:Int}{aD:Option Addr}{av:Nat}{aa:List (S59)}{A1:Option Addr}{c1:Nat}{l1:List (S59)}{r1:Int}{r2:List (S59)}{w:World}(a6:Kd.C k59 w aD aa.length aa)(a7:aa.length<=av)(hr1:Kd.C k59 w A1 l1.length l1)(co:l1.length<=c1)(h:oh.f k ae aa l1=some (r1,r2)):
  Calls Try.prog 66 #[.agg #[.int .i64 ae,.slice aD aa.length av],.slice A1 l1.length c1] w fun e w'=>∃cp:Value,e=.returned (.agg #[.int .i64 r1,cp])/\Kd.R k59 59 w' w.heap.size (fun _=>True) cp r2/\Below w.heap.size w w':=by
 have cz:=Try.underlying31;have d7:=Try.underlying59;have aX:=dm a6;have bl:=dm a7;clear a6 a7;have cq:=dm hr1;have cr:=dm co;clear hr1 co;have HB:=dm (Below.refl w.heap.size w);unfold oh.f at h;have H:=h;clear h;obtain⟨bD,a8⟩:∃y_:List (S59),y_=(([]:List (S59))):=⟨_,rfl⟩;replace H:(oh.l0 k l1 aa (aa.length:Int) 0 ae bD)=some (r1,r2):=lZ a8 H
 have bJ:=dm a8;clear a8;have H':=dm H;clear H
 go_enter Try.func66,Try.ntmps66
 go_wp2_with (first|((with_reducible refine kF 2 rfl ?_);refine kZ #[.int .i64 ae,.slice aD aa.length av] 31 ?_;intro ap hg w3 jV hb;have af:=dm (jV);have dr:=dm (kC:w.heap.size<=ap);have dt:=dm (kC:w.heap.size<=ap);replace HB:=kg HB hb;clear hb jV hg)|((with_reducible refine kF 4 rfl ?_);refine kZ #[.int .i64 0,.slice none 0 0] 31 ?_;intro am hg w4 jV hb;have ag:=dm (jV);have du:=dm (kC:w.heap.size<=am);have dv:=dm (kC:w.heap.size<=am);replace HB:=kg HB hb;have bh:=dm (CE:ap≠am);have bj:=dm (CF:am≠ap);replace af:=jT af hb;clear hb jV hg;have d8:=bh.out;have d9:=bj.out;have⟨b4,b5,b6,b7⟩:=ko (w:=w4) af)|((with_reducible refine kF 10 rfl ?_);refine oL k59 rfl 59 ([]:List (S59)) [] (kN.none _ _) ?_;intro d_ w7 bG hb hg_ lq;clear hg_ lq;(first|rw[←bJ.out]at bG|(simp only [Int.reduceToNat]at bG;rw[←bJ.out]at bG));have a9:=dm (kR bG (kK (jU HB.out)));replace af:=jT af hb;replace ag:=jT ag hb;replace HB:=kg HB hb;clear hb bG;obtain⟨ct,cu,dj⟩:=kJ a9.out;subst dj)|((with_reducible refine kF 5 rfl ?_);refine kZ #[.int .i64 0,.slice none 0 0] 31 ?_;intro al hg cv jV hb;have n0:=kE a9 hb;have n1:=jT af hb;have n2:=jT ag hb;have n3:=kg HB hb;have n4:=dm (jV);have n5:=dm (kC:w.heap.size<=al);have n6:=dm (kC:w.heap.size<=al);have n7:=dm (CE:ap≠al);have n8:=dm (CF:al≠ap);have n9:=dm (zT:am≠al);have bH:=dm (zS:al≠am);clear a9 af ag HB;revert n0 n1 n2 n3 n4 n5 n6 n7 n8 n9 bH;intro a9 af ag HB ah dw dx aw aQ ax aR;clear hb jV hg;have dy:=aQ.out;have dz:=aw.out;have dA:=aR.out;have dB:=ax.out;have⟨bS,bT,bU,bV⟩:=ko (w:=cv) ah;have⟨bW,bX,bY,bZ⟩:=ko (w:=cv) af))
 go_loopg [15] k (fun kq dk w'=>∃ (ab:Int) (ai:List (S59)) (ao:Value),dk=.int .i64 ab/\jP (oh.l0 kq l1 aa (aa.length:Int) ab ae ai=some (r1,r2))/\jP (kq<=k)/\jP (Kd.R k59 59 w' w.heap.size (fun _=>True) ao ai)/\jP (w'.heap[ap]? =some (.cells #[.int .i64 ae,(.slice aD aa.length av)] 31 (0,0)))/\jP (w'.heap[am]? =some (.cells #[.int .i64 0,(.slice none 0 0)] 31 (0,0)))/\jP (w'.heap[al]? =some (.cells #[.int .i64 ae,ao] 31 (0,0)))/\jP (Below w.heap.size w w'))
 case atStart=>exact⟨(0),(bD),(.slice ct bD.length cu),(by first|rfl|(simp;done)|(simp[*];done)),H',⟨Nat.le_refl _⟩,⟨by(with_reducible repeat(first|apply kH|apply kI|apply kw));exact kv (kG (p:=⟨al,1,none⟩) (kG (p:=⟨al,0,none⟩) (lH a9.out ah.out (by decide)) (fun _ hk=>hk.2) (.int .i64 ae)) (fun _ hk=>hk.2) (.slice ct bD.length cu)) (fun _ hk=>trivial)⟩,⟨lG af.out⟩,⟨lG ag.out⟩,⟨lG ah.out⟩,⟨jU HB.out⟩⟩
 case round=>
  clear H';(try clear bS bT bW bX b4 b5 bU bV bY bZ b6 b7);obtain⟨ab,ai,ao,rfl,HA,bK,ac,af,ag,ah,HB⟩:=hrel;cases gk with
  |zero=>exact absurd HA.out (by simp[oh.l0])
  |succ k1=>
   have H:=HA.out;clear HA;simp only [oh.l0]at H
   replace H:=mh H;rcases H with⟨cj,H⟩|⟨cj,H⟩
   ·skip
    obtain⟨dC,H⟩:=lv H
    obtain⟨dD,H⟩:=lv H;obtain⟨bC,cw,H⟩:=kS H;(try dsimp only at H)
    rcases mr H with⟨h_,H_⟩|⟨h_,H_⟩<;> (subst h_;clear H;have H:=H_;clear H_)
    ·have H':=dm H;clear H;have aY:0<=(ab:Int):=jZ;have aZ:ab<(aa.length:Int):=jZ;obtain⟨a4,bI,aM,aN⟩:=mR aX.out ab aY aZ;cases bI;replace aM:=kr HB aM;replace aN:=kr HB aN;replace aY:=eq_true aY;replace aZ:=eq_true aZ
     go_wp2_with (first|((with_reducible refine kF 7 rfl ?_);refine kZ #[.int .i64 0,.int .i64 0] 59 ?_;intro aj hg dl jV hb;have n0:=dm (qa (xE (jX ac.out) aj (Nat.le_of_eq hg.symm)) hb);have n1:=jT af hb;have n2:=jT ag hb;have n3:=jT ah hb;have n4:=kg HB hb;have n5:=dm (jV);have n6:=dm (kC:w.heap.size<=aj);have n7:=dm (kC:w.heap.size<=aj);have n8:=dm (Cz:ap≠aj);have n9:=dm (CB:aj≠ap);have bH:=dm (zT:am≠aj);have b8:=dm (zS:aj≠am);have b9:=dm ((by rw[hg];exact Nat.ne_of_lt (lL (g:=al) (o:=.cells #[.int .i64 ae,ao] 31 (0,0)) (jY ah.out)):al≠aj));have b_:=dm ((by rw[hg];exact Nat.ne_of_gt (lL (g:=al) (o:=.cells #[.int .i64 ae,ao] 31 (0,0)) (jY ah.out)):aj≠al));clear ac af ag ah HB;revert n0 n1 n2 n3 n4 n5 n6 n7 n8 n9 bH b8 b9 b_;intro ac af ag ah HB au ck cl az aT aA aU aC aV;clear hb jV hg;have dE:=aT.out;have dF:=az.out;have dG:=aU.out;have dH:=aA.out;have dI:=aV.out;have dJ:=aC.out;have⟨cE,cF,cG,cH⟩:=ko (w:=dl) au)|((with_reducible refine kT 81 rfl ?_);refine nG 21 rfl Try.func81 (tq.calls (lg cq.out (jU HB.out)) cr.out cw.out) ?_;intro ef hb;replace ac:=dm (qa (Cy) hb);replace af:=dm (nW (g:=ap) (o:=.cells #[.int .i64 ae,.slice (some a4) aa.length av] 31 (0,0)) (rW) hb);replace ag:=dm (nW (g:=am) (o:=.cells #[.int .i64 0,.slice none 0 0] 31 (0,0)) (vH) hb);replace ah:=dm (nW (g:=al) (o:=.cells #[.int .i64 ae,ao] 31 (0,0)) (xV) hb);replace au:=dm (nW (g:=aj) (o:=.cells #[.int .i64 ((jQ aa ab).f0),.int .i64 ((jQ aa ab).f1)] 59 (0,0)) (Cx) hb);replace HB:=kg HB hb;(try clear hb)))
     go_roundg k1
     case measure=>have:=bK.out;omega
     case rel=>exact⟨(wrap64 (ab+1)),(ai),(ao),(by first|rfl|(simp;done)|(simp[*];done)),H',⟨by have:=bK.out;omega⟩,⟨by(with_reducible repeat(first|apply kH|apply kI|apply kw));exact kv ac.out (fun _ hk=>trivial)⟩,⟨jY af.out⟩,⟨jY ag.out⟩,⟨jY ah.out⟩,⟨jU HB.out⟩⟩
    skip
    obtain⟨bO,H⟩:=ni H;have cm:=dm bO;clear bO;obtain⟨bE,a_⟩:∃y_:List (S59),y_=(ai++[(⟨(jQ aa ab).f0,(jQ aa ab).f1⟩:S59)]):=⟨_,rfl⟩;replace H:(oh.l0 k1 l1 aa (aa.length:Int) (wrap64 (ab+1)) ae bE)=some (r1,r2):=lZ a_ H
    have cn:=dm a_;clear a_;have H':=dm H;clear H;have aY:0<=(ab:Int):=jZ;have aZ:ab<(aa.length:Int):=jZ;obtain⟨a4,bI,aM,aN⟩:=mR aX.out ab aY aZ;cases bI;replace aM:=kr HB aM;replace aN:=kr HB aN;replace aY:=eq_true aY;replace aZ:=eq_true aZ
    go_wp2_with (first|((with_reducible refine kF 7 rfl ?_);refine kZ #[.int .i64 0,.int .i64 0] 59 ?_;intro aj hg dn jV hb;have n0:=dm (qa (xE (jX ac.out) aj (Nat.le_of_eq hg.symm)) hb);have n1:=jT af hb;have n2:=jT ag hb;have n3:=jT ah hb;have n4:=kg HB hb;have n5:=dm (jV);have n6:=dm (kC:w.heap.size<=aj);have n7:=dm (kC:w.heap.size<=aj);have n8:=dm (Cz:ap≠aj);have n9:=dm (CB:aj≠ap);have bH:=dm (zT:am≠aj);have b8:=dm (zS:aj≠am);have b9:=dm ((by rw[hg];exact Nat.ne_of_lt (lL (g:=al) (o:=.cells #[.int .i64 ae,ao] 31 (0,0)) (jY ah.out)):al≠aj));have b_:=dm ((by rw[hg];exact Nat.ne_of_gt (lL (g:=al) (o:=.cells #[.int .i64 ae,ao] 31 (0,0)) (jY ah.out)):aj≠al));clear ac af ag ah HB;revert n0 n1 n2 n3 n4 n5 n6 n7 n8 n9 bH b8 b9 b_;intro ac af ag ah HB au ck cl az aT aA aU aC aV;clear hb jV hg;have dK:=aT.out;have dL:=az.out;have dM:=aU.out;have dN:=aA.out;have dO:=aV.out;have dP:=aC.out;have⟨cI,cJ,cL,cM⟩:=ko (w:=dn) au)|((with_reducible refine kT 81 rfl ?_);refine nG 21 rfl Try.func81 (tq.calls (lg cq.out (jU HB.out)) cr.out cw.out) ?_;intro cx hb;replace ac:=dm (qa (Cy) hb);replace af:=dm (nW (g:=ap) (o:=.cells #[.int .i64 ae,.slice (some a4) aa.length av] 31 (0,0)) (rW) hb);replace ag:=dm (nW (g:=am) (o:=.cells #[.int .i64 0,.slice none 0 0] 31 (0,0)) (vH) hb);replace ah:=dm (nW (g:=al) (o:=.cells #[.int .i64 ae,ao] 31 (0,0)) (xV) hb);replace au:=dm (nW (g:=aj) (o:=.cells #[.int .i64 ((jQ aa ab).f0),.int .i64 ((jQ aa ab).f1)] 59 (0,0)) (Cx) hb);replace HB:=kg HB hb;(try clear hb);have dQ:=aQ.out;have dR:=aw.out;have dS:=aR.out;have dT:=ax.out;have⟨cN,cO,cP,cQ⟩:=ko (w:=cx) ah;have⟨cS,cT,cU,cW⟩:=ko (w:=cx) au)|((with_reducible refine oJ (b:=.append) (xs:= #[.tmp 24,.tmp 26]) rfl ?_);at_builtin;refine pE k59 (w0:=w) w.heap.size rfl (.tmp 24) (.tmp 26) 29 59 (.agg #[(.int .i64 0),(.int .i64 0)]) 16 rfl Try.underlying29 qB rfl (by decide) (by omega) ao ai (⟨(jQ aa ab).f0,(jQ aa ab).f1⟩:S59) [.int .i64 ((jQ aa ab).f0),.int .i64 ((jQ aa ab).f1)] (fun k_=>k_≠aj) (fun _=>False) rfl rfl ?aP (fun _ hk=>hk.elim) ?aF ?aO ?aB ?aS ?aL ?_;(case aP=>exact pI _ _ _ (⟨(jQ aa ab).f0,(jQ aa ab).f1⟩:S59));(case aB=>exact(jU HB.out));(case aF=>exact(fun k_ hk=>uQ (g:=aj) (o:=.cells #[.int .i64 ((jQ aa ab).f0),.int .i64 ((jQ aa ab).f1)] 59 (0,0)) (jY au.out) k_ hk));(case aO=>exact(by(with_reducible repeat(first|apply kH|apply kI|apply kw));exact kv ac.out (fun _ hk=>hk.2)));(case aS=>exact(kK (jU HB.out)));(case aL=>have:=cm.out;omega);intro ea dq ho hb hg hat;rw[←cn.out]at ho;have n0:=lY af hg (lU ac.out af.out (by decide));have n1:=lY ag hg (lU ac.out ag.out (by decide));have n2:=lY ah hg (lU ac.out ah.out (by decide));have n3:=lY au hg (uK ac.out (fun _ hk=>hk.2));have n4:=dm (hb);have n5:=dm (ho);clear af ag ah au HB ac;revert n0 n1 n2 n3 n4 n5;intro af ag ah au HB bP;clear ho hb hg hat;obtain⟨ca,cd,cA⟩:=kJ bP.out;subst cA;have⟨cX,cY,cZ,c_⟩:=ko (w:=dq) ah))
    go_roundg k1
    case measure=>have:=bK.out;omega
    case rel=>exact⟨(wrap64 (ab+1)),(bE),(.slice ca bE.length cd),(by first|rfl|(simp;done)|(simp[*];done)),H',⟨by have:=bK.out;omega⟩,⟨by(with_reducible repeat(first|apply kH|apply kI|apply kw));exact kv (kG (p:=⟨al,1,none⟩) (lH bP.out ah.out (by decide)) (fun _ hk=>hk.2) (.slice ca bE.length cd)) (fun _ hk=>trivial)⟩,⟨lG af.out⟩,⟨lG ag.out⟩,⟨lG ah.out⟩,⟨jU HB.out⟩⟩
   simp only [Option.some.injEq,Prod.mk.injEq]at H;obtain⟨rfl,rfl⟩:=H;have dU:=aQ.out;have dV:=aw.out;have dW:=aR.out;have dX:=ax.out;have⟨db,dc,dd,de⟩:=ko (w:=wr) ah;have dY:=bj.out;have dZ:=bh.out;have⟨df,dg,dh,di⟩:=ko (w:=wr) ag;obtain⟨ce,cf,cD⟩:=kJ ac.out;subst cD
   go_wp2;refine bodyPost_ret (results_cell_row rfl _ _ am 31 #[.int .i64 ae,.slice ce ai.length cf] (0,0) _ rfl (lG ag.out) Try.underlying31 rfl (by kernel_rfl)) rfl ?_;exact⟨_,mH,by(with_reducible repeat(first|apply kH|apply kI|apply kw));exact kv (kG (p:=⟨am,1,none⟩) (kG (p:=⟨am,0,none⟩) (lH ac.out ag.out (by decide)) (fun _ hk=>hk.2) (.int .i64 ae)) (fun _ hk=>hk.2) (.slice ce ai.length cf)) (fun _ hk=>trivial),jU HB.out⟩
def tV.f (k:Nat) (ae:Int) (aa:List (S59)) (a1:Int) (a2:Int):Option (Bool):=(lQ.f k ae aa).bind fun ak=>(if 0<=a1 then(if a1<(ak.length:Int) then(if 0<=a2 then(if a2<(ak.length:Int) then(some ((rd ak a1)==(rd ak a2))) else(none)) else(none)) else(none)) else(none))
theorem tV.calls {k:Nat}{ae:Int}{aD:Option Addr}{av:Nat}{aa:List (S59)}{a1:Int}{a2:Int}{r:Bool}{w:World}(a6:Kd.C k59 w aD aa.length aa)(a7:aa.length<=av)(h:tV.f k ae aa a1 a2=some r):
  Calls Try.prog 99 #[.agg #[.int .i64 ae,.slice aD aa.length av],.int .i64 a1,.int .i64 a2] w fun e w'=>e=.returned (.bool r)/\Below w.heap.size w w':=by
 have cz:=Try.underlying31;have aX:=dm a6;have bl:=dm a7;clear a6 a7;have HB:=dm (Below.refl w.heap.size w);unfold tV.f at h;have H:=h;clear h;obtain⟨ak,A4,H⟩:=kS H;(try dsimp only at H)
 obtain⟨eb,H⟩:=lv H
 obtain⟨ec,H⟩:=lv H
 obtain⟨ed,H⟩:=lv H
 obtain⟨ee,H⟩:=lv H;obtain rfl:=Option.some.inj H
 go_enter Try.func99,Try.ntmps99
 go_wp2_with (first|((with_reducible refine kF 3 rfl ?_);refine kZ #[.int .i64 ae,.slice aD aa.length av] 31 ?_;intro aK hg w9 jV hb;have aq:=dm (jV);have bQ:=dm (kC:w.heap.size<=aK);have bR:=dm (kC:w.heap.size<=aK);replace HB:=kg HB hb;clear hb jV hg;have⟨bu,bv,bx,bz⟩:=ko (w:=w9) aq)|(go_at_call 98;refine(lQ.calls (kz (lg aX.out HB.out)) bl.out A4.out).mono ?_;rintro e cy ⟨cg,rfl,bk,hb⟩;have ay:=dm (kR bk (kK (jU HB.out)));replace aq:=jT aq hb;replace HB:=kg HB hb;(try clear hb bk);obtain⟨ch,ci,bo⟩:=kJ ay.out;subst bo;have aE:0<=(a1:Int):=jZ;have aG:a1<(ak.length:Int):=jZ;obtain⟨ba,bp,bA⟩:=lI (ku ay.out).2.2 a1 aE aG;cases bp;replace aE:=eq_true aE;replace aG:=eq_true aG;have aH:0<=(a2:Int):=jZ;have aI:a2<(ak.length:Int):=jZ;obtain⟨bd,bq,bB⟩:=lI (ku ay.out).2.2 a2 aH aI;obtain rfl:ba=bd:=(by injection bq);replace aH:=eq_true aH;replace aI:=eq_true aI))
 repeat(go_quiet (first|((with_reducible refine kF 3 rfl ?_);refine kZ #[.int .i64 ae,.slice aD aa.length av] 31 ?_;intro aK hg w9 jV hb;have aq:=dm (jV);have bQ:=dm (kC:w.heap.size<=aK);have bR:=dm (kC:w.heap.size<=aK);replace HB:=kg HB hb;clear hb jV hg;have⟨bu,bv,bx,bz⟩:=ko (w:=w9) aq)|(go_at_call 98;(with_reducible refine(lQ.calls ?mV ?mZ A4.out).mono ?_);(case mV=>exact kz (lg aX.out HB.out));(case mZ=>exact bl.out);rintro e cy ⟨cg,rfl,bk,hb⟩;have ay:=dm (kR bk (kK (jU HB.out)));replace aq:=jT aq hb;replace HB:=kg HB hb;(try clear hb bk);obtain⟨ch,ci,bo⟩:=kJ ay.out;subst bo;have aE:0<=(a1:Int):=jZ;have aG:a1<(ak.length:Int):=jZ;obtain⟨ba,bp,bA⟩:=lI (ku ay.out).2.2 a1 aE aG;cases bp;replace aE:=eq_true aE;replace aG:=eq_true aG;have aH:0<=(a2:Int):=jZ;have aI:a2<(ak.length:Int):=jZ;obtain⟨bd,bq,bB⟩:=lI (ku ay.out).2.2 a2 aH aI;obtain rfl:ba=bd:=(by injection bq);replace aH:=eq_true aH;replace aI:=eq_true aI));try go_wp2_with (first|((with_reducible refine kF 3 rfl ?_);refine kZ #[.int .i64 ae,.slice aD aa.length av] 31 ?_;intro aK hg w9 jV hb;have aq:=dm (jV);have bQ:=dm (kC:w.heap.size<=aK);have bR:=dm (kC:w.heap.size<=aK);replace HB:=kg HB hb;clear hb jV hg;have⟨bu,bv,bx,bz⟩:=ko (w:=w9) aq)|(go_at_call 98;(with_reducible refine(lQ.calls ?mV ?mZ A4.out).mono ?_);(case mV=>exact kz (lg aX.out HB.out));(case mZ=>exact bl.out);rintro e cy ⟨cg,rfl,bk,hb⟩;have ay:=dm (kR bk (kK (jU HB.out)));replace aq:=jT aq hb;replace HB:=kg HB hb;(try clear hb bk);obtain⟨ch,ci,bo⟩:=kJ ay.out;subst bo;have aE:0<=(a1:Int):=jZ;have aG:a1<(ak.length:Int):=jZ;obtain⟨ba,bp,bA⟩:=lI (ku ay.out).2.2 a1 aE aG;cases bp;replace aE:=eq_true aE;replace aG:=eq_true aG;have aH:0<=(a2:Int):=jZ;have aI:a2<(ak.length:Int):=jZ;obtain⟨bd,bq,bB⟩:=lI (ku ay.out).2.2 a2 aH aI;obtain rfl:ba=bd:=(by injection bq);replace aH:=eq_true aH;replace aI:=eq_true aI)))
 go_ret
 exact⟨mH,jU HB.out⟩
theorem vI(h:p:=by exact lG ae.out):p:=h
theorem CG(h:p:=by(with_reducible repeat(first|apply kH|apply kI|apply kw));exact kv (kG (p:=⟨af,1,none⟩) (kG (p:=⟨af,0,none⟩) (kv ah.out (fun k_ hk=>(⟨hk,hk.2⟩:_/\k_≠af))) (fun _ hk=>hk.2) (.int .i64 ((jQ aa ab).f0))) (fun _ hk=>hk.2) (.int .i64 ((jQ aa ab).f1))) (fun _ hk=>hk.1.2)):p:=h
theorem CJ(h:p:=by rw[hg];exact Nat.ne_of_lt (lL (g:=ap) (o:=.cells #[.int .i64 ai,.slice (some aA) aa.length au] 31 (0,0)) (jY ac.out))):p:=h
theorem Ct(h:p:=by rw[hg];exact Nat.ne_of_gt (lL (g:=ap) (o:=.cells #[.int .i64 ai,.slice (some aA) aa.length au] 31 (0,0)) (jY ac.out))):p:=h
theorem zU(h:p:=by first|rfl|(simp;done)|(simp only [←bT,←bU]<;> (first|rfl|simp))|(simp[*];done)):p:=h
def nR.l0:Nat->List (S59)->List (S59)->Int->Int->Int->List (S59)->Option ((List (S59)))
 |0,_,_,_,_,_,_=>none
 |k+1,x3,x8,x9,aM,bv,bx=>if aM<x9 then(if 0<=aM then(if aM<(x8.length:Int) then((oh.f k bv bx (([(⟨(jQ x8 aM).f0,(jQ x8 aM).f1⟩:S59)]:List (S59)))).bind fun bk=>((tV.f k bk.1 bk.2 ((jQ x8 aM).f0) ((jQ x8 aM).f1)).bind fun aU=>(if aU=true then(nR.l0 k x3 x8 x9 (wrap64 (aM+1)) bv bx) else(if x3.length<8796093022208 then(nR.l0 k (x3++[(⟨(jQ x8 aM).f0,(jQ x8 aM).f1⟩:S59)]) x8 x9 (wrap64 (aM+1)) bv bx) else(none))))) else(none)) else(none)) else(some x3)
def nR.f (k:Nat) (ai:Int) (aa:List (S59)):Option ((List (S59))):=nR.l0 k (([]:List (S59))) aa (aa.length:Int) 0 ai aa
def nR.T5:Bool×List (List Nat×List Nat):=(true,[([],[]),([],[]),([1],[1]),([0,2],[0,2]),([],[]),([4],[4]),([],[]),([6],[6]),([3,5,7,3],[3,5,7]),([8],[8])])
def nR.B5:List Nat:=[0,0,2,7,0,16,0,64,255,511]
theorem nR.xu:mI .any (opsOf Try.f64 5)=nR.T5:=by kernel_rfl
theorem nR.wG:nP nR.T5.2 nR.B5=true:=by kernel_rfl
theorem nR.calls {k:Nat}{ai:Int}{aN:Option Addr}{au:Nat}{aa:List (S59)}{r:List (S59)}{w:World}(bl:Kd.C k59 w aN aa.length aa)(bm:aa.length<=au)(h:nR.f k ai aa=some r):
  Calls Try.prog 64 #[.agg #[.int .i64 ai,.slice aN aa.length au]] w fun e w'=>∃cO:Value,e=.returned (cO)/\Kd.R k59 59 w' w.heap.size (fun _=>True) cO r/\Below w.heap.size w w':=by
 have cQ:=Try.underlying31;have dH:=Try.underlying59;have a6:=dm bl;have bD:=dm bm;clear bl bm;have HB:=dm (Below.refl w.heap.size w);unfold nR.f at h;have H:=h;clear h;obtain⟨co,bn⟩:∃y_:List (S59),y_=(([]:List (S59))):=⟨_,rfl⟩;replace H:(nR.l0 k co aa (aa.length:Int) 0 ai aa)=some r:=lZ bn H
 have cf:=dm bn;clear bn;have H':=dm H;clear H
 go_enter Try.func64,Try.ntmps64
 go_wp2_with (first|((with_reducible refine kF 1 rfl ?_);refine kZ #[.int .i64 ai,.slice aN aa.length au] 31 ?_;intro ap hg w2 jV hb;have ac:=dm (jV);have dx:=dm (kC:w.heap.size<=ap);have dy:=dm (kC:w.heap.size<=ap);replace HB:=kg HB hb;clear hb jV hg)|((with_reducible refine kF 6 rfl ?_);refine oL k59 rfl 59 ([]:List (S59)) [] (kN.none _ _) ?_;intro dI w3 bZ hb hg_ lq;clear hg_ lq;(first|rw[←cf.out]at bZ|(simp only [Int.reduceToNat]at bZ;rw[←cf.out]at bZ));have cF:=dm (kR bZ (kK (jU HB.out)));replace ac:=jT ac hb;replace HB:=kg HB hb;clear hb bZ;have⟨cp,cq,cr,ct⟩:=ko (w:=w3) ac))
 go_loopg [3,10] k (fun kq v3 dr w'=>∃ (am:List (S59)) (ab:Int),dr=.int .i64 ab/\jP (nR.l0 kq am aa (aa.length:Int) ab ai aa=some r)/\jP (kq<=k)/\jP (Kd.R k59 59 w' w.heap.size (fun _=>True) v3 am)/\jP (w'.heap[ap]? =some (.cells #[.int .i64 ai,(.slice aN aa.length au)] 31 (0,0)))/\jP (Below w.heap.size w w'))
 case atStart=>exact⟨(co),(0),(kD),H',⟨Nat.le_refl _⟩,⟨jX cF.out⟩,⟨jY ac.out⟩,⟨jU HB.out⟩⟩
 case round=>
  clear H';(try clear cp cq cr ct);obtain⟨am,ab,rfl,HA,a7,ah,ac,HB⟩:=hrel;cases gk with
  |zero=>exact absurd HA.out (by simp[nR.l0])
  |succ k1=>
   have H:=HA.out;clear HA;simp only [nR.l0]at H
   replace H:=mh H;rcases H with⟨bG,H⟩|⟨bG,H⟩
   ·skip
    obtain⟨cu,H⟩:=lv H
    obtain⟨cS,H⟩:=lv H;obtain⟨a8,bo⟩:∃y_:List (S59),y_=(([(⟨(jQ aa ab).f0,(jQ aa ab).f1⟩:S59)]:List (S59))):=⟨_,rfl⟩;replace H:((oh.f k1 ai aa a8).bind fun bk=>((tV.f k1 bk.1 bk.2 ((jQ aa ab).f0) ((jQ aa ab).f1)).bind fun aU=>(if aU=true then(nR.l0 k1 am aa (aa.length:Int) (wrap64 (ab+1)) ai aa) else(if am.length<8796093022208 then(nR.l0 k1 (am++[(⟨(jQ aa ab).f0,(jQ aa ab).f1⟩:S59)]) aa (aa.length:Int) (wrap64 (ab+1)) ai aa) else(none)))))=some r:=lZ bo H
    have bE:=dm bo;clear bo;obtain⟨⟨a9,aT⟩,A9,H⟩:=kS H;(try dsimp only at H);obtain⟨aU,cP,H⟩:=kS H;(try dsimp only at H)
    rcases mr H with⟨h_,H_⟩|⟨h_,H_⟩<;> (subst h_;clear H;have H:=H_;clear H_)
    ·have H':=dm H;clear H;have a_:0<=(ab:Int):=jZ;have ba:ab<(aa.length:Int):=jZ;obtain⟨aA,b4,aQ,aR⟩:=mR a6.out ab a_ ba;cases b4;replace aQ:=kr HB aQ;replace aR:=kr HB aR;replace a_:=eq_true a_;replace ba:=eq_true ba;try go_wp2_with (first|((with_reducible refine kF 5 rfl ?_);refine kZ #[.int .i64 0,.int .i64 0] 59 ?_;intro af hg bO jV hb;replace ah:=dm (qa (xE (jX ah.out) af (Nat.le_of_eq hg.symm)) hb);have ae:=dm (jV);have cG:=dm (kC:w.heap.size<=af);have cH:=dm (kC:w.heap.size<=af);replace HB:=kg HB hb;have aw:=dm (CJ:ap≠af);have aW:=dm (Ct:af≠ap);replace ac:=jT ac hb;clear hb jV hg;have dz:=aW.out;have dA:=aw.out;have⟨dc,dd,de,df⟩:=ko (w:=bO) ae))
     have n0:jP (Kd.R k59 59 ((bO.setCell ⟨af,0,none⟩ (.int .i64 ((jQ aa ab).f0))).setCell ⟨af,1,none⟩ (.int .i64 ((jQ aa ab).f1))) w.heap.size (fun k_=>k_≠af) u3 am):=⟨CG⟩;have n1:jP (((bO.setCell ⟨af,0,none⟩ (.int .i64 ((jQ aa ab).f0))).setCell ⟨af,1,none⟩ (.int .i64 ((jQ aa ab).f1))).heap[ap]? =some (.cells #[.int .i64 ai,.slice (some aA) aa.length au] 31 (0,0))):=⟨nX⟩;have n2:jP (((bO.setCell ⟨af,0,none⟩ (.int .i64 ((jQ aa ab).f0))).setCell ⟨af,1,none⟩ (.int .i64 ((jQ aa ab).f1))).heap[af]? =some (.cells #[.int .i64 ((jQ aa ab).f0),.int .i64 ((jQ aa ab).f1)] 59 (0,0))):=⟨vI⟩;have n3:jP (Below w.heap.size w ((bO.setCell ⟨af,0,none⟩ (.int .i64 ((jQ aa ab).f0))).setCell ⟨af,1,none⟩ (.int .i64 ((jQ aa ab).f1)))):=⟨jU HB.out⟩;(try clear ah ac ae HB);generalize((bO.setCell ⟨af,0,none⟩ (.int .i64 ((jQ aa ab).f0))).setCell ⟨af,1,none⟩ (.int .i64 ((jQ aa ab).f1)))=dt at n0 n1 n2 n3⊢;revert n0 n1 n2 n3;intro ah ac ae HB;replace ah:=dm (kw ah.out);replace ac:=dm (kP ac.out);replace ae:=dm (kP ae.out);replace HB:=dm (l8 HB.out);refine nu 10 (S:=fun w'=>w'.cell? ⟨ap,0,none⟩=some (.int .i64 ai)/\w'.cell? ⟨ap,1,none⟩=some (.slice (some aA) aa.length au)/\w'.cell? ⟨af,0,none⟩=some (.int .i64 ((jQ aa ab).f0))/\w'.cell? ⟨af,1,none⟩=some (.int .i64 ((jQ aa ab).f1))) [] ⟨jR ac 0,jR ac 1,jR ae 0,jR ae 1⟩ nR.xu nR.wG (fun hHeld HT_ HW_=>?_);generalize dt.drew=dK at ah ac ae HB hHeld⊢;refine jS 4 18 16 ?_;refine jS 6 20 80 ?_;refine kL 0 14 81 ?_;refine kL 1 15 83 ?_;refine kL 5 19 115 ?_;refine kL 7 21 243 ?_;refine lu 2 16 247 (fun K hK=>?_);refine rC k59 _ 59 ?hg (N:=16) ?hd (xs:=([(⟨(jQ aa ab).f0,(jQ aa ab).f1⟩:S59)]:List (S59))) (inner:=[.int .i64 ((jQ aa ab).f0),.int .i64 ((jQ aa ab).f1)]) (ok:=fun _=>True) (okp:=fun _=>True) ?hr ?hp (fun _ hk=>hk) trivial (Below.refl _ _) (Nat.le_refl _) (by simp) ?_;(case hd=>rfl);(case hg=>rfl);(case hr=>first|(go_simp;done)|(go_simp;rfl));(case hp=>exact(kN.c2 (show Kd.M k59 _ _ _ (⟨(jQ aa ab).f0,(jQ aa ab).f1⟩:S59) [.int .i64 ((jQ aa ab).f0),.int .i64 ((jQ aa ab).f1)] from(pI _ _ _ (⟨(jQ aa ab).f0,(jQ aa ab).f1⟩:S59))) (kN.none _ _)));intro cT dL bz hb hg_ lq;clear hg_ lq;(first|rw[←bE.out]at bz|(simp only [Int.reduceToNat]at bz;rw[←bE.out]at bz));have aj:=dm (kR (xG (lF bz (kW (jX ah.out))) (g:=af) (o:=.cells #[.int .i64 ((jQ aa ab).f0),.int .i64 ((jQ aa ab).f1)] 59 (0,0)) (jY ae.out)) (kK (jU HB.out)));replace ah:=lT ah bz hb;replace ac:=jT ac hb;replace ae:=jT ae hb;replace HB:=kg HB hb;clear hb bz;obtain⟨cU,cW,cv⟩:=kJ aj.out;(first|subst cv|(injection cv with aX bH aY;have bI:=aX.symm;have bJ:=aY.symm;clear aX bH aY;subst bI;subst bJ));refine hK.out _ _ ⟨jR ac 0,jR ac 1,jR ae 0,jR ae 1⟩ (fun hHeld=>?_);clear hK K;refine kM 16 ?_;refine lu 3 17 255 (fun K hK=>?_);refine mg Try.func66 (oh.calls (kz (lg a6.out HB.out)) bD.out (kz (ku aj.out).2.2) ((ku aj.out).2.1) A9.out) ?_;rintro e dM ⟨cX,rfl,bp,hb⟩;refine⟨_,rfl,?_⟩;have al:=dm (kR (xG (lF (lF bp (kW (jX ah.out))) (kW (jX aj.out))) (g:=af) (o:=.cells #[.int .i64 ((jQ aa ab).f0),.int .i64 ((jQ aa ab).f1)] 59 (0,0)) (jY ae.out)) (kK (jU HB.out)));replace ah:=lT ah bp hb;replace aj:=lT aj bp hb;replace ac:=jT ac hb;replace ae:=jT ae hb;replace HB:=kg HB hb;(try clear hb hk bp);obtain⟨cY,cZ,cw⟩:=kJ al.out;(first|subst cw|(injection cw with aX bH aY;have bI:=aX.symm;have bJ:=aY.symm;clear aX bH aY;subst bI;subst bJ));refine hK.out _ _ ⟨jR ac 0,jR ac 1,jR ae 0,jR ae 1⟩ (fun hHeld=>?_);clear hK K;refine kM 17 ?_;refine lu 8 22 511 (fun K hK=>?_);refine rO Try.func99 (tV.calls (kz (ku al.out).2.2) ((ku al.out).2.1) cP.out) ?_;intro dN hb;replace ah:=kE ah hb;replace aj:=kE aj hb;replace al:=kE al hb;replace ac:=jT ac hb;replace ae:=jT ae hb;replace HB:=kg HB hb;(try clear hb);refine hK.out _ _ ⟨jR ac 0,jR ac 1,jR ae 0,jR ae 1⟩ (fun hHeld=>?_);clear hK K;refine kM 22 ?_;refine jS 9 23 1023 ?_;refine mG (mU HT_.out (kX)) ?_;try go_wp2
     go_roundg k1
     case measure=>have:=a7.out;omega
     case rel=>exact⟨(am),(wrap64 (ab+1)),(kD),H',⟨by have:=a7.out;omega⟩,⟨by(with_reducible repeat(first|apply kH|apply kI|apply kw));exact kv ah.out (fun _ hk=>trivial)⟩,⟨jY ac.out⟩,⟨jU HB.out⟩⟩
    skip
    obtain⟨ch,H⟩:=ni H;have cI:=dm ch;clear ch;obtain⟨cx,bq⟩:∃y_:List (S59),y_=(am++[(⟨(jQ aa ab).f0,(jQ aa ab).f1⟩:S59)]):=⟨_,rfl⟩;replace H:(nR.l0 k1 cx aa (aa.length:Int) (wrap64 (ab+1)) ai aa)=some r:=lZ bq H
    have cJ:=dm bq;clear bq;have H':=dm H;clear H;have a_:0<=(ab:Int):=jZ;have ba:ab<(aa.length:Int):=jZ;obtain⟨aA,b4,aQ,aR⟩:=mR a6.out ab a_ ba;cases b4;replace aQ:=kr HB aQ;replace aR:=kr HB aR;replace a_:=eq_true a_;replace ba:=eq_true ba;try go_wp2_with (first|((with_reducible refine kF 5 rfl ?_);refine kZ #[.int .i64 0,.int .i64 0] 59 ?_;intro af hg bP jV hb;replace ah:=dm (qa (xE (jX ah.out) af (Nat.le_of_eq hg.symm)) hb);have ae:=dm (jV);have cG:=dm (kC:w.heap.size<=af);have cH:=dm (kC:w.heap.size<=af);replace HB:=kg HB hb;have aw:=dm (CJ:ap≠af);have aW:=dm (Ct:af≠ap);replace ac:=jT ac hb;clear hb jV hg;have dB:=aW.out;have dC:=aw.out;have⟨dg,dh,di,dj⟩:=ko (w:=bP) ae))
    have n0:jP (Kd.R k59 59 ((bP.setCell ⟨af,0,none⟩ (.int .i64 ((jQ aa ab).f0))).setCell ⟨af,1,none⟩ (.int .i64 ((jQ aa ab).f1))) w.heap.size (fun k_=>k_≠af) u3 am):=⟨CG⟩;have n1:jP (((bP.setCell ⟨af,0,none⟩ (.int .i64 ((jQ aa ab).f0))).setCell ⟨af,1,none⟩ (.int .i64 ((jQ aa ab).f1))).heap[ap]? =some (.cells #[.int .i64 ai,.slice (some aA) aa.length au] 31 (0,0))):=⟨nX⟩;have n2:jP (((bP.setCell ⟨af,0,none⟩ (.int .i64 ((jQ aa ab).f0))).setCell ⟨af,1,none⟩ (.int .i64 ((jQ aa ab).f1))).heap[af]? =some (.cells #[.int .i64 ((jQ aa ab).f0),.int .i64 ((jQ aa ab).f1)] 59 (0,0))):=⟨vI⟩;have n3:jP (Below w.heap.size w ((bP.setCell ⟨af,0,none⟩ (.int .i64 ((jQ aa ab).f0))).setCell ⟨af,1,none⟩ (.int .i64 ((jQ aa ab).f1)))):=⟨jU HB.out⟩;(try clear ah ac ae HB);generalize((bP.setCell ⟨af,0,none⟩ (.int .i64 ((jQ aa ab).f0))).setCell ⟨af,1,none⟩ (.int .i64 ((jQ aa ab).f1)))=du at n0 n1 n2 n3⊢;revert n0 n1 n2 n3;intro ah ac ae HB;replace ah:=dm (kw ah.out);replace ac:=dm (kP ac.out);replace ae:=dm (kP ae.out);replace HB:=dm (l8 HB.out);refine nu 10 (S:=fun w'=>w'.cell? ⟨ap,0,none⟩=some (.int .i64 ai)/\w'.cell? ⟨ap,1,none⟩=some (.slice (some aA) aa.length au)/\w'.cell? ⟨af,0,none⟩=some (.int .i64 ((jQ aa ab).f0))/\w'.cell? ⟨af,1,none⟩=some (.int .i64 ((jQ aa ab).f1))) [] ⟨jR ac 0,jR ac 1,jR ae 0,jR ae 1⟩ nR.xu nR.wG (fun hHeld HT_ HW_=>?_);generalize du.drew=dO at ah ac ae HB hHeld⊢;refine jS 4 18 16 ?_;refine jS 6 20 80 ?_;refine kL 0 14 81 ?_;refine kL 1 15 83 ?_;refine kL 5 19 115 ?_;refine kL 7 21 243 ?_;refine lu 2 16 247 (fun K hK=>?_);refine rC k59 _ 59 ?hg (N:=16) ?hd (xs:=([(⟨(jQ aa ab).f0,(jQ aa ab).f1⟩:S59)]:List (S59))) (inner:=[.int .i64 ((jQ aa ab).f0),.int .i64 ((jQ aa ab).f1)]) (ok:=fun _=>True) (okp:=fun _=>True) ?hr ?hp (fun _ hk=>hk) trivial (Below.refl _ _) (Nat.le_refl _) (by simp) ?_;(case hd=>rfl);(case hg=>rfl);(case hr=>first|(go_simp;done)|(go_simp;rfl));(case hp=>exact(kN.c2 (show Kd.M k59 _ _ _ (⟨(jQ aa ab).f0,(jQ aa ab).f1⟩:S59) [.int .i64 ((jQ aa ab).f0),.int .i64 ((jQ aa ab).f1)] from(pI _ _ _ (⟨(jQ aa ab).f0,(jQ aa ab).f1⟩:S59))) (kN.none _ _)));intro cT dP bA hb hg_ lq;clear hg_ lq;(first|rw[←bE.out]at bA|(simp only [Int.reduceToNat]at bA;rw[←bE.out]at bA));have aj:=dm (kR (xG (lF bA (kW (jX ah.out))) (g:=af) (o:=.cells #[.int .i64 ((jQ aa ab).f0),.int .i64 ((jQ aa ab).f1)] 59 (0,0)) (jY ae.out)) (kK (jU HB.out)));replace ah:=lT ah bA hb;replace ac:=jT ac hb;replace ae:=jT ae hb;replace HB:=kg HB hb;clear hb bA;obtain⟨b5,b6,cy⟩:=kJ aj.out;(first|subst cy|(injection cy with aX bH aY;have bI:=aX.symm;have bJ:=aY.symm;clear aX bH aY;subst bI;subst bJ));refine hK.out _ _ ⟨jR ac 0,jR ac 1,jR ae 0,jR ae 1⟩ (fun hHeld=>?_);clear hK K;refine kM 16 ?_;refine lu 3 17 255 (fun K hK=>?_);refine mg Try.func66 (oh.calls (kz (lg a6.out HB.out)) bD.out (kz (ku aj.out).2.2) ((ku aj.out).2.1) A9.out) ?_;rintro e dQ ⟨cX,rfl,bp,hb⟩;refine⟨_,rfl,?_⟩;have al:=dm (kR (xG (lF (lF bp (kW (jX ah.out))) (kW (jX aj.out))) (g:=af) (o:=.cells #[.int .i64 ((jQ aa ab).f0),.int .i64 ((jQ aa ab).f1)] 59 (0,0)) (jY ae.out)) (kK (jU HB.out)));replace ah:=lT ah bp hb;replace aj:=lT aj bp hb;replace ac:=jT ac hb;replace ae:=jT ae hb;replace HB:=kg HB hb;(try clear hb hk bp);obtain⟨b7,b8,cz⟩:=kJ al.out;(first|subst cz|(injection cz with aX bH aY;have bI:=aX.symm;have bJ:=aY.symm;clear aX bH aY;subst bI;subst bJ));refine hK.out _ _ ⟨jR ac 0,jR ac 1,jR ae 0,jR ae 1⟩ (fun hHeld=>?_);clear hK K;refine kM 17 ?_;refine lu 8 22 511 (fun K hK=>?_);refine rO Try.func99 (tV.calls (kz (ku al.out).2.2) ((ku al.out).2.1) cP.out) ?_;intro dv hb;replace ah:=kE ah hb;replace aj:=kE aj hb;replace al:=kE al hb;replace ac:=jT ac hb;replace ae:=jT ae hb;replace HB:=kg HB hb;(try clear hb);refine hK.out _ _ ⟨jR ac 0,jR ac 1,jR ae 0,jR ae 1⟩ (fun hHeld=>?_);clear hK K;refine kM 22 ?_;refine jS 9 23 1023 ?_;refine mG (mU HT_.out (kX)) ?_;have⟨dk,dl,dn,dq⟩:=ko (w:=dv) ae;try go_wp2_with (first|((with_reducible refine oJ (b:=.append) (xs:= #[.tmp 24,.tmp 26]) rfl ?_);at_builtin;refine pE k59 (w0:=w) w.heap.size rfl (.tmp 24) (.tmp 26) 29 59 (.agg #[(.int .i64 0),(.int .i64 0)]) 16 rfl Try.underlying29 qB rfl (by decide) (by omega) u3 am (⟨(jQ aa ab).f0,(jQ aa ab).f1⟩:S59) [.int .i64 ((jQ aa ab).f0),.int .i64 ((jQ aa ab).f1)] (fun k_=>some k_≠(.slice b5 a8.length b6:Value).ownBlock/\some k_≠(.slice b7 aT.length b8:Value).ownBlock/\k_≠af) (fun _=>False) rfl rfl ?aP (fun _ hk=>hk.elim) ?aF ?aO ?aB ?aS ?aL ?_;(case aP=>exact pI _ _ _ (⟨(jQ aa ab).f0,(jQ aa ab).f1⟩:S59));(case aB=>exact(jU HB.out));(case aF=>exact(fun k_ hk=>⟨Kd.fresh' (kW (jX aj.out)) k_ hk,Kd.fresh' (kW (jX al.out)) k_ hk,uQ (g:=af) (o:=.cells #[.int .i64 ((jQ aa ab).f0),.int .i64 ((jQ aa ab).f1)] 59 (0,0)) (jY ae.out) k_ hk⟩));(case aO=>exact(by(with_reducible repeat(first|apply kH|apply kI|apply kw));exact kv ah.out (fun _ hk=>⟨hk.1.2,⟨hk.2,hk.1.1⟩⟩)));(case aS=>exact(kK (jU HB.out)));(case aL=>have:=cI.out;omega);intro dJ dR ho hb hg hat;rw[←cJ.out]at ho;have n0:=lY ac hg (lU ah.out ac.out (by decide));have n1:=lY ae hg (uK ah.out (fun _ hk=>hk.1.1));have n2:=dm (oG (ok:=(fun k_=>some k_≠(.slice b7 aT.length b8:Value).ownBlock/\k_≠af)) (by(with_reducible repeat(first|apply kH|apply kI|apply kw));exact kv aj.out (fun _ hk=>⟨⟨hk.2,hk.1.2⟩,hk.1.1.2⟩)) hg hat);have n3:=dm (oG (ok:=(fun k_=>some k_≠(.slice b5 a8.length b6:Value).ownBlock/\k_≠af)) (by(with_reducible repeat(first|apply kH|apply kI|apply kw));exact kv al.out (fun _ hk=>⟨⟨hk.1.2,hk.2⟩,hk.1.1.2⟩)) hg hat);have n4:=dm (hb);have n5:=dm (ho);clear ac ae aj al HB ah;revert n0 n1 n2 n3 n4 n5;intro ac ae aj al HB cL;clear ho hb hg hat))
    go_roundg k1
    case measure=>have:=a7.out;omega
    case rel=>exact⟨(cx),(wrap64 (ab+1)),(kD),H',⟨by have:=a7.out;omega⟩,⟨by(with_reducible repeat(first|apply kH|apply kI|apply kw));exact kv cL.out (fun _ hk=>trivial)⟩,⟨jY ac.out⟩,⟨jU HB.out⟩⟩
   obtain rfl:=Option.some.inj H
   go_wp2
   go_ret
   exact⟨_,mH,jX ah.out,jU HB.out⟩
def sH.f (k:Nat) (ai:Int) (aa:List (S59)) (a1:Int) (a2:Int):Option (Bool):=(rE.f a1 a2).bind fun br=>((tq.f k aa br.1 br.2).bind fun aZ=>(some aZ))
theorem sH.calls {k:Nat}{ai:Int}{aN:Option Addr}{au:Nat}{aa:List (S59)}{a1:Int}{a2:Int}{r:Bool}{w:World}(bl:Kd.C k59 w aN aa.length aa)(bm:aa.length<=au)(h:sH.f k ai aa a1 a2=some r):
  Calls Try.prog 65 #[.agg #[.int .i64 ai,.slice aN aa.length au],.int .i64 a1,.int .i64 a2] w fun e w'=>e=.returned (.bool r)/\Below w.heap.size w w':=by
 have cQ:=Try.underlying31;have a6:=dm bl;have bD:=dm bm;clear bl bm;have HB:=dm (Below.refl w.heap.size w);unfold sH.f at h;have H:=h;clear h;obtain⟨⟨bV,bW⟩,A4,H⟩:=kS H;(try dsimp only at H);obtain⟨aZ,A5,H⟩:=kS H;(try dsimp only at H);obtain rfl:=Option.some.inj H
 go_enter Try.func65,Try.ntmps65;try go_wp2_with (first|((with_reducible refine kF 3 rfl ?_);refine kZ #[.int .i64 ai,.slice aN aa.length au] 31 ?_;intro bF hg w6 jV hb;have ao:=dm (jV);have dD:=dm (kC:w.heap.size<=bF);have dE:=dm (kC:w.heap.size<=bF);replace HB:=kg HB hb;clear hb jV hg))
 replace ao:=dm (kP ao.out);replace HB:=dm (l8 HB.out);refine ww (n:=7) (S:=fun w'=>w'.cell? ⟨bF,0,none⟩=some (.int .i64 ai)/\w'.cell? ⟨bF,1,none⟩=some (.slice aN aa.length au)) (ds:=[]) (lm 7 0) (kX) rfl (kX) ⟨jR ao 0,jR ao 1⟩ (fun hHeld=>?_);generalize w6.drew=w7 at ao HB hHeld⊢;refine jS 0 7 1 ?_;refine jS 2 9 5 ?_;refine jS 3 10 13 ?_;refine kL 1 8 15 ?_;refine ry (i:=4) (N:=some 11) (lm 7 31) rfl rfl (kX) (by decide) (fun K hK=>?_);refine rO Try.func53 (rE.calls A4.out) ?_;intro w8 hb;replace ao:=jT ao hb;replace HB:=kg HB hb;(try clear hb);refine hK.out _ _ ⟨jR ao 0,jR ao 1⟩ (fun hHeld=>?_);clear hK K;refine kM 11 ?_;refine ry (i:=5) (N:=some 12) (lm 7 63) rfl rfl (kX) (by decide) (fun K hK=>?_);refine rO Try.func81 (tq.calls (kz (lg a6.out HB.out)) bD.out A5.out) ?_;intro w9 hb;replace ao:=jT ao hb;replace HB:=kg HB hb;(try clear hb);refine hK.out _ _ ⟨jR ao 0,jR ao 1⟩ (fun hHeld=>?_);clear hK K;refine kM 12 ?_;refine jS 6 6 127 ?_;refine mG (kX) ?_;try go_wp2
 go_ret
 exact⟨mH,jU HB.out⟩
def qW.l0:Nat->List Int->Int->Int->Int->Option (Int)
 |0,_,_,_,_=>none
 |k+1,x0,x1,x7,x8=>if x8<x7 then(if 0<=x8 then(if x8<(x0.length:Int) then(if x1=(rd x0 x8) then(some x8) else(qW.l0 k x0 x1 x7 (wrap64 (x8+1)))) else(none)) else(none)) else(some (-1))
def qW.f (k:Nat) (l0:List Int) (a1:Int):Option (Int):=qW.l0 k l0 a1 (l0.length:Int) 0
theorem qW.calls {k:Nat}{A0:Option Addr}{c0:Nat}{l0:List Int}{a1:Int}{r:Int}{w:World}(a4:Kd.C (Kd.int .i64) w A0 l0.length l0)(a5:l0.length<=c0)(h:qW.f k l0 a1=some r):
  Calls Try.prog 114 #[.slice A0 l0.length c0,.int .i64 a1] w fun e w'=>e=.returned (.int .i64 r)/\lh w w':=by
 have aC:=dm a4;have bK:=dm a5;clear a4 a5;unfold qW.f at h;have H:=h;clear h;have H':=dm H;clear H
 go_enter Try.func114,Try.ntmps114
 go_wp2
 go_loopg [8] k (fun kq v8 w'=>∃ (ak:Int),v8=.int .i64 ak/\jP (qW.l0 kq l0 a1 (l0.length:Int) ak=some r)/\jP (kq<=k)/\lh w w')
 case atStart=>exact⟨(0),(kD),H',⟨Nat.le_refl _⟩,by repeat(first|exact lh.refl _|apply lh.step)⟩
 case round=>
  clear H';obtain⟨ak,rfl,HA,a7,⟨m1,rfl⟩⟩:=hrel;cases gk with
  |zero=>exact absurd HA.out (by simp[qW.l0])
  |succ k1=>
   have H:=HA.out;clear HA;simp only [qW.l0]at H
   replace H:=mh H;rcases H with⟨b9,H⟩|⟨b9,H⟩
   ·skip
    obtain⟨cA,H⟩:=lv H
    obtain⟨cD,H⟩:=lv H
    by_cases c6:a1=(rd l0 ak)
    ·rw[if_pos c6]at H;have bG:=beq_iff_eq.mpr c6;have c_:=bne_eq_false_iff_eq.mpr c6;clear c6;obtain rfl:=Option.some.inj H;have bd:0<=(ak:Int):=jZ;have bf:ak<(l0.length:Int):=jZ;obtain⟨cM,b_,cm⟩:=lI aC.out ak bd bf;cases b_;replace bd:=eq_true bd;replace bf:=eq_true bf
     go_wp2
     go_ret
     exact⟨kD,by repeat(first|exact lh.refl _|apply lh.step)⟩
    rw[if_neg c6]at H;have bG:=beq_eq_false_iff_ne.mpr c6;have c_:=bne_iff_ne.mpr c6;have H':=dm H;clear H;have bd:0<=(ak:Int):=jZ;have bf:ak<(l0.length:Int):=jZ;obtain⟨cM,b_,cm⟩:=lI aC.out ak bd bf;cases b_;replace bd:=eq_true bd;replace bf:=eq_true bf
    go_wp2
    go_roundg k1
    case measure=>have:=a7.out;omega
    case rel=>exact⟨(wrap64 (ak+1)),(kD),H',⟨by have:=a7.out;omega⟩,by repeat(first|exact lh.refl _|apply lh.step)⟩
   obtain rfl:=Option.some.inj H
   go_wp2
   go_ret
   exact⟨kD,by repeat(first|exact lh.refl _|apply lh.step)⟩
def uF.f (k:Nat) (l0:List Int) (a1:Int):Option (Bool):=(qW.f k l0 a1).bind fun bB=>(some (decide (bB>=0)))
theorem uF.calls {k:Nat}{A0:Option Addr}{c0:Nat}{l0:List Int}{a1:Int}{r:Bool}{w:World}(a4:Kd.C (Kd.int .i64) w A0 l0.length l0)(a5:l0.length<=c0)(h:uF.f k l0 a1=some r):
  Calls Try.prog 89 #[.slice A0 l0.length c0,.int .i64 a1] w fun e w'=>e=.returned (.bool r)/\lh w w':=by
 have aC:=dm a4;have bK:=dm a5;clear a4 a5;unfold uF.f at h;have H:=h;clear h;obtain⟨bB,A3,H⟩:=kS H;(try dsimp only at H);obtain rfl:=Option.some.inj H
 go_enter Try.func89,Try.ntmps89
 go_wp2_with (first|((with_reducible refine kT 114 rfl ?_);refine lM 7 rfl Try.func114 (qW.calls (kz aC.out) bK.out A3.out) ?_;rintro e w' ⟨rfl,⟨nd,rfl⟩⟩;refine⟨_,rfl,?_⟩))
 go_ret
 exact⟨kD,by repeat(first|exact lh.refl _|apply lh.step)⟩
def pU.l0:Nat->List Int->List Int->List Int->Int->Int->Option (Int)
 |0,_,_,_,_,_=>none
 |k+1,x0,x1,x9,aM,bC=>if bC<aM then(if 0<=bC then(if bC<(x9.length:Int) then(if bC>=(x1.length:Int) then(some 1) else(if bC<(x1.length:Int) then((cmp_Compare_int.f (rd x9 bC) (rd x1 bC)).bind fun ay=>(if ay=0 then(pU.l0 k x0 x1 x9 aM (wrap64 (bC+1))) else(some ay))) else(none))) else(none)) else(none)) else(if(x0.length:Int)<(x1.length:Int) then(some (-1)) else(some 0))
def pU.f (k:Nat) (l0:List Int) (l1:List Int):Option (Int):=pU.l0 k l0 l1 l0 (l0.length:Int) 0
theorem pU.calls {k:Nat}{A0:Option Addr}{c0:Nat}{l0:List Int}{A1:Option Addr}{c1:Nat}{l1:List Int}{r:Int}{w:World}(a4:Kd.C (Kd.int .i64) w A0 l0.length l0)(a5:l0.length<=c0)(hr1:Kd.C (Kd.int .i64) w A1 l1.length l1)(b3:l1.length<=c1)(h:pU.f k l0 l1=some r):
  Calls Try.prog 101 #[.slice A0 l0.length c0,.slice A1 l1.length c1] w fun e w'=>e=.returned (.int .i64 r)/\lh w w':=by
 have aC:=dm a4;have bK:=dm a5;clear a4 a5;have bu:=dm hr1;have ci:=dm b3;clear hr1 b3;unfold pU.f at h;have H:=h;clear h;have H':=dm H;clear H
 go_enter Try.func101,Try.ntmps101
 go_wp2
 go_loopg [11] k (fun kq dw w'=>∃ (ag:Int),dw=.int .i64 ag/\jP (pU.l0 kq l0 l1 l0 (l0.length:Int) ag=some r)/\jP (kq<=k)/\lh w w')
 case atStart=>exact⟨(0),(kD),H',⟨Nat.le_refl _⟩,by repeat(first|exact lh.refl _|apply lh.step)⟩
 case round=>
  clear H';obtain⟨ag,rfl,HA,a7,⟨m1,rfl⟩⟩:=hrel;cases gk with
  |zero=>exact absurd HA.out (by simp[pU.l0])
  |succ k1=>
   have H:=HA.out;clear HA;simp only [pU.l0]at H
   replace H:=mh H;rcases H with⟨b9,H⟩|⟨b9,H⟩
   ·skip
    obtain⟨cA,H⟩:=lv H
    obtain⟨cD,H⟩:=lv H
    replace H:=mh H;rcases H with⟨bG,H⟩|⟨bG,H⟩
    ·obtain rfl:=Option.some.inj H;have aD:0<=(ag:Int):=jZ;have aE:ag<(l0.length:Int):=jZ;obtain⟨cj,bL,bQ⟩:=lI aC.out ag aD aE;cases bL;replace aD:=eq_true aD;replace aE:=eq_true aE
     go_wp2
     go_ret
     exact⟨kD,by repeat(first|exact lh.refl _|apply lh.step)⟩
    skip
    obtain⟨cu,H⟩:=lv H;obtain⟨ay,A8,H⟩:=kS H;(try dsimp only at H)
    by_cases c9:ay=0
    ·rw[if_pos c9]at H;have ca:=beq_iff_eq.mpr c9;have cd:=bne_eq_false_iff_eq.mpr c9;clear c9;have H':=dm H;clear H;have aD:0<=(ag:Int):=jZ;have aE:ag<(l0.length:Int):=jZ;obtain⟨cj,bL,bQ⟩:=lI aC.out ag aD aE;cases bL;replace aD:=eq_true aD;replace aE:=eq_true aE;have bh:0<=(ag:Int):=jZ;have bj:ag<(l1.length:Int):=jZ;obtain⟨cN,ce,cn⟩:=lI bu.out ag bh bj;cases ce;replace bh:=eq_true bh;replace bj:=eq_true bj
     go_wp2_with (first|((with_reducible refine kT 110 rfl ?_);refine lM 26 rfl Try.func110 (cmp_Compare_int.calls A8.out) ?_;rintro e w' ⟨rfl,⟨nd,rfl⟩⟩;refine⟨_,rfl,?_⟩))
     go_roundg k1
     case measure=>have:=a7.out;omega
     case rel=>exact⟨(wrap64 (ag+1)),(kD),H',⟨by have:=a7.out;omega⟩,by repeat(first|exact lh.refl _|apply lh.step)⟩
    rw[if_neg c9]at H;have ca:=beq_eq_false_iff_ne.mpr c9;have cd:=bne_iff_ne.mpr c9;obtain rfl:=Option.some.inj H;have aD:0<=(ag:Int):=jZ;have aE:ag<(l0.length:Int):=jZ;obtain⟨cj,bL,bQ⟩:=lI aC.out ag aD aE;cases bL;replace aD:=eq_true aD;replace aE:=eq_true aE;have bh:0<=(ag:Int):=jZ;have bj:ag<(l1.length:Int):=jZ;obtain⟨cN,ce,cn⟩:=lI bu.out ag bh bj;cases ce;replace bh:=eq_true bh;replace bj:=eq_true bj
    go_wp2_with (first|((with_reducible refine kT 110 rfl ?_);refine lM 26 rfl Try.func110 (cmp_Compare_int.calls A8.out) ?_;rintro e w' ⟨rfl,⟨nd,rfl⟩⟩;refine⟨_,rfl,?_⟩))
    go_ret
    exact⟨kD,by repeat(first|exact lh.refl _|apply lh.step)⟩
   skip
   by_cases c10:(l0.length:Int)<(l1.length:Int)
   ·rw[if_pos c10]at H;have bX:=decide_eq_true c10;have bY:=decide_eq_true (Int.ofNat_lt.mp c10);clear c10;obtain rfl:=Option.some.inj H
    go_wp2
    go_ret
    exact⟨kD,by repeat(first|exact lh.refl _|apply lh.step)⟩
   rw[if_neg c10]at H;have bX:=decide_eq_false c10;have bY:decide (l0.length<l1.length)=false:=decide_eq_false (fun h=>c10 (Int.ofNat_lt.mpr h));clear c10;obtain rfl:=Option.some.inj H
   go_wp2
   go_ret
   exact⟨kD,by repeat(first|exact lh.refl _|apply lh.step)⟩
def sS.f (k:Nat) (l0:List Int) (l1:List Int):Option (Bool):=if 0<=(wrap64 ((l0.length:Int) - 1)) then(if(wrap64 ((l0.length:Int) - 1))<(l0.length:Int) then(if 0<=(wrap64 ((l1.length:Int) - 1)) then(if(wrap64 ((l1.length:Int) - 1))<(l1.length:Int) then(if(l0.length:Int)=(l1.length:Int) then(if(rd l0 (wrap64 ((l0.length:Int) - 1)))=(rd l1 (wrap64 ((l1.length:Int) - 1))) then((pU.f k l0 l1).bind fun az=>(some (decide (az<0)))) else(some (decide ((rd l0 (wrap64 ((l0.length:Int) - 1)))<(rd l1 (wrap64 ((l1.length:Int) - 1))))))) else(some (decide ((l0.length:Int)<(l1.length:Int))))) else(none)) else(none)) else(none)) else(none)
theorem sS.calls {k:Nat}{A0:Option Addr}{c0:Nat}{l0:List Int}{A1:Option Addr}{c1:Nat}{l1:List Int}{r:Bool}{w:World}(a4:Kd.C (Kd.int .i64) w A0 l0.length l0)(a5:l0.length<=c0)(hr1:Kd.C (Kd.int .i64) w A1 l1.length l1)(b3:l1.length<=c1)(h:sS.f k l0 l1=some r):
  Calls Try.prog 100 #[.slice A0 l0.length c0,.slice A1 l1.length c1] w fun e w'=>e=.returned (.bool r)/\lh w w':=by
 have aC:=dm a4;have bK:=dm a5;clear a4 a5;have bu:=dm hr1;have ci:=dm b3;clear hr1 b3;unfold sS.f at h;have H:=h;clear h;obtain⟨aq,bT⟩:∃j_:Int,(wrap64 ((l0.length:Int) - 1))=j_:=⟨_,rfl⟩;replace H:(if 0<=(aq) then(if(aq)<(l0.length:Int) then(if 0<=(wrap64 ((l1.length:Int) - 1)) then(if(wrap64 ((l1.length:Int) - 1))<(l1.length:Int) then(if(l0.length:Int)=(l1.length:Int) then(if(rd l0 (aq))=(rd l1 (wrap64 ((l1.length:Int) - 1))) then((pU.f k l0 l1).bind fun az=>(some (decide (az<0)))) else(some (decide ((rd l0 (aq))<(rd l1 (wrap64 ((l1.length:Int) - 1))))))) else(some (decide ((l0.length:Int)<(l1.length:Int))))) else(none)) else(none)) else(none)) else(none))=some r:=by first|(rw[bT]at H;exact H)|(simp only [bT]at H⊢;exact H)
 have dF:(IntKind.i64.wrap ((l0.length:Int) - 1))=aq:=(mK _).trans bT
 obtain⟨cA,H⟩:=lv H
 obtain⟨cD,H⟩:=lv H;obtain⟨av,bU⟩:∃j_:Int,(wrap64 ((l1.length:Int) - 1))=j_:=⟨_,rfl⟩;replace H:(if 0<=(av) then(if(av)<(l1.length:Int) then(if(l0.length:Int)=(l1.length:Int) then(if(rd l0 (aq))=(rd l1 (av)) then((pU.f k l0 l1).bind fun az=>(some (decide (az<0)))) else(some (decide ((rd l0 (aq))<(rd l1 (av)))))) else(some (decide ((l0.length:Int)<(l1.length:Int))))) else(none)) else(none))=some r:=by first|(rw[bU]at H;exact H)|(simp only [bU]at H⊢;exact H)
 have dG:(IntKind.i64.wrap ((l1.length:Int) - 1))=av:=(mK _).trans bU
 obtain⟨cu,H⟩:=lv H
 obtain⟨cS,H⟩:=lv H
 by_cases c9:(l0.length:Int)=(l1.length:Int)
 ·rw[if_pos c9]at H;have ca:=beq_iff_eq.mpr c9;have cd:=bne_eq_false_iff_eq.mpr c9;have db:(l0.length==l1.length)=true:=by first|simpa using c9|(simp at c9⊢;omega)
  clear c9
  by_cases c10:(rd l0 (aq))=(rd l1 (av))
  ·rw[if_pos c10]at H;have bX:=beq_iff_eq.mpr c10;have bY:=bne_eq_false_iff_eq.mpr c10;clear c10;obtain⟨az,cE,H⟩:=kS H;(try dsimp only at H);obtain rfl:=Option.some.inj H;have aG:0<=((aq):Int):=jZ;have aH:(aq)<(l0.length:Int):=jZ;obtain⟨ck,bM,bR⟩:=lI aC.out (aq) aG aH;cases bM;replace aG:=eq_true aG;replace aH:=eq_true aH;have aI:0<=((av):Int):=jZ;have aK:(av)<(l1.length:Int):=jZ;obtain⟨cl,bN,bS⟩:=lI bu.out (av) aI aK;cases bN;replace aI:=eq_true aI;replace aK:=eq_true aK
   go_enter Try.func100,Try.ntmps100
   go_wp2_with (first|(go_at_call 101;refine(pU.calls (kz aC.out) bK.out (kz bu.out) ci.out cE.out).mono ?_;rintro e w' ⟨rfl,⟨nd,rfl⟩⟩;(try first|exact⟨rfl,_,World.drewN_drewN _ _ _⟩|exact⟨rfl,_,Eq.trans (World.drewN_drewN _ _ _) (congrArg (World.drewN _) (Nat.add_assoc _ _ _))⟩)))
   repeat(go_quiet (first|(go_at_call 101;(with_reducible refine(pU.calls ?mV ?mZ ?rQ ?rR cE.out).mono ?_);(case mV=>exact kz aC.out);(case mZ=>exact bK.out);(case rQ=>exact kz bu.out);(case rR=>exact ci.out);rintro e w' ⟨rfl,⟨nd,rfl⟩⟩;(try first|exact⟨rfl,_,World.drewN_drewN _ _ _⟩|exact⟨rfl,_,Eq.trans (World.drewN_drewN _ _ _) (congrArg (World.drewN _) (Nat.add_assoc _ _ _))⟩)));try go_wp2_with (first|(go_at_call 101;(with_reducible refine(pU.calls ?mV ?mZ ?rQ ?rR cE.out).mono ?_);(case mV=>exact kz aC.out);(case mZ=>exact bK.out);(case rQ=>exact kz bu.out);(case rR=>exact ci.out);rintro e w' ⟨rfl,⟨nd,rfl⟩⟩;(try first|exact⟨rfl,_,World.drewN_drewN _ _ _⟩|exact⟨rfl,_,Eq.trans (World.drewN_drewN _ _ _) (congrArg (World.drewN _) (Nat.add_assoc _ _ _))⟩))))
   go_ret
   exact⟨zU,by repeat(first|exact lh.refl _|apply lh.step)⟩
  rw[if_neg c10]at H;have bX:=beq_eq_false_iff_ne.mpr c10;have bY:=bne_iff_ne.mpr c10;obtain rfl:=Option.some.inj H;have aG:0<=((aq):Int):=jZ;have aH:(aq)<(l0.length:Int):=jZ;obtain⟨ck,bM,bR⟩:=lI aC.out (aq) aG aH;cases bM;replace aG:=eq_true aG;replace aH:=eq_true aH;have aI:0<=((av):Int):=jZ;have aK:(av)<(l1.length:Int):=jZ;obtain⟨cl,bN,bS⟩:=lI bu.out (av) aI aK;cases bN;replace aI:=eq_true aI;replace aK:=eq_true aK
  go_enter Try.func100,Try.ntmps100
  go_wp2
  repeat(go_quiet (fail);try go_wp2)
  go_ret
  exact⟨zU,by repeat(first|exact lh.refl _|apply lh.step)⟩
 rw[if_neg c9]at H;have ca:=beq_eq_false_iff_ne.mpr c9;have cd:=bne_iff_ne.mpr c9;have db:(l0.length==l1.length)=false:=by first|simpa using c9|(simp at c9⊢;omega)
 obtain rfl:=Option.some.inj H;have aG:0<=((aq):Int):=jZ;have aH:(aq)<(l0.length:Int):=jZ;obtain⟨ck,bM,bR⟩:=lI aC.out (aq) aG aH;cases bM;replace aG:=eq_true aG;replace aH:=eq_true aH;have aI:0<=((av):Int):=jZ;have aK:(av)<(l1.length:Int):=jZ;obtain⟨cl,bN,bS⟩:=lI bu.out (av) aI aK;cases bN;replace aI:=eq_true aI;replace aK:=eq_true aK
 go_enter Try.func100,Try.ntmps100
 go_wp2
 repeat(go_quiet (fail);try go_wp2)
 go_ret
 exact⟨zU,by repeat(first|exact lh.refl _|apply lh.step)⟩
def qy.f (l0:List Int):Option (List Int):=(some (([]:List Int):List Int)).bind fun aa=>(if aa.length+l0.length<17592186044416 then(some (aa++l0)) else(none))
theorem qy.calls {A0:Option Addr}{c0:Nat}{l0:List Int}{r:List Int}{w:World}(al:Kd.C (Kd.int .i64) w A0 l0.length l0)(am:l0.length<=c0)(h:qy.f l0=some r):
  Calls Try.prog 103 #[.slice A0 l0.length c0] w fun e w'=>∃ao:Value,e=.returned (ao)/\Kd.R (Kd.int .i64) 3 w' w.heap.size (fun _=>True) ao r/\Below w.heap.size w w':=by
 have ap:=dm al;have aw:=dm am;clear al am;have HB:=dm (Below.refl w.heap.size w);unfold qy.f at h;have H:=h;clear h;obtain⟨aa,ab⟩:∃y_:List Int,y_=(([]:List Int)):=⟨_,rfl⟩;replace H:(if aa.length+l0.length<17592186044416 then(some (aa++l0)) else(none))=some r:=lZ ab H
 have af:=dm ab;clear ab
 obtain⟨c2,H⟩:=ni H;have aq:=dm c2;clear c2;obtain⟨aj,ac⟩:∃y_:List Int,y_=(aa++l0):=⟨_,rfl⟩;replace H:(some aj)=some r:=lZ ac H
 have ah:=dm ac;clear ac;obtain rfl:=Option.some.inj H;have ax:∀ (w:World) (a:Option Addr) (n c n' c':Nat),(binOp .eql 45 (.slice a n c) (.slice none n' c')).run Try.prog w=.ok (.bool a.isNone) w:=fun w a n c n' c'=>Go.Lib.run_eql_slice_nil w _ _ a n c n' c' Try.underlying45
 rcases A0 with _|ay
 ·have e0:l0=[]:=by
   have h_:=ap.out
   rcases l0 with _|⟨q,r⟩
   ·rfl
   obtain⟨ad,h,_⟩:=h_.2.2 (by simp);exact absurd h (by simp)
  subst e0;have ey:aj=[]:=by rw[ah.out,af.out];rfl
  subst ey
  go_enter Try.func103,Try.ntmps103
  go_wp2
  go_ret
  exact⟨_,rfl,rV _ _ _ _ _,jU HB.out⟩
 go_enter Try.func103,Try.ntmps103
 go_wp2_with (first|((with_reducible refine kF 5 rfl ?_);refine oL (Kd.int .i64) rfl 3 ([]:List Int) [] (kN.none _ _) ?_;intro au w3 ag hb hg_ lq;clear hg_ lq;(first|rw[←af.out]at ag|(simp only [Int.reduceToNat]at ag;rw[←af.out]at ag));have ai:=dm (kR ag (kK (jU HB.out)));replace HB:=kg HB hb;clear hb ag)|((with_reducible refine oJ (b:=.append) (xs:= #[.tmp 5,.tmp 6]) rfl ?_);at_builtin;refine zk (Kd.int .i64) (w0:=w) w.heap.size rfl (.tmp 5) (.tmp 6) 45 3 (.int .i64 0) 8 rfl Try.underlying45 info3 rfl (by decide) (by omega) au aa l0 _ _ _ (fun _=>True) (fun _=>False) rfl rfl ?aO ?aR (fun _ _ h=>h) (fun _ h=>h.elim) ?aF ?aB ?aS ?aL ?_;(case aR=>exact kz (lg ap.out HB.out));(case aB=>exact(jU HB.out));(case aF=>exact(fun _ _=>trivial));(case aO=>exact(jX ai.out));(case aS=>exact(kK (jU HB.out)));(case aL=>have:=aq.out;omega);intro av w5 ho hb hg hat;rw[←ah.out]at ho;have n0:=dm (hb);have n1:=dm (ho);clear HB ai;revert n0 n1;intro HB ak;clear ho hb hg hat))
 go_ret
 exact⟨_,mH,jX ak.out,jU HB.out⟩
end Go.Proofs.Ytgeonpciodepgaa.P
section
namespace Go.Proofs.Ytgeonpciodepgaa.P
set_option maxHeartbeats 8000000
set_option maxRecDepth 100000
open Go.RowKit Go.Proofs.YtgeonpciodepgaaW.PrintWords Go.Proofs.YtgeonpciodepgaaW.PrintLast Go.Proofs.YtgeonpciodepgaaW.PrintMore Go.Proofs.YtgeonpciodepgaaW.PrintWords.Kd Go.Proofs.YtgeonpciodepgaaW.PrintMore.Kd
attribute [local go_sem] vO vT vR vW vQ vV vP vU
section
variable {P:Program}{ops:Array Oper}{Q:Exit->Act->World->Prop}
theorem H8 {oi:Oper}{N:Option Tmp}{a:Act}{w:World}{K:Act->World->Prop}{f:FuncId}{fn:Func}{x:Operand}{as_:Array Operand}{ts:Array TypeId}{first cap:Array Value}(hf:P.funcs[f]? =some fn) (args:Array Value)
  (hx : a.eval x = .func (.func f) first cap) (hop : oi.op = .call { callee := .value x, args := as_, argTypes := ts }) (hargs : first ++ as_.map a.eval ++ cap = args) (hname : (fn.name == "runtime.NumGoroutine") = false) (hb : fn.body.isSome = true)
  (hw:Region.wanted oi (yielded ops a.tmps)=true) (hN:oi.dst=N)
  (h:Calls P f args w fun e w'=>∃v,e=.returned v/\K (a.put N v) w'):if Region.wanted oi (yielded ops a.tmps)=true then Oper.wp P oi a w K Q else K (a.put N undef) w:=by
 refine call_ f args hw hN ?_ h;have he:=yF hf hname hb args w;unfold execOp;simp[hop,resolve,Deferred.ofValue,invoke,hx,hargs,he]
theorem H7 {rest:List Oper}{oi:Oper}{a:Act}{w:World}(N:Option Tmp) (hd:oi.dst=N) (hg:oi.guard=none) {f:FuncId}{fn:Func}{x:Operand}{as_:Array Operand}{ts:Array TypeId}{first cap:Array Value}(hf:P.funcs[f]? =some fn) (args:Array Value)
  (hx : a.eval x = .func (.func f) first cap) (hop : oi.op = .call { callee := .value x, args := as_, argTypes := ts }) (hargs : first ++ as_.map a.eval ++ cap = args) (hname : (fn.name == "runtime.NumGoroutine") = false) (hb : fn.body.isSome = true)
  (h:Calls P f args w fun e w'=>∃v,e=.returned v/\wpList P ops Q rest (a.put N v) w'):wpList P ops Q (oi::rest) a w:=by
 refine wpList_plain hg fun K hK=>?_;have he:=yF hf hname hb args w;have hrun:(execOp a.eval oi).run P w=.ok (.enter f args) w:=by
  unfold execOp;simp[hop,resolve,Deferred.ofValue,invoke,hx,hargs,he]
 unfold Oper.wp;rw[hrun,Oper.upon_enter];refine h.mono fun e w'' hh=>?_;obtain⟨v,rfl,hk⟩:=hh;subst hd;exact hK _ _ hk
end
structure oM (w0:World) (gR gB gF gN gW:Nat) (A1:Option Addr) (c1:Nat) (l1:List Bool) (n:Int) (A3:Option Addr) (c3:Nat) (l3:List (S59)) (best:List Int) (W:World):Prop where
 b:Below w0.heap.size w0 W
 g:w0.heap.size<=gB
 hR:W.heap[gR]? =some (.cells #[.slice A1 l1.length c1] 54 (0,0))
 hN:W.heap[gN]? =some (.cells #[.int .i64 n,.slice A3 l3.length c3] 31 (0,0))
 hF:W.heap[gF]? =some (.cells #[.func (.func 100) #[] #[]] 73 (0,0))
 hW:W.heap[gW]? =some (.cells #[.func (.func 102) #[] #[.pointer (some ⟨gR,0,none⟩),.pointer (some ⟨gB,0,none⟩),.pointer (some ⟨gF,0,none⟩),.pointer (some ⟨gN,0,none⟩),.pointer (some ⟨gW,0,none⟩)]] 108 (0,0))
 hB:∃A c,W.heap[gB]? =some (.cells #[.slice A best.length c] 45 (0,0))/\Kd.R (Kd.int .i64) 3 W w0.heap.size (fun _=>True) (.slice A best.length c) best
section
variable {w0 W W':World}{gR gB gF gN gW:Nat}{A1:Option Addr}{c1:Nat}{l1:List Bool}{n:Int}{A3:Option Addr}{c3:Nat}{l3:List (S59)}{best best':List Int}
theorem oM.below (h:oM w0 gR gB gF gN gW A1 c1 l1 n A3 c3 l3 best W) (hb:Below W.heap.size W W'):oM w0 gR gB gF gN gW A1 c1 l1 n A3 c3 l3 best W':=by
 obtain⟨A,c,h1,h2⟩:=h.hB;exact⟨lX h.b hb,h.g,nW h.hR hb,nW h.hN hb,nW h.hF hb,nW h.hW hb,A,c,nW h1 hb,qa h2 hb⟩
theorem oM.drewN (h:oM w0 gR gB gF gN gW A1 c1 l1 n A3 c3 l3 best W) (m:Nat):oM w0 gR gB gF gN gW A1 c1 l1 n A3 c3 l3 best (W.drewN m):=h.below (pz (Below.refl _ _) m)
theorem rJ {W:World}{g g' t t':Nat}{cs cs':Array Value}(h:W.heap[g]? =some (.cells cs t (0,0))) (h':W.heap[g']? =some (.cells cs' t' (0,0))) (ht:t≠t'):g≠g':=by
 rintro rfl;rw[h]at h';injection h' with h';injection h' with _ h2;exact ht h2
theorem oM.put (h:oM w0 gR gB gF gN gW A1 c1 l1 n A3 c3 l3 best W) {A:Option Addr}{c:Nat}(hv:Kd.R (Kd.int .i64) 3 W w0.heap.size (fun _=>True) (.slice A best'.length c) best'):
  oM w0 gR gB gF gN gW A1 c1 l1 n A3 c3 l3 best' (W.setCell ⟨gB,0,none⟩ (.slice A best'.length c))/\W.grownBy (W.setCell ⟨gB,0,none⟩ (.slice A best'.length c)) (some gB):=by
 obtain⟨A0,c0,h1,h2⟩:=h.hB;have hg:W.grownBy (W.setCell ⟨gB,0,none⟩ (.slice A best'.length c)) (some gB):=⟨rfl,rfl,rfl,(by have:=(nM (g:=gB) (j:=0) (v:=.slice A best'.length c) h.b h.g).size;first|exact Nat.le_of_eq (World.size_setCell ..).symm|simp),fun k hk hne=>Below.heap_setCell W ⟨gB,0,none⟩ _ k (fun e=>hne (congrArg some e))⟩;refine⟨⟨nM h.b h.g,h.g,pF h.hR (rJ h.hR h1 (by decide)) _,pF h.hN (rJ h.hN h1 (by decide)) _,pF h.hF (rJ h.hF h1 (by decide)) _,pF h.hW (rJ h.hW h1 (by decide)) _,A,c,by simpa using xU h1 0 (.slice A best'.length c),?_⟩,hg⟩;exact xH hv h1 (by decide) 0 _
theorem oM.way (h:oM w0 gR gB gF gN gW A1 c1 l1 n A3 c3 l3 best W) {base:Nat}{v:Value}{xs:List Int}(hv:Kd.R (Kd.int .i64) 3 W base (fun _=>True) v xs) (hg:W.grownBy W' (some gB)):Kd.R (Kd.int .i64) 3 W' base (fun _=>True) v xs:=by
 obtain⟨A,c,h1,h2⟩:=h.hB;exact Fp hv rfl hg (lU hv h1 (by decide))
end
mutual
def mY.l0:Nat->List Int->List Bool->List Int->Int->Int->Int->Int->List (S59)->Option (List Int)
 |0,_,_,_,_,_,_,_,_=>none
 |k+1,x0,x1,x2,x7,aK,aq,af,ag=>if aq<aK then((sH.f k af ag x7 aq).bind fun aZ=>(if aZ=true then((uF.f k x0 aq).bind fun az=>(mY.j1 k x0 x1 x2 x7 aq aK aq (!az) af ag)) else(mY.j1 k x0 x1 x2 x7 aq aK aq false af ag))) else(some x2)
def mY.j1:Nat->List Int->List Bool->List Int->Int->Int->Int->Int->Bool->Int->List (S59)->Option (List Int)
 |0,_,_,_,_,_,_,_,_,_,_=>none
 |k+1,x0,x1,x2,x7,x8,aK,aq,cm,af,ag=>if cm=true then((qy.f x0).bind fun ae=>((some (([x8]:List Int):List Int)).bind fun ah=>(if ae.length+ah.length<17592186044416 then((mY.f k (ae++ah) x1 x2 af ag).bind fun ao=>(mY.l0 k x0 x1 ao x7 aK (wrap64 (aq+1)) af ag)) else(none)))) else(mY.l0 k x0 x1 x2 x7 aK (wrap64 (aq+1)) af ag)
def mY.f:Nat->List Int->List Bool->List Int->Int->List (S59)->Option (List Int)
 |0,_,_,_,_,_=>none
 |k+1,l0,l1,a2,bj,b5=>if 0<=(wrap64 ((l0.length:Int) - 1)) then(if(wrap64 ((l0.length:Int) - 1))<(l0.length:Int) then(if 0<=(rd l0 (wrap64 ((l0.length:Int) - 1))) then(if(rd l0 (wrap64 ((l0.length:Int) - 1)))<(l1.length:Int) then(if mP false l1 (rd l0 (wrap64 ((l0.length:Int) - 1)))=true then(if(a2.length:Int)=0 then(qy.f l0) else((sS.f k l0 a2).bind fun au=>(if au=true then(qy.f l0) else(some a2)))) else(mY.l0 k l0 l1 a2 (rd l0 (wrap64 ((l0.length:Int) - 1))) bj 0 bj b5)) else(none)) else(none)) else(none)) else(none)
end
def mY.T8:Bool×List (List Nat×List Nat):=(true,[([],[]),([],[]),([1],[1]),([],[]),([3],[3]),([2,4,2],[2,4]),([0,5,5],[0,5])])
def mY.B8:List Nat:=[0,0,2,0,8,30,63]
theorem mY.xw:mI .any (opsOf Try.f102 8)=mY.T8:=by kernel_rfl
theorem mY.wH:nP mY.T8.2 mY.B8=true:=by kernel_rfl
theorem mY.calls {w0:World}{gR gB gF gN gW:Nat}{A1:Option Addr}{c1:Nat}{l1:List Bool}{n:Int}{A3:Option Addr}{c3:Nat}{l3:List (S59)}(hr1:Kd.C Kd.bool w0 A1 l1.length l1) (bH:l1.length<=c1) (bI:Kd.C k59 w0 A3 l3.length l3) (bJ:l3.length<=c3) (k:Nat):
  ∀ (A0:Option Addr) (c0:Nat) (l0 a2 r:List Int) (w:World) (hw:Kd.R (Kd.int .i64) 3 w 0 (fun _=>True) (.slice A0 l0.length c0) l0) (hX:oM w0 gR gB gF gN gW A1 c1 l1 n A3 c3 l3 a2 w) (h:mY.f k l0 l1 a2 n l3=some r),
  Calls Try.prog 102 #[.slice A0 l0.length c0,.pointer (some ⟨gR,0,none⟩),.pointer (some ⟨gB,0,none⟩),.pointer (some ⟨gF,0,none⟩),.pointer (some ⟨gN,0,none⟩),.pointer (some ⟨gW,0,none⟩)] w
   fun e w'=>e=.returned (.tuple #[])/\oM w0 gR gB gF gN gW A1 c1 l1 n A3 c3 l3 r w'/\w.grownBy w' (some gB):=by
 have cG:=dm bH;have bK:=dm bI;have bL:=dm bJ;have cn:=dm hr1;clear bH bI bJ hr1
 induction k using Nat.strongRecOn with
 |_ k ih=>
 intro A0 c0 l0 a2 r w hw hX h;cases k with
 |zero=>exact absurd h (by simp[mY.f])
 |succ k=>
 simp only [mY.f]at h;have cE:=Try.underlying31;have HQ:=dm hw;have HX:=dm hX;have am:=dm (ku hw).2.2;have aw:=dm (ku hw).2.1;clear hw hX;obtain⟨ab,bm⟩:∃j_:Int,(wrap64 ((l0.length:Int) - 1))=j_:=⟨_,rfl⟩;have H:(if 0<=(ab) then(if(ab)<(l0.length:Int) then(if 0<=(rd l0 (ab)) then(if(rd l0 (ab))<(l1.length:Int) then(if mP false l1 (rd l0 (ab))=true then(if(a2.length:Int)=0 then(qy.f l0) else((sS.f k l0 a2).bind fun au=>(if au=true then(qy.f l0) else(some a2)))) else(mY.l0 k l0 l1 a2 (rd l0 (ab)) n 0 n l3)) else(none)) else(none)) else(none)) else(none))=some r:=by rw[bm]at h;exact h
 clear h;have cD:(IntKind.i64.wrap ((l0.length:Int) - 1))=ab:=(mK _).trans bm
 obtain⟨c6,H⟩:=ni H;have b6:=decide_eq_true c6
 obtain⟨c7,H⟩:=ni H;have b7:=decide_eq_true c7
 obtain⟨c8,H⟩:=ni H;have b8:=decide_eq_true c8
 obtain⟨c9,H⟩:=ni H;have b9:=decide_eq_true c9;obtain⟨ca,aN⟩:∃b_:Bool,b_=(mP false l1 (rd l0 (ab))):=⟨_,rfl⟩;rw[←aN]at H;obtain⟨aX,e5,cq⟩:=lI am.out (ab) c6 c7;cases e5;obtain⟨bM,e6,bN⟩:=uM (lg cn.out HX.out.b) (rd l0 (ab)) c8 c9;rw[←aN]at bN;cases e6;clear aN;replace c6:=eq_true c6;replace c7:=eq_true c7;replace c8:=eq_true c8;replace c9:=eq_true c9;have hzR:w.cell? ⟨gR,0,none⟩=some (.slice (some bM) l1.length c1):=(mi HX.out.hR 0).trans rfl;have hzF:w.cell? ⟨gF,0,none⟩=some (.func (.func 100) #[] #[]):=(mi HX.out.hF 0).trans rfl;have hfF:=l5 HX.out.hF 0;have hfR:=l5 HX.out.hR 0
 by_cases a7:ca=true
 ·subst a7;replace H:(if(a2.length:Int)=0 then(qy.f l0) else((sS.f k l0 a2).bind fun au=>(if au=true then(qy.f l0) else(some a2))))=some r:=by rw[if_pos rfl]at H;exact H
  obtain⟨Ab,cb,hbb,hbr⟩:=HX.out.hB;have hzB:w.cell? ⟨gB,0,none⟩=some (.slice Ab a2.length cb):=(mi hbb 0).trans rfl;have hfB:=l5 hbb 0;have HBR:=dm hbr;clear hbb hbr
  by_cases aC:(a2.length:Int)=0
  ·rw[if_pos aC]at H;have bn:=dm H;clear H;have bD:=beq_iff_eq.mpr aC;have bE:=bne_eq_false_iff_eq.mpr aC;clear aC
   go_enter Try.func102,Try.ntmps102
   go_wp2_with (first|((with_reducible refine kT 103 rfl ?_);refine lM 29 rfl Try.func103 (qy.calls (kz am.out) aw.out bn.out) ?_;rintro e bo ⟨cd,rfl,ak,hb⟩;refine⟨_,rfl,?_⟩;obtain⟨Ao,co,eo⟩:=kJ ak;subst eo;have HO:=dm ak;have ax:=dm (oM.below HX.out hb);have bp:=dm hb;clear ak hb hzB hfB;obtain⟨bq,br,aE,_⟩:=ax.out.hB;have ce:bo.cell? ⟨gB,0,none⟩=some (.slice bq a2.length br):=(mi aE 0).trans rfl;have cf:=l5 aE 0))
   first|go_end0|refine bodyPost_ret (results_none rfl _ _ _) rfl ?_
   have h9:=oM.put ax.out (kR HO.out HX.out.b.size);exact⟨rfl,h9.1,World.grownBy.trans (tT bp.out _) h9.2⟩
  rw[if_neg aC]at H;have bD:=beq_eq_false_iff_ne.mpr aC;have bE:=bne_iff_ne.mpr aC;clear aC;obtain⟨au,bO,H⟩:=kS H
  by_cases a8:au=true
  ·subst a8;replace H:qy.f l0=some r:=by rw[if_pos rfl]at H;exact H
   have bn:=dm H;clear H
   go_enter Try.func102,Try.ntmps102
   go_wp2_with (first|(go_at_call 100;refine(sS.calls (kz am.out) aw.out (kz (ku HBR.out).2.2) ((ku HBR.out).2.1) bO.out).mono ?_;rintro e w' ⟨rfl,⟨nd,rfl⟩⟩)|((with_reducible refine kT 103 rfl ?_);refine lM 29 rfl Try.func103 (qy.calls (kz am.out) aw.out bn.out) ?_;rintro e bo ⟨cd,rfl,ak,hb⟩;refine⟨_,rfl,?_⟩;obtain⟨Ao,co,eo⟩:=kJ ak;subst eo;have HO:=dm ak;have ax:=dm (oM.below (oM.drewN HX.out nd) hb);have bp:=dm (lX (pz (Below.refl w.heap.size w) nd) hb);clear ak hb hzB hfB;obtain⟨bq,br,aE,_⟩:=ax.out.hB;have ce:bo.cell? ⟨gB,0,none⟩=some (.slice bq a2.length br):=(mi aE 0).trans rfl;have cf:=l5 aE 0))
   first|go_end0|refine bodyPost_ret (results_none rfl _ _ _) rfl ?_
   have h9:=oM.put ax.out (kR HO.out (Nat.le_trans HX.out.b.size (kK (pz (Below.refl w.heap.size w) nd))));exact⟨rfl,h9.1,World.grownBy.trans (tT bp.out _) h9.2⟩
  replace a8:=Bool.eq_false_iff.mpr a8;subst a8;obtain rfl:a2=r:=by rw[if_neg (show¬ (false=true) by decide)]at H;exact Option.some.inj H
  clear H
  go_enter Try.func102,Try.ntmps102
  go_wp2_with (first|(go_at_call 100;refine(sS.calls (kz am.out) aw.out (kz (ku HBR.out).2.2) ((ku HBR.out).2.1) bO.out).mono ?_;rintro e w' ⟨rfl,⟨nd,rfl⟩⟩))
  first|go_end0|refine bodyPost_ret (results_none rfl _ _ _) rfl ?_
  exact⟨rfl,oM.drewN HX.out _,tT (pz (Below.refl w.heap.size w) _) _⟩
 replace a7:=Bool.eq_false_iff.mpr a7;subst a7;replace H:(mY.l0 k l0 l1 a2 (rd l0 (ab)) n 0 n l3)=some r:=by rw[if_neg (show¬ (false=true) by decide)]at H;exact H
 have H':=dm H;clear H;have bu:w.cell? ⟨gN,0,none⟩=some (.int .i64 n):=(mi HX.out.hN 0).trans rfl;have bv:w.cell? ⟨gN,1,none⟩=some (.slice A3 l3.length c3):=(mi HX.out.hN 1).trans rfl;have bx:=l5 HX.out.hN 0;have bz:=l5 HX.out.hN 1;have HG:=dm (World.grownBy.refl w (some gB))
 go_enter Try.func102,Try.ntmps102
 go_wp2
 go_loopg [32] k (fun kq ct w'=>∃ (aj:List Int) (aa:Int),ct=.int .i64 aa/\jP (mY.l0 kq l0 l1 aj (rd l0 (ab)) n aa n l3=some r)/\jP (kq<=k)/\jP (Kd.R (Kd.int .i64) 3 w' 0 (fun _=>True) (.slice (some aX) l0.length c0) l0)/\jP (oM w0 gR gB gF gN gW (some bM) c1 l1 n A3 c3 l3 aj w')/\jP (w.grownBy w' (some gB)))
 case atStart=>exact⟨(a2),(0),(kD),H',⟨Nat.le_refl _⟩,⟨HQ.out⟩,⟨HX.out⟩,⟨HG.out⟩⟩
 case round=>
  clear H' HQ HX HG am bu bv bx bz hzR hfR hzF hfF cq bN c6 b6 c7 b7 c8 b8 c9 b9;obtain⟨aj,aa,rfl,HA,aY,HQ,HX,HG⟩:=hrel;have am:=dm (ku HQ.out).2.2;have HB:=dm (Below.refl wr.heap.size wr);cases gk with
  |zero=>exact absurd HA.out (by simp[mY.l0])
  |succ k1=>
   have H:=HA.out;clear HA;simp only [mY.l0]at H
   replace H:=mh H;rcases H with⟨a9,H⟩|⟨a9,H⟩
   ·have a5:=dm H;clear H
    go_upto_region 7 with(fail)
    go_cut [44] (fun cu wc=>∃ (kq:Nat) (ay:Bool),cu=.bool ay/\jP (mY.j1 kq l0 l1 aj (rd l0 (ab)) aa n aa ay n l3=some r)/\jP (kq<=k1)/\jP (Below wr.heap.size wr wc))
    case first=>
     have H:=a5.out;clear a5;have bu:wr.cell? ⟨gN,0,none⟩=some (.int .i64 n):=(mi HX.out.hN 0).trans rfl;have bv:wr.cell? ⟨gN,1,none⟩=some (.slice A3 l3.length c3):=(mi HX.out.hN 1).trans rfl;have bx:=l5 HX.out.hN 0;have bz:=l5 HX.out.hN 1;obtain⟨aZ,bP,H⟩:=kS H
     by_cases a_:aZ=true
     ·subst a_;replace H:((uF.f k1 l0 aa).bind fun az=>(mY.j1 k1 l0 l1 aj (rd l0 (ab)) aa n aa (!az) n l3))=some r:=by rw[if_pos rfl]at H;exact H
      obtain⟨az,cv,H⟩:=kS H;have H':=dm H;clear H
      go_wp2_with (first|((with_reducible refine kT 65 rfl ?_);refine nG 38 rfl Try.func65 (sH.calls (kz (lg bK.out HX.out.b)) bL.out bP.out) ?_;intro cw hb;have n1:=kg HB hb;clear HB hb;have HB:=n1;clear n1)|(go_at_call 89;refine(uF.calls (kz (lg am.out HB.out)) aw.out cv.out).mono ?_;rintro e w' ⟨rfl,⟨nd,rfl⟩⟩))
      go_meet
      case rel=>exact⟨_,(!az),(kD),H',⟨Nat.le_refl _⟩,⟨jU HB.out⟩⟩
     replace a_:=Bool.eq_false_iff.mpr a_;subst a_;replace H:(mY.j1 k1 l0 l1 aj (rd l0 (ab)) aa n aa false n l3)=some r:=by rw[if_neg (show¬ (false=true) by decide)]at H;exact H
     have H':=dm H;clear H
     go_wp2_with (first|((with_reducible refine kT 65 rfl ?_);refine nG 38 rfl Try.func65 (sH.calls (kz (lg bK.out HX.out.b)) bL.out bP.out) ?_;intro cw hb;have n1:=kg HB hb;clear HB hb;have HB:=n1;clear n1))
     go_meet
     case rel=>exact⟨_,(false),(kD),H',⟨Nat.le_refl _⟩,⟨jU HB.out⟩⟩
    case rest=>
     clear a5 HB a9;obtain⟨kq,ay,rfl,HA,aG,HB⟩:=hcut;cases kq with
     |zero=>exact absurd HA.out (by simp[mY.j1])
     |succ ap=>
      have H:=HA.out;clear HA;simp only [mY.j1]at H
      by_cases ba:ay=true
      ·subst ba;replace H:((qy.f l0).bind fun ae=>((some (([aa]:List Int):List Int)).bind fun ah=>(if ae.length+ah.length<17592186044416 then((mY.f ap (ae++ah) l1 aj n l3).bind fun ao=>(mY.l0 ap l0 l1 ao (rd l0 (ab)) n (wrap64 (aa+1)) n l3)) else(none))))=some r:=by rw[if_pos rfl]at H;exact H
       obtain⟨ae,bQ,H⟩:=kS H;obtain⟨ah,aP⟩:∃y_:List Int,y_=(([aa]:List Int)):=⟨_,rfl⟩;replace H:(if ae.length+ah.length<17592186044416 then((mY.f ap (ae++ah) l1 aj n l3).bind fun ao=>(mY.l0 ap l0 l1 ao (rd l0 (ab)) n (wrap64 (aa+1)) n l3)) else(none))=some r:=by rw[aP];exact H
       have aD:=dm aP;clear aP
       obtain⟨bd,H⟩:=ni H;have bF:=dm bd;clear bd;obtain⟨bA,aQ⟩:∃y_:List Int,y_=(ae++ah):=⟨_,rfl⟩;rw[←aQ]at H;have bG:=dm aQ;clear aQ;obtain⟨ao,cx,H⟩:=kS H;have H':=dm H;clear H;try go_wp2
       have BK:=dm (kP (nW HX.out.hW HB.out));have n1:=dm (l8 HB.out);clear HB;have HB:=n1;clear n1;refine nu 7 (S:=fun w'=>w'.cell? ⟨gW,0,none⟩=some (.func (.func 102) #[] #[.pointer (some ⟨gR,0,none⟩),.pointer (some ⟨gB,0,none⟩),.pointer (some ⟨gF,0,none⟩),.pointer (some ⟨gN,0,none⟩),.pointer (some ⟨gW,0,none⟩)])) [] (jR BK 0) mY.xw mY.wH (fun hHeld HT_ HW_=>?_);generalize wc.drew=cH at BK HB hHeld⊢;refine jS 1 46 2 ?_;refine jS 3 48 10 ?_;refine kL 0 45 11 ?_;refine qQ (σ:=Value×Value) 2 (lm 7 31) (fun s_=>[(47,s_.1),(49,s_.2)]) (fun s_ w'=>(w'.cell? ⟨gW,0,none⟩=some (.func (.func 102) #[] #[.pointer (some ⟨gR,0,none⟩),.pointer (some ⟨gB,0,none⟩),.pointer (some ⟨gF,0,none⟩),.pointer (some ⟨gN,0,none⟩),.pointer (some ⟨gW,0,none⟩)]))/\(Kd.R (Kd.int .i64) 3 w' wr.heap.size (fun k_=>some k_≠(s_.2:Value).ownBlock) s_.1 ae)/\(Kd.R (Kd.int .i64) 3 w' wr.heap.size (fun k_=>some k_≠(s_.1:Value).ownBlock) s_.2 ah)/\(w'.heap[gW]? =some (.cells #[.func (.func 102) #[] #[.pointer (some ⟨gR,0,none⟩),.pointer (some ⟨gB,0,none⟩),.pointer (some ⟨gF,0,none⟩),.pointer (some ⟨gN,0,none⟩),.pointer (some ⟨gW,0,none⟩)]] 108 (0,0)))/\(Below wr.heap.size wr w')) ?_ ?_;rotate_left
       ·intro oK;refine qf (i:=2) (j:=4) (Ni:=some 47) (Nj:=some 49) (lm 7 15) (lm 7 27) rfl rfl rfl rfl (qg HT_.out (by kernel_rfl)) (by decide) (by decide) (fun K hK=>?_) (fun K hK=>?_)
        ·refine mg Try.func103 (qy.calls (kz (lg am.out HB.out)) aw.out bQ.out) ?_;rintro e cy ⟨aH,rfl,ak,hb⟩;refine⟨_,rfl,?_⟩;have ai:=dm (kR ak (kK (jU HB.out)));replace BK:=jT BK hb;replace HB:=kg HB hb;(try clear hb ak);refine hK.out _ _ (jR BK 0) (fun hHeld=>?_);clear hK K;refine kM 47 ?_;refine lu 4 49 31 (fun K hK=>?_);refine rC (Kd.int .i64) _ 3 ?hg (N:=49) ?hd (xs:=([aa]:List Int)) (inner:=[.int .i64 aa]) (ok:=fun _=>True) (okp:=fun _=>True) ?hr ?hp (fun _ hk=>hk) trivial (Below.refl _ _) (Nat.le_refl _) (by simp) ?_;(case hd=>rfl);(case hg=>rfl);(case hr=>first|(go_simp;done)|(go_simp;rfl));(case hp=>exact(kN.one (show Kd.M (Kd.int .i64) _ _ _ aa [.int .i64 aa] from rfl) (kN.none _ _)));intro aT cI aA hb hg_ lq;clear hg_ lq;(first|rw[←aD.out]at aA|(simp only [Int.reduceToNat]at aA;rw[←aD.out]at aA));have ac:=dm (kR (lF aA (kW (jX ai.out))) (kK (jU HB.out)));replace ai:=lT ai aA hb;replace BK:=jT BK hb;replace HB:=kg HB hb;clear hb aA;refine hK.out _ _ (jR BK 0) (fun hHeld=>?_);clear hK K;refine kM 49 ?_;exact mO (by simp only [nD,Act.put,List.setIfInBounds_toArray,List.set_cons_zero,List.set_cons_succ]) (oK (aH,aT) _ ⟨hHeld,((xW)),((wK)),(jY BK.out),(jU HB.out)⟩)
        refine rC (Kd.int .i64) _ 3 ?hg (N:=49) ?hd (xs:=([aa]:List Int)) (inner:=[.int .i64 aa]) (ok:=fun _=>True) (okp:=fun _=>True) ?hr ?hp (fun _ hk=>hk) trivial (Below.refl _ _) (Nat.le_refl _) (by simp) ?_;(case hd=>rfl);(case hg=>rfl);(case hr=>first|(go_simp;done)|(go_simp;rfl));(case hp=>exact(kN.one (show Kd.M (Kd.int .i64) _ _ _ aa [.int .i64 aa] from rfl) (kN.none _ _)));intro aT cy aI hb hg_ lq;clear hg_ lq;(first|rw[←aD.out]at aI|(simp only [Int.reduceToNat]at aI;rw[←aD.out]at aI));have ac:=dm (kR aI (kK (jU HB.out)));replace BK:=jT BK hb;replace HB:=kg HB hb;clear hb aI;refine hK.out _ _ (jR BK 0) (fun hHeld=>?_);clear hK K;refine kM 49 ?_;refine lu 2 47 31 (fun K hK=>?_);refine mg Try.func103 (qy.calls (kz (lg am.out HB.out)) aw.out bQ.out) ?_;rintro e cJ ⟨aH,rfl,ak,hb⟩;refine⟨_,rfl,?_⟩;have ai:=dm (kR (lF ak (kW (jX ac.out))) (kK (jU HB.out)));replace ac:=lT ac ak hb;replace BK:=jT BK hb;replace HB:=kg HB hb;(try clear hb ak);refine hK.out _ _ (jR BK 0) (fun hHeld=>?_);clear hK K;refine kM 47 ?_;exact mO (by simp only [nD,Act.put,List.setIfInBounds_toArray,List.set_cons_zero,List.set_cons_succ]) (oK (aH,aT) _ ⟨hHeld,((xW)),((wK)),(jY BK.out),(jU HB.out)⟩)
       rintro⟨aH,aT⟩ cL ⟨hHeld,bR,bS,bT,bU⟩;clear BK HB;have ai:=dm bR;have ac:=dm bS;have BK:=dm bT;have HB:=dm bU;clear bR bS bT bU;obtain⟨cg,ch,ci⟩:=kJ ac.out;subst ci;refine mO (a':= ?_) ?_ ?_;rotate_left
       ·simp only [nD,Act.put,List.setIfInBounds_toArray,List.set_cons_zero,List.set_cons_succ];rfl
       refine lu 5 50 63 (fun K hK=>?_);refine zl (Kd.int .i64) (w0:=wr) wr.heap.size (by rfl) (.tmp 47) (.tmp 49) 45 3 (.int .i64 0) 8 rfl Try.underlying45 info3 rfl (by decide) (by omega) aH ae ah _ _ _ (fun k_=>some k_≠(.slice cg ah.length ch:Value).ownBlock) (fun _=>False) rfl rfl ?aO ?aR (fun _ _ h=>h) (fun _ h=>h.elim) ?aF ?aB ?aS ?aL ?_;(case aR=>exact kz (ku ac.out).2.2);(case aB=>exact(jU HB.out));(case aF=>exact(fun k_ hk=>Kd.fresh' (kW (jX ac.out)) k_ hk));(case aO=>exact(jX ai.out));(case aS=>exact(kK (jU HB.out)));(case aL=>have:=bF.out;omega);intro cF cM ho hb hg hat;rw[←bG.out]at ho;have n0:=lY BK hg (lU ai.out BK.out (by decide));clear BK ac HB ai;have BK:=n0;have HB:=dm hb;have aU:=dm ho;clear n0 ho hb hg hat;obtain⟨cj,ck,cl⟩:=kJ aU.out;subst cl;refine hK.out _ _ (jR BK 0) (fun hHeld=>?_);clear hK K;refine kM 50 ?_;refine lu 6 51 127 (fun K hK=>?_);have ax:=dm (oM.below HX.out (jU HB.out));have bV:=dm (qa HQ.out (jU HB.out));have bW:=dm (World.grownBy.trans HG.out (tT (jU HB.out) (some gB)));refine H8 (f:=102) (x:=.tmp 45) (first:= #[]) (cap:= #[.pointer (some ⟨gR,0,none⟩),.pointer (some ⟨gB,0,none⟩),.pointer (some ⟨gF,0,none⟩),.pointer (some ⟨gN,0,none⟩),.pointer (some ⟨gW,0,none⟩)]) Try.func102 (#[.slice cj bA.length ck]++ #[.pointer (some ⟨gR,0,none⟩),.pointer (some ⟨gB,0,none⟩),.pointer (some ⟨gF,0,none⟩),.pointer (some ⟨gN,0,none⟩),.pointer (some ⟨gW,0,none⟩)]) rfl rfl (by first|rfl|(simp only [List.map_toArray,List.map_cons,List.map_nil];rfl)) (by kernel_rfl) rfl (by rfl) rfl ?_;refine(ih ap (by have:=aY.out;have:=aG.out;omega) _ _ bA aj ao _ ?mV ax.out cx.out).mono ?_;(case mV=>exact kv (kR aU.out (Nat.zero_le _)) (fun _ _=>trivial));rintro e bX ⟨rfl,hx_,hg_⟩;refine⟨_,rfl,?_⟩;have n1:=dm (oM.way ax.out bV.out hg_);have n2:=dm (World.grownBy.trans bW.out hg_);have n3:=dm hx_;have n4:=dm (Below.refl bX.heap.size bX);have n5:=dm hx_.hW;clear HQ HX HG bV ax bW HB BK aU hx_ hg_ am;have HQ:=n1;have HG:=n2;have HX:=n3;have HB:=n4;have BK:=n5;clear n1 n2 n3 n4 n5;refine hK.out _ _ (jR BK 0) (fun hHeld=>?_);clear hK K;refine kM 51 ?_;refine mG (mU HT_.out (by kernel_rfl)) ?_;try go_wp2
       go_roundg ap
       case measure=>have:=aY.out;have:=aG.out;omega
       case rel=>exact⟨(ao),(wrap64 (aa+1)),(kD),H',⟨by have:=aY.out;have:=aG.out;omega⟩,⟨jX HQ.out⟩,⟨oM.below HX.out (jU HB.out)⟩,⟨World.grownBy.trans HG.out (tT (jU HB.out) _)⟩⟩
      replace ba:=Bool.eq_false_iff.mpr ba;subst ba;replace H:(mY.l0 ap l0 l1 aj (rd l0 (ab)) n (wrap64 (aa+1)) n l3)=some r:=by rw[if_neg (show¬ (false=true) by decide)]at H;exact H
      have H':=dm H;clear H
      go_wp2
      go_roundg ap
      case measure=>have:=aY.out;have:=aG.out;omega
      case rel=>exact⟨(aj),(wrap64 (aa+1)),(kD),H',⟨by have:=aY.out;have:=aG.out;omega⟩,⟨qa HQ.out (jU HB.out)⟩,⟨oM.below HX.out (jU HB.out)⟩,⟨World.grownBy.trans HG.out (tT (jU HB.out) _)⟩⟩
   obtain rfl:=Option.some.inj H
   go_wp2
   first|go_end0|refine bodyPost_ret (results_none rfl _ _ _) rfl ?_
   exact⟨rfl,oM.below HX.out (jU HB.out),World.grownBy.trans HG.out (tT (jU HB.out) _)⟩
def sQ.f (k:Nat) (av:Int) (al:List (S59)) (a1:Int) (l2:List Bool):Option (List Int):=mY.f k [a1] l2 [] av al
theorem sQ.calls {k:Nat}{av:Int}{aV:Option Addr}{aW:Nat}{al:List (S59)}{a1:Int}{A2:Option Addr}{c2:Nat}{l2:List Bool}{r:List Int}{w:World}(bf:Kd.C k59 w aV al.length al)(bh:al.length<=aW)(hr2:Kd.C Kd.bool w A2 l2.length l2)(bY:l2.length<=c2)(h:sQ.f k av al a1 l2=some r):
  Calls Try.prog 67 #[.agg #[.int .i64 av,.slice aV al.length aW],.int .i64 a1,.slice A2 l2.length c2] w fun e w'=>∃bZ:Value,e=.returned (bZ)/\Kd.R (Kd.int .i64) 3 w' w.heap.size (fun _=>True) bZ r/\Below w.heap.size w w':=by
 obtain⟨y0,bB⟩:∃y_:List Int,y_=(([]:List Int)):=⟨_,rfl⟩;obtain⟨y1,bC⟩:∃y_:List Int,y_=(([a1]:List Int)):=⟨_,rfl⟩;have H:mY.f k y1 l2 y0 av al=some r:=by rw[bB,bC];exact h
 have b3:=dm bB;have b4:=dm bC;have A1:=dm H;clear bB bC H h;have am:=dm bf;have cz:=dm hr2;clear bf hr2;have aw:=dm bh;have cA:=dm bY;clear bh bY;have hmf:∀ (fn:Fn) (first cap:Array Value) (w:World),(Instr.makeFunc fn first cap).run Try.prog w=.ok (.func fn first cap) w:=fun _ _ _ _=>rfl
 go_enter Try.func67,Try.ntmps67
 go_wp2_with (first
  |((with_reducible refine kF 3 rfl ?_);refine kZ #[.int .i64 av,.slice aV al.length aW] 31 ?_;intro gN hg w1 hN hb;have BN:=dm hN;have HB:=dm hb;clear hN hg hb)
  |((with_reducible refine kF 5 rfl ?_);refine kZ #[.slice A2 l2.length c2] 54 ?_;intro gR hg w2 hR hb;have BR:=dm hR;have n1:=jT BN hb;have n2:=kg HB hb;clear BN HB hb hg hR;have BN:=n1;have HB:=n2;clear n1 n2)
  |((with_reducible refine kF 10 rfl ?_);refine oL (Kd.int .i64) rfl 3 ([]:List Int) [] (kN.none _ _) ?_;intro v0 w3 ho hb hg_ lq;clear hg_ lq;(first|rw[←b3.out]at ho|(simp only [Int.reduceToNat]at ho;rw[←b3.out]at ho));have n0:=dm (kR ho (kK (jU HB.out)));have n1:=jT BN hb;have n2:=jT BR hb;have n3:=kg HB hb;clear BN BR HB hb ho;have HO:=n0;have BN:=n1;have BR:=n2;have HB:=n3;clear n0 n1 n2 n3;obtain⟨Ao,co,eo⟩:=kJ HO.out;subst eo)
  |((with_reducible refine kF 7 rfl ?_);refine kZ #[.slice none 0 0] 45 ?_;intro gB hg w4 hbB hb;have GE:=dm (show w.heap.size<=gB by rw[hg];exact(kK (jU HB.out)));have BB:=dm hbB;have n0:=kE HO hb;have n1:=jT BN hb;have n2:=jT BR hb;have n3:=kg HB hb;clear HO BN BR HB hb hg hbB;have HO:=n0;have BN:=n1;have BR:=n2;have HB:=n3;clear n0 n1 n2 n3;have hzB:w4.cell? ⟨gB,0,none⟩=some (.slice none 0 0):=(mi BB.out 0).trans rfl;have hfB:=l5 BB.out 0)
  |((with_reducible refine kF 8 rfl ?_);have n0:=dm (xH HO.out BB.out (by decide) 0 (.slice Ao y0.length co));have n1:=dm (pF BN.out (p:=⟨gB,0,none⟩) (rJ BN.out BB.out (by decide)) (.slice Ao y0.length co));have n2:=dm (pF BR.out (p:=⟨gB,0,none⟩) (rJ BR.out BB.out (by decide)) (.slice Ao y0.length co));have n3:=dm (nM (j:=0) (v:=.slice Ao y0.length co) HB.out GE.out);have n4:=dm (uO BB.out 0 (.slice Ao y0.length co) (cs':= #[.slice Ao y0.length co]) rfl);clear HO BN BR HB BB hzB hfB;have HO:=n0;have BN:=n1;have BR:=n2;have HB:=n3;have BB:=n4;clear n0 n1 n2 n3 n4;refine qz 8 #[.nilFunc] 73 ?_;intro gF hg w5 hbF hb;have GF:=dm (show w.heap.size<=gF by rw[hg];exact(kK (jU HB.out)));have BF:=dm hbF;have n0:=dm (qa HO.out hb);have n1:=dm (nW BN.out hb);have n2:=dm (nW BR.out hb);have n3:=dm (lX HB.out hb);have n4:=dm (nW BB.out hb);clear HO BN BR HB BB hb hg hbF;have HO:=n0;have BN:=n1;have BR:=n2;have HB:=n3;have BB:=n4;clear n0 n1 n2 n3 n4;have hzF:w5.cell? ⟨gF,0,none⟩=some .nilFunc:=(mi BF.out 0).trans rfl;have hfF:=l5 BF.out 0)
  |((with_reducible refine kF 9 rfl ?_);have n0:=dm (xH HO.out BF.out (by decide) 0 (.func (.func 100) #[] #[]));have n1:=dm (pF BN.out (p:=⟨gF,0,none⟩) (rJ BN.out BF.out (by decide)) (.func (.func 100) #[] #[]));have n2:=dm (pF BR.out (p:=⟨gF,0,none⟩) (rJ BR.out BF.out (by decide)) (.func (.func 100) #[] #[]));have n3:=dm (nM (j:=0) (v:=.func (.func 100) #[] #[]) HB.out GF.out);have n4:=dm (pF BB.out (p:=⟨gF,0,none⟩) (rJ BB.out BF.out (by decide)) (.func (.func 100) #[] #[]));have n5:=dm (uO BF.out 0 (.func (.func 100) #[] #[]) (cs':= #[.func (.func 100) #[] #[]]) rfl);clear HO BN BR HB BB BF hzF hfF;have HO:=n0;have BN:=n1;have BR:=n2;have HB:=n3;have BB:=n4;have BF:=n5;clear n0 n1 n2 n3 n4 n5;refine qz 9 #[.nilFunc] 108 ?_;intro gW hg w6 hbW hb;have GW:=dm (show w.heap.size<=gW by rw[hg];exact(kK (jU HB.out)));have BW:=dm hbW;have n0:=dm (qa HO.out hb);have n1:=dm (nW BN.out hb);have n2:=dm (nW BR.out hb);have n3:=dm (lX HB.out hb);have n4:=dm (nW BB.out hb);have n5:=dm (nW BF.out hb);clear HO BN BR HB BB BF hb hg hbW;have HO:=n0;have BN:=n1;have BR:=n2;have HB:=n3;have BB:=n4;have BF:=n5;clear n0 n1 n2 n3 n4 n5;have hzW:w6.cell? ⟨gW,0,none⟩=some .nilFunc:=(mi BW.out 0).trans rfl;have hfW:=l5 BW.out 0)
  |((with_reducible refine kF 14 rfl ?_);have HX:=dm (show oM w gR gB gF gN gW A2 c2 l2 av aV aW al y0 (w6.setCell ⟨gW,0,none⟩ (.func (.func 102) #[] #[.pointer (some ⟨gR,0,none⟩),.pointer (some ⟨gB,0,none⟩),.pointer (some ⟨gF,0,none⟩),.pointer (some ⟨gN,0,none⟩),.pointer (some ⟨gW,0,none⟩)])) from⟨nM HB.out GW.out,GE.out,pF BR.out (rJ BR.out BW.out (by decide)) _,pF BN.out (rJ BN.out BW.out (by decide)) _,pF BF.out (rJ BF.out BW.out (by decide)) _,uO BW.out 0 (.func (.func 102) #[] #[.pointer (some ⟨gR,0,none⟩),.pointer (some ⟨gB,0,none⟩),.pointer (some ⟨gF,0,none⟩),.pointer (some ⟨gN,0,none⟩),.pointer (some ⟨gW,0,none⟩)]) rfl,Ao,co,pF BB.out (rJ BB.out BW.out (by decide)) _,xH HO.out BW.out (by decide) 0 _⟩);clear HO BN BR HB BB BF BW hzW hfW;refine oL (Kd.int .i64) rfl 3 ([a1]:List Int) [.int .i64 a1] (kN.one (show Kd.M (Kd.int .i64) _ _ _ a1 [.int .i64 a1] from rfl) (kN.none _ _)) ?_;intro v1 w7 ho hb hg_ lq;clear hg_ lq;(first|rw[←b4.out]at ho|(simp only [Int.reduceToNat]at ho;rw[←b4.out]at ho));have n0:=dm (kR ho (Nat.zero_le _));have n1:=dm (oM.below HX.out hb);clear HX hb ho;have HX:=n1;have HO:=n0;clear n0 n1;obtain⟨Ap,cp,ep⟩:=kJ HO.out;subst ep)
  |((with_reducible refine kF 15 rfl ?_);refine H7 (some 15) rfl rfl (f:=102) (x:=.tmp 12) (first:= #[]) (cap:= #[.pointer (some ⟨gR,0,none⟩),.pointer (some ⟨gB,0,none⟩),.pointer (some ⟨gF,0,none⟩),.pointer (some ⟨gN,0,none⟩),.pointer (some ⟨gW,0,none⟩)]) Try.func102 (#[.slice Ap y1.length cp]++ #[.pointer (some ⟨gR,0,none⟩),.pointer (some ⟨gB,0,none⟩),.pointer (some ⟨gF,0,none⟩),.pointer (some ⟨gN,0,none⟩),.pointer (some ⟨gW,0,none⟩)]) rfl rfl (by first|rfl|(simp only [List.map_toArray,List.map_cons,List.map_nil];rfl)) (by kernel_rfl) rfl ?_;refine(mY.calls cz.out cA.out am.out aw.out k _ _ y1 y0 r _ HO.out HX.out A1.out).mono ?_;rintro e w8 ⟨rfl,hx_,hg_⟩;refine⟨_,rfl,?_⟩;obtain⟨Ar,cr,hbr,hrr⟩:=hx_.hB;have HRR:=dm hrr;have HBB:=dm hx_.b;have hzR:w8.cell? ⟨gB,0,none⟩=some (.slice Ar r.length cr):=(mi hbr 0).trans rfl;clear HX hx_ hg_ hbr hrr))
 go_ret
 exact⟨_,rfl,HRR.out,HBB.out⟩
end Go.Proofs.Ytgeonpciodepgaa.P
