/- The proof's parts ahead of the row: of no condition of their own. -/
import Derived.Test.YtgeonpciodepgaaZFnEarFirst1
import Derived.Lib.SliceRun
import Derived.Laws.EntriesVeiled
set_option linter.unusedVariables false
set_option linter.unusedSimpArgs false
namespace Go.Proofs.Ytgeonpciodepgaa.P
set_option maxHeartbeats 8000000
set_option maxRecDepth 100000
open Go.RowKit Go.Proofs.YtgeonpciodepgaaW.PrintWords Go.Proofs.YtgeonpciodepgaaW.PrintLast Go.Proofs.YtgeonpciodepgaaW.PrintMore Go.Proofs.YtgeonpciodepgaaW.PrintWords.Kd Go.Proofs.YtgeonpciodepgaaW.PrintMore.Kd
attribute [local go_sem] wu wB wz wE wy wD ww wC
variable {p:Prop}
theorem Da(h:p:=by exact lH ab.out):p:=h
theorem Db(h:p:=by(try simp only [List.map_toArray,List.map_cons,List.map_nil]);first|done|(simp only [bY];rfl)|rfl|(simp only [List.length_drop,List.length_take];rfl)):p:=h
theorem Dc(h:p:=by(with_reducible repeat(first|apply kI|apply kJ|apply kv));exact kw aa.out (fun _ hk=>⟨trivial,hk⟩)):p:=h
theorem De(h:p:=by(with_reducible repeat(first|apply kI|apply kJ|apply kv));exact kw ao.out (fun _ hk=>⟨trivial,hk⟩)):p:=h
theorem t_(h:p:=by(with_reducible repeat(first|apply oH|apply oI|apply nI));exact qI al.out (fun _ hk=>⟨hk.2,hk.1⟩)):p:=h
theorem Df(h:p:=by(with_reducible repeat(first|apply kI|apply kJ|apply kv));exact kw ao.out (fun _ hk=>hk.2)):p:=h
theorem sJ(h:p:=by(with_reducible repeat(first|apply oH|apply oI|apply nI));exact aK.out):p:=h
theorem mR(h:p:=by(with_reducible repeat(first|apply oH|apply oI|apply nI));exact al.out):p:=h
theorem xn(h:p:=by have:=bm.out;have:=bn.out;have:=bU.out;have:=b8.out;omega):p:=h
theorem ky(h:p:=by decide):p:=h
mutual
def lh.j0:Nat->List (List Int)->Bool->Int->List (S59)->Option ((List (List Int))×Bool)
 |0,_,_,_,_=>none
 |k+1,x4,gi,av,ax=>if gi=true then(some (x4,false)) else((oZ.f av ax).bind fun bH=>(lh.l0 k x4 (([0]:List Int)) av ax bH.1 bH.2))
def lh.l0:Nat->List (List Int)->List Int->Int->List (S59)->Int->List (S59)->Option ((List (List Int))×Bool)
 |0,_,_,_,_,_,_=>none
 |k+1,x4,x6,av,ax,aA,ay=>if(ay.length:Int)>0 then(lh.l1 k x4 x6 0 av ax aA ay) else(some (x4,true))
def lh.j3:Nat->List (List Int)->List Int->Int->Int->List (S59)->Int->List (S59)->Option ((List (List Int))×Bool)
 |0,_,_,_,_,_,_,_=>none
 |k+1,x4,x6,x7,av,ax,aA,ay=>(mD.f k aA ay x6 x7).bind fun cT=>(if cT.2=true then(lh.l2 k x4 x6 cT.1 (([]:List (S59))) 0 av ax aA ay) else(some ((([]:List (List Int))),false)))
def lh.l2:Nat->List (List Int)->List Int->List Int->List (S59)->Int->Int->List (S59)->Int->List (S59)->Option ((List (List Int))×Bool)
 |0,_,_,_,_,_,_,_,_,_=>none
 |k+1,x4,x6,x8,cu,a5,av,ax,aA,ay=>if a5<(x8.length:Int) then(if a5>0 then(if 0<=(wrap64 (a5 - 1)) then(if(wrap64 (a5 - 1))<(x8.length:Int) then(if 0<=a5 then((qP.f (rd x8 (wrap64 (a5 - 1))) (rd x8 a5)).bind fun bI=>(if cu.length<8796093022208 then((some (cu++[(⟨bI.1,bI.2⟩:S59)]:List (S59))).bind fun aM=>((ol.f k x6 (rd x8 a5)).bind fun ba=>(if ba=true then(lh.l2 k x4 x6 x8 aM (wrap64 (a5+1)) av ax aA ay) else(if x6.length<17592186044416 then(lh.l2 k x4 (x6++[rd x8 a5]) x8 aM (wrap64 (a5+1)) av ax aA ay) else(none))))) else(none))) else(none)) else(none)) else(none)) else(if 0<=a5 then((ol.f k x6 (rd x8 a5)).bind fun cj=>(if cj=true then(lh.l2 k x4 x6 x8 cu (wrap64 (a5+1)) av ax aA ay) else(if x6.length<17592186044416 then(lh.l2 k x4 (x6++[rd x8 a5]) x8 cu (wrap64 (a5+1)) av ax aA ay) else(none)))) else(none))) else((nP.f k aA ay cu).bind fun cU=>(if x4.length<5864062014805 then(lh.l0 k (x4++[x8]) x6 av ax cU.1 cU.2) else(none)))
def lh.l1:Nat->List (List Int)->List Int->Int->Int->List (S59)->Int->List (S59)->Option ((List (List Int))×Bool)
 |0,_,_,_,_,_,_,_=>none
 |k+1,x4,x6,x7,av,ax,aA,ay=>if x7<av then((ol.f k x6 x7).bind fun ck=>(if ck=true then((uU.f k aA ay x7).bind fun bo=>(if bo=true then(lh.l1 k x4 x6 (wrap64 (x7+1)) av ax aA ay) else(lh.j3 k x4 x6 x7 av ax aA ay))) else(lh.l1 k x4 x6 (wrap64 (x7+1)) av ax aA ay))) else(lh.j3 k x4 x6 x7 av ax aA ay)
end
def lh.f (k:Nat) (ag:Int) (ai:List (S59)):Option ((List (List Int))×Bool):=(some (([]:List (List Int)):List (List Int))).bind fun aw=>((mf.f k ag ai).bind fun bp=>(if bp=true then(if ag<3 then(lh.j0 k aw true ag ai) else((oJ.f k ag ai).bind fun aN=>(if aN=1 then((nO.f k ag ai).bind fun a2=>(lh.j0 k aw (decide ((a2.length:Int)>0)) ag ai)) else(lh.j0 k aw true ag ai)))) else(lh.j0 k aw true ag ai)))
def lh.T18:Bool×List (List Nat×List Nat):=(true,[([],[]),([],[]),([],[]),([2],[2]),([1,3],[1,3]),([4],[4]),([],[]),([],[]),([6,7],[6,7]),([8],[8]),([5,9],[5,9]),([10],[10]),([0,11,10],[0,11]),([12,12,0,1,2,3,4,5,6,7,8,9,10,11,12],[0,12])])
def lh.B18:List Nat:=[0,0,0,4,14,30,0,0,192,448,1022,2046,4095,8191]
theorem lh.ET:mK .any (opsOf Try.f22 18)=lh.T18:=by kernel_rfl
theorem lh.Ch:nM lh.T18.2 lh.B18=true:=by kernel_rfl
theorem lh.calls {k:Nat}{ag:Int}{aQ:Option Addr}{aR:Nat}{ai:List (S59)}{r1:List (List Int)}{r2:Bool}{w:World}(cW:Kd.C k59 w aQ ai.length ai)(cX:ai.length<=aR)(h:lh.f k ag ai=some (r1,r2)):
  Calls Try.prog 22 #[.agg #[.int .i64 ag,.slice aQ ai.length aR]] w fun e w'=>∃eu:Value,e=.returned (.tuple #[eu,.bool r2])/\Kd.S (Kd.slice 3 (Kd.int .i64)) 45 w' w.heap.size (fun _=>True) eu r1/\Below w.heap.size w w':=by
 have g7:=Try.underlying31;have a7:=dm cW;have a8:=dm cX;clear cW cX;have HB:=dm (Below.refl w.heap.size w);unfold lh.f at h;have H:=h;clear h;obtain⟨aw,bJ⟩:∃y_:List (List Int),y_=(([]:List (List Int))):=⟨_,rfl⟩;replace H:((mf.f k ag ai).bind fun bp=>(if bp=true then(if ag<3 then(lh.j0 k aw true ag ai) else((oJ.f k ag ai).bind fun aN=>(if aN=1 then((nO.f k ag ai).bind fun a2=>(lh.j0 k aw (decide ((a2.length:Int)>0)) ag ai)) else(lh.j0 k aw true ag ai)))) else(lh.j0 k aw true ag ai)))=some (r1,r2):=l5 bJ H
 have cY:=dm bJ;clear bJ;have dJ:=dm H;clear H
 go_enter Try.func22,Try.ntmps22
 go_upto_region 2 with(first|((with_reducible refine kE 1 rfl ?_);(try(refine nN (by rfl) ?_;dsimp only));refine pU 1 #[.int .i64 ag,.slice aQ ai.length aR] 31 ?_;intro aW hg w3 jV hb;have ab:=dm (jV);have gH:=dm ((by rw[hg];exact(kM (jT HB.out)):w.heap.size<=aW));have gI:=dm ((by rw[hg];exact(kM (jT HB.out)):w.heap.size<=aW));replace HB:=kg HB hb;clear hb jV hg)|((with_reducible refine kE 12 rfl ?_);(try(refine nN (by rfl) ?_;dsimp only));refine xZ (Kd.slice 3 (Kd.int .i64)) _ 45 ?hg (N:=12) ?hd (xs:=([]:List (List Int))) (inner:=[]) (ok:=fun _=>True) (okp:=fun _=>True) ?hr ?hp (fun _ hk=>hk) trivial (Below.refl _ _) (Nat.le_refl _) (by simp) ?_;(case hd=>rfl);(case hg=>rfl);(case hr=>first|(go_simp;done)|(go_simp;rfl));(case hp=>exact(kN.none _ _));intro eC w4 cA hb hg_ lD;clear hg_ lD;(first|rw[←cY.out]at cA|(simp only [Int.reduceToNat]at cA;rw[←cY.out]at cA));have aK:=dm (vQ cA (kM (jT HB.out)));replace ab:=jU ab hb;replace HB:=kg HB hb;clear hb cA))
 (try simp only [Act.put,List.setIfInBounds_toArray,List.set_cons_zero,List.set_cons_succ])
 go_cut [31] (fun gj wc=>∃ (kq:Nat) (bZ:Bool),gj=.bool bZ/\jP (lh.j0 kq aw bZ ag ai=some (r1,r2))/\jP (kq<=k)/\jP (Kd.S (Kd.slice 3 (Kd.int .i64)) 45 wc w.heap.size (fun _=>True) eC aw)/\jP (wc.heap[aW]? =some (.cells #[.int .i64 ag,(.slice aQ ai.length aR)] 31 (0,0)))/\jP (Below w.heap.size w wc))
 case first=>
  have H:=dJ.out;clear dJ;obtain⟨bp,A6,H⟩:=kS H;(try dsimp only at H)
  rcases mE H with⟨h_,H_⟩|⟨h_,H_⟩<;> (subst h_;clear H;have H:=H_;clear H_)
  ·skip
   replace H:=mo H;rcases H with⟨b6,H⟩|⟨b6,H⟩
   ·(first|rw[b6]|(simp only [mP,nD];rw[b6])|skip);have H':=dm H;clear H;have⟨gl,gm,gn,gp⟩:=ko (w:=w4) ab
    go_wp2_with (first|((with_reducible refine kV 32 rfl ?_);refine nU 14 rfl Try.func32 (mf.calls (kz (kW a7.out HB.out)) a8.out A6.out) ?_;intro gq hb;replace aK:=dm (om (sJ) hb);replace ab:=jU ab hb;replace HB:=kg HB hb;(try clear hb);have⟨fk,fm,fo,fp⟩:=ko (w:=gq) ab))
    go_meet
    case rel=>exact⟨_,(true),(kD),H',⟨by first|omega|exact Nat.le_refl _⟩,⟨sJ⟩,⟨jZ ab.out⟩,⟨jT HB.out⟩⟩
   (first|rw[b6]|(simp only [mP,nD];rw[b6])|skip);obtain⟨aN,ev,H⟩:=kS H;(try dsimp only at H)
   by_cases b7:aN=1
   ·rw[if_pos b7]at H;have dX:=beq_iff_eq.mpr b7;have dY:=bne_eq_false_iff_eq.mpr b7;clear b7;obtain⟨a2,gr,H⟩:=kS H;(try dsimp only at H);have H':=dm H;clear H;have⟨fq,ft,fu,fv⟩:=ko (w:=w4) ab
    go_wp2_with (first|((with_reducible refine kV 32 rfl ?_);refine nU 14 rfl Try.func32 (mf.calls (kz (kW a7.out HB.out)) a8.out A6.out) ?_;intro gt hb;replace aK:=dm (om (sJ) hb);replace ab:=jU ab hb;replace HB:=kg HB hb;(try clear hb);have⟨fw,fx,fy,fz⟩:=ko (w:=gt) ab)|(go_at_call 57;refine(oJ.calls (kz (kW a7.out HB.out)) a8.out ev.out).mono ?_;rintro e gu ⟨rfl,hb⟩;replace aK:=dm (om (sJ) hb);replace ab:=jU ab hb;replace HB:=kg HB hb;(try clear hb);have⟨fA,fB,fC,fD⟩:=ko (w:=gu) ab)|(go_at_call 58;refine(nO.calls (kz (kW a7.out HB.out)) a8.out gr.out).mono ?_;rintro e iy ⟨g8,rfl,a3,hb⟩;replace aK:=dm (om (sJ) hb);have dZ:=dm (kR a3 (kM (jT HB.out)));replace ab:=jU ab hb;replace HB:=kg HB hb;(try clear hb a3);obtain⟨g9,g_,eD⟩:=kL dZ.out;subst eD))
    go_meet
    case rel=>exact⟨_,(decide ((a2.length:Int)>0)),(kD),H',⟨by first|omega|exact Nat.le_refl _⟩,⟨sJ⟩,⟨jZ ab.out⟩,⟨jT HB.out⟩⟩
   rw[if_neg b7]at H;have dX:=beq_eq_false_iff_ne.mpr b7;have dY:=bne_iff_ne.mpr b7;have H':=dm H;clear H;have⟨fE,fF,fG,fH⟩:=ko (w:=w4) ab
   go_wp2_with (first|((with_reducible refine kV 32 rfl ?_);refine nU 14 rfl Try.func32 (mf.calls (kz (kW a7.out HB.out)) a8.out A6.out) ?_;intro gv hb;replace aK:=dm (om (sJ) hb);replace ab:=jU ab hb;replace HB:=kg HB hb;(try clear hb);have⟨fI,fJ,fK,fL⟩:=ko (w:=gv) ab)|(go_at_call 57;refine(oJ.calls (kz (kW a7.out HB.out)) a8.out ev.out).mono ?_;rintro e iz ⟨rfl,hb⟩;replace aK:=dm (om (sJ) hb);replace ab:=jU ab hb;replace HB:=kg HB hb;(try clear hb)))
   go_meet
   case rel=>exact⟨_,(true),(kD),H',⟨by first|omega|exact Nat.le_refl _⟩,⟨sJ⟩,⟨jZ ab.out⟩,⟨jT HB.out⟩⟩
  have H':=dm H;clear H;have⟨fM,fN,fO,fP⟩:=ko (w:=w4) ab
  go_wp2_with (first|((with_reducible refine kV 32 rfl ?_);refine nU 14 rfl Try.func32 (mf.calls (kz (kW a7.out HB.out)) a8.out A6.out) ?_;intro iA hb;replace aK:=dm (om (sJ) hb);replace ab:=jU ab hb;replace HB:=kg HB hb;(try clear hb)))
  go_meet
  case rel=>exact⟨_,(true),(kD),H',⟨by first|omega|exact Nat.le_refl _⟩,⟨sJ⟩,⟨jZ ab.out⟩,⟨jT HB.out⟩⟩
 case rest=>
  clear dJ;obtain⟨kq,bZ,rfl,HA,bm,al,ab,HB⟩:=hcut;cases kq with
  |zero=>exact absurd HA.out (by simp[lh.j0])
  |succ cD=>
   have H:=HA.out;clear HA;simp only [lh.j0]at H
   rcases mE H with⟨h_,H_⟩|⟨h_,H_⟩<;> (subst h_;clear H;have H:=H_;clear H_)
   ·simp only [Option.some.injEq,Prod.mk.injEq]at H;obtain⟨rfl,rfl⟩:=H
    go_wp2
    go_ret2
    exact⟨_,mV,by(with_reducible repeat(first|apply oH|apply oI|apply nI));exact al.out,jT HB.out⟩
   obtain⟨⟨bq,br⟩,gw,H⟩:=kS H;(try dsimp only at H);obtain⟨dK,bK⟩:∃y_:List Int,y_=(([0]:List Int)):=⟨_,rfl⟩;replace H:(lh.l0 cD aw dK ag ai bq br)=some (r1,r2):=l5 bK H
   have cZ:=dm bK;clear bK;have H':=dm H;clear H;have⟨dv,dw,dx,dy⟩:=ko (w:=wc) ab
   go_wp2_with (first|((with_reducible refine kV 59 rfl ?_);refine lN 34 rfl Try.func59 (oZ.calls (kz (kW a7.out HB.out)) a8.out gw.out) ?_;rintro e iB ⟨hD,rfl,a3,hb⟩;refine⟨_,rfl,?_⟩;replace al:=dm (om (mR) hb);have a9:=dm (kR a3 (kM (jT HB.out)));replace ab:=jU ab hb;replace HB:=kg HB hb;(try clear hb a3))|((with_reducible refine kE 5 rfl ?_);(try(refine nN (by rfl) ?_;dsimp only));refine pU 5 #[.int .i64 0,.slice none 0 0] 31 ?_;intro au hg gx jV hb;replace al:=dm (om (mR) hb);replace a9:=kH a9 hb;have ae:=dm (jV);have gJ:=dm ((by rw[hg];exact(kM (jT HB.out)):w.heap.size<=au));have gK:=dm ((by rw[hg];exact(kM (jT HB.out)):w.heap.size<=au));replace HB:=kg HB hb;have aC:=dm ((by rw[hg];exact Nat.ne_of_lt (lM (g:=aW) (o:=.cells #[.int .i64 ag,.slice aQ ai.length aR] 31 (0,0)) (jZ ab.out)):aW≠au));have aG:=dm ((by rw[hg];exact Nat.ne_of_gt (lM (g:=aW) (o:=.cells #[.int .i64 ag,.slice aQ ai.length aR] 31 (0,0)) (jZ ab.out)):au≠aW));replace ab:=jU ab hb;clear hb jV hg;have gM:=aG.out;have gN:=aC.out;have⟨dz,dA,dB,dC⟩:=ko (w:=gx) ae;obtain⟨cl,cm,eE⟩:=kL a9.out;subst eE)|((with_reducible refine kE 35 rfl ?_);(try(refine nN (by rfl) ?_;dsimp only));refine oW (Kd.int .i64) rfl 3 ([0]:List Int) [.int .i64 0] (kN.one (show Kd.M (Kd.int .i64) _ _ _ 0 [.int .i64 0] from rfl) (kN.none _ _)) ?_;intro hJ iC bV hb hg_ lD;clear hg_ lD;(first|rw[←cZ.out]at bV|(simp only [Int.reduceToNat]at bV;rw[←cZ.out]at bV));replace al:=dm (rU (by(with_reducible repeat(first|apply oH|apply oI|apply nI));exact(qI (uA (p:=⟨au,1,none⟩) (uA (p:=⟨au,0,none⟩) (yg al.out ae.out (ky)) (fun _ hk=>hk.2) (.int .i64 bq)) (fun _ hk=>hk.2) (.slice cl br.length cm)) (fun _ h_=>h_.1))) (qg bV) hb);replace a9:=dm (qb (by(with_reducible repeat(first|apply kI|apply kJ|apply kv));exact(kw (kG (p:=⟨au,1,none⟩) (kG (p:=⟨au,0,none⟩) (lJ a9.out ae.out (ky)) (fun _ hk=>hk.2) (.int .i64 bq)) (fun _ hk=>hk.2) (.slice cl br.length cm)) (fun _ h_=>h_.1))) hb);have d7:=dm (kR bV (kM (jT HB.out)));replace ab:=dm (nY (g:=aW) (o:=.cells #[.int .i64 ag,.slice aQ ai.length aR] 31 (0,0)) (Da) hb);replace ae:=dm (nY (g:=au) (o:=.cells #[.int .i64 bq,.slice cl br.length cm] 31 (0,0)) (lH ae.out) hb);replace HB:=kg HB hb;clear hb bV))
   go_loopg [4,6] cD (fun kq v4 v6 w'=>∃ (aq:List (List Int)) (aD:List Int) (ah:Int) (ac:List (S59)) (bW:Value),jP (lh.l0 kq aq aD ag ai ah ac=some (r1,r2))/\jP (kq<=cD)/\jP (Kd.S (Kd.slice 3 (Kd.int .i64)) 45 w' w.heap.size (fun k_=>some k_≠(v6:Value).ownBlock) v4 aq)/\jP (Kd.R (Kd.int .i64) 3 w' w.heap.size (fun _=>True) v6 aD)/\jP (Kd.R k59 59 w' w.heap.size (fun _=>True) bW ac)/\jP (w'.heap[aW]? =some (.cells #[.int .i64 ag,(.slice aQ ai.length aR)] 31 (0,0)))/\jP (w'.heap[au]? =some (.cells #[.int .i64 ah,bW] 31 (0,0)))/\jP (Below w.heap.size w w'))
   case atStart=>exact⟨(aw),(dK),(bq),(br),(.slice cl br.length cm),H',⟨Nat.le_refl _⟩,⟨by(with_reducible repeat(first|apply oH|apply oI|apply nI));exact qI al.out (fun _ hk=>hk.2)⟩,⟨jX d7.out⟩,⟨jX a9.out⟩,⟨jZ ab.out⟩,⟨jZ ae.out⟩,⟨jT HB.out⟩⟩
   case round=>
    clear H';(try clear cE dv dw dz dA dx dy dB dC);obtain⟨aq,aD,ah,ac,bW,HA,bn,al,aj,aa,ab,ae,HB⟩:=hrel;cases gk with
    |zero=>exact absurd HA.out (by simp[lh.l0])
    |succ k2=>
     have H:=HA.out;clear HA;simp only [lh.l0]at H
     by_cases b9:(ac.length:Int)>0;rotate_left
     ·rw[if_neg b9]at H;have cn:=decide_eq_false b9;have co:decide (0<ac.length)=false:=decide_eq_false (by omega);clear b9;simp only [Option.some.injEq,Prod.mk.injEq]at H;obtain⟨rfl,rfl⟩:=H;have gF:=aG.out;have gG:=aC.out;have⟨fg,fh,fi,fj⟩:=ko (w:=wr) ae;obtain⟨g5,g6,et⟩:=kL aa.out;subst et
      go_wp2
      go_ret2
      exact⟨_,mV,by(with_reducible repeat(first|apply oH|apply oI|apply nI));exact qI al.out (fun _ hk=>trivial),jT HB.out⟩
     rw[if_pos b9]at H;have cn:=decide_eq_true b9;have co:decide (0<ac.length)=true:=decide_eq_true (by omega);clear b9;have cG:=dm H;clear H;have gO:=aG.out;have gP:=aC.out;have⟨b_,ca,cd,ce⟩:=ko (w:=wr) ae;obtain⟨aT,aU,eF⟩:=kL aa.out;subst eF
     go_upto_block 2 with(fail)
     go_cut [7] (fun v7 wc=>∃ (kq:Nat) (bk:Int),v7=.int .i64 bk/\jP (lh.j3 kq aq aD bk ag ai ah ac=some (r1,r2))/\jP (kq<=k2)/\jP (Kd.S (Kd.slice 3 (Kd.int .i64)) 45 wc w.heap.size (fun k_=>some k_≠(u6:Value).ownBlock) u4 aq)/\jP (Kd.R (Kd.int .i64) 3 wc w.heap.size (fun _=>True) u6 aD)/\jP (Kd.R k59 59 wc w.heap.size (fun _=>True) (.slice aT ac.length aU) ac)/\jP (wc.heap[aW]? =some (.cells #[.int .i64 ag,(.slice aQ ai.length aR)] 31 (0,0)))/\jP (wc.heap[au]? =some (.cells #[.int .i64 ah,(.slice aT ac.length aU)] 31 (0,0)))/\jP (Below w.heap.size w wc))
     case first=>
      have H:=cG.out;clear cG;have H':=dm H;clear H
      go_wp2
      go_loopg [7] k2 (fun kq v7 w'=>∃ (aE:Int),v7=.int .i64 aE/\jP (lh.l1 kq aq aD aE ag ai ah ac=some (r1,r2))/\jP (kq<=k2)/\jP (Kd.S (Kd.slice 3 (Kd.int .i64)) 45 w' w.heap.size (fun k_=>some k_≠(u6:Value).ownBlock) u4 aq)/\jP (Kd.R (Kd.int .i64) 3 w' w.heap.size (fun _=>True) u6 aD)/\jP (Kd.R k59 59 w' w.heap.size (fun _=>True) (.slice aT ac.length aU) ac)/\jP (w'.heap[aW]? =some (.cells #[.int .i64 ag,(.slice aQ ai.length aR)] 31 (0,0)))/\jP (w'.heap[au]? =some (.cells #[.int .i64 ah,(.slice aT ac.length aU)] 31 (0,0)))/\jP (Below w.heap.size w w'))
      case atStart=>exact⟨(0),(kD),H',⟨Nat.le_refl _⟩,⟨mR⟩,⟨jX aj.out⟩,⟨jX aa.out⟩,⟨jZ ab.out⟩,⟨jZ ae.out⟩,⟨jT HB.out⟩⟩
      case round=>
       clear H';(try clear cn co b_ ca cd ce);obtain⟨aE,rfl,HA,cf,al,aj,aa,ab,ae,HB⟩:=hrel;cases gk with
       |zero=>exact absurd HA.out (by simp[lh.l1])
       |succ k3=>
        have H:=HA.out;clear HA;simp only [lh.l1]at H
        replace H:=mo H;rcases H with⟨bL,H⟩|⟨bL,H⟩
        ·(first|rw[bL]|(simp only [mP,nD];rw[bL])|skip);obtain⟨ck,dL,H⟩:=kS H;(try dsimp only at H)
         rcases mE H with⟨h_,H_⟩|⟨h_,H_⟩<;> (subst h_;clear H;have H:=H_;clear H_)
         ·obtain⟨bo,ew,H⟩:=kS H;(try dsimp only at H)
          rcases mE H with⟨h_,H_⟩|⟨h_,H_⟩<;> (subst h_;clear H;have H:=H_;clear H_)
          ·have H':=dm H;clear H;have gQ:=aC.out;have gR:=aG.out;have⟨fQ,fR,fS,fT⟩:=ko (w:=wr) ab;obtain⟨hU,hV,eG⟩:=kL aj.out;subst eG
           go_wp2_with (first|(go_at_call 47;refine(ol.calls (kz (ku aj.out).2.2) ((ku aj.out).2.1) dL.out).mono ?_;rintro e w' ⟨rfl,⟨nd,rfl⟩⟩;have⟨fU,fV,fW,fX⟩:=ko (w:=wr) ae)|(go_at_call 60;refine(uU.calls (kz (ku aa.out).2.2) ((ku aa.out).2.1) ew.out).mono ?_;rintro e iD ⟨rfl,hb⟩;replace al:=dm (om (mR) hb);replace aj:=kH aj hb;replace aa:=kH aa hb;replace ab:=jU ab hb;replace ae:=jU ae hb;replace HB:=kg HB hb;(try clear hb)))
           go_roundg k3
           case measure=>have:=bm.out;have:=bn.out;have:=cf.out;omega
           case rel=>exact⟨(wrap64 (aE+1)),(kD),H',⟨by have:=bm.out;have:=bn.out;have:=cf.out;omega⟩,⟨mR⟩,⟨jX aj.out⟩,⟨jX aa.out⟩,⟨jZ ab.out⟩,⟨jZ ae.out⟩,⟨jT HB.out⟩⟩
          have H':=dm H;clear H;have gS:=aC.out;have gT:=aG.out;have⟨fY,fZ,f2,f3⟩:=ko (w:=wr) ab;obtain⟨hX,hY,eH⟩:=kL aj.out;subst eH
          go_wp2_with (first|(go_at_call 47;refine(ol.calls (kz (ku aj.out).2.2) ((ku aj.out).2.1) dL.out).mono ?_;rintro e w' ⟨rfl,⟨nd,rfl⟩⟩;have⟨f4,f5,f6,f7⟩:=ko (w:=wr) ae)|(go_at_call 60;refine(uU.calls (kz (ku aa.out).2.2) ((ku aa.out).2.1) ew.out).mono ?_;rintro e iE ⟨rfl,hb⟩;replace al:=dm (om (mR) hb);replace aj:=kH aj hb;replace aa:=kH aa hb;replace ab:=jU ab hb;replace ae:=jU ae hb;replace HB:=kg HB hb;(try clear hb)))
          go_meet
          case rel=>exact⟨_,(aE),(kD),H',⟨by have:=bm.out;have:=bn.out;have:=cf.out;first|omega|exact Nat.le_refl _⟩,⟨mR⟩,⟨jX aj.out⟩,⟨jX aa.out⟩,⟨jZ ab.out⟩,⟨jZ ae.out⟩,⟨jT HB.out⟩⟩
         have H':=dm H;clear H;have gU:=aC.out;have gV:=aG.out;have⟨f8,f9,f_,ga⟩:=ko (w:=wr) ab;obtain⟨hZ,ia,eI⟩:=kL aj.out;subst eI
         go_wp2_with (first|(go_at_call 47;refine(ol.calls (kz (ku aj.out).2.2) ((ku aj.out).2.1) dL.out).mono ?_;rintro e w' ⟨rfl,⟨nd,rfl⟩⟩))
         go_roundg k3
         case measure=>have:=bm.out;have:=bn.out;have:=cf.out;omega
         case rel=>exact⟨(wrap64 (aE+1)),(kD),H',⟨by have:=bm.out;have:=bn.out;have:=cf.out;omega⟩,⟨mR⟩,⟨jX aj.out⟩,⟨jX aa.out⟩,⟨jZ ab.out⟩,⟨jZ ae.out⟩,⟨jT HB.out⟩⟩
        (first|rw[bL]|(simp only [mP,nD];rw[bL])|skip);have H':=dm H;clear H;have gW:=aC.out;have gX:=aG.out;have⟨gb,gc,ge,gf⟩:=ko (w:=wr) ab
        go_wp2
        go_meet
        case rel=>exact⟨_,(aE),(kD),H',⟨by have:=bm.out;have:=bn.out;have:=cf.out;first|omega|exact Nat.le_refl _⟩,⟨mR⟩,⟨jX aj.out⟩,⟨jX aa.out⟩,⟨jZ ab.out⟩,⟨jZ ae.out⟩,⟨jT HB.out⟩⟩
     case rest=>
      clear cG;(try clear cn co b_ ca cd ce);obtain⟨kq,bk,rfl,HA,bU,al,aj,aa,ab,ae,HB⟩:=hcut;cases kq with
      |zero=>exact absurd HA.out (by simp[lh.j3])
      |succ bx=>
       have H:=HA.out;clear HA;simp only [lh.j3]at H;obtain⟨⟨ak,dM⟩,ex,H⟩:=kS H;(try dsimp only at H)
       rcases mE H with⟨h_,H_⟩|⟨h_,H_⟩<;> (subst h_;clear H;have H:=H_;clear H_)
       ·obtain⟨dN,bM⟩:∃y_:List (S59),y_=(([]:List (S59))):=⟨_,rfl⟩;replace H:(lh.l2 bx aq aD ak dN 0 ag ai ah ac)=some (r1,r2):=l5 bM H
        have dc:=dm bM;clear bM;have H':=dm H;clear H;have gY:=aG.out;have gZ:=aC.out;have⟨dD,dE,dF,dG⟩:=ko (w:=wc) ae;obtain⟨eJ,eK,eL⟩:=kL aj.out;subst eL
        go_wp2_with (first|((with_reducible refine kV 61 rfl ?_);refine lN 61 rfl Try.func61 (mD.calls (kz (ku aa.out).2.2) ((ku aa.out).2.1) (kz (ku aj.out).2.2) ((ku aj.out).2.1) ex.out) ?_;rintro e iF ⟨cp,rfl,a3,hb⟩;refine⟨_,rfl,?_⟩;replace al:=dm (rU (mR) (qg a3) hb);replace aa:=kH aa hb;have a6:=dm (kR (lI a3 (kZ (jX aj.out))) (kM (jT HB.out)));replace aj:=lV aj a3 hb;replace ab:=jU ab hb;replace ae:=jU ae hb;replace HB:=kg HB hb;(try clear hb a3))|((with_reducible refine kE 67 rfl ?_);(try(refine nN (by rfl) ?_;dsimp only));refine oW k59 rfl 59 ([]:List (S59)) [] (kN.none _ _) ?_;intro ib iG bX hb hg_ lD;clear hg_ lD;(first|rw[←dc.out]at bX|(simp only [Int.reduceToNat]at bX;rw[←dc.out]at bX));replace al:=dm (om (mR) hb);replace aj:=kH aj hb;replace a6:=kH a6 hb;have d8:=dm (kR (lI bX (kZ (jX aa.out))) (kM (jT HB.out)));replace aa:=lV aa bX hb;replace ab:=jU ab hb;replace ae:=jU ae hb;replace HB:=kg HB hb;clear hb bX))
        go_loopg [6,10,11] bx (fun kq v6 ey gy w'=>∃ (ap:List Int) (az:List (S59)) (af:Int),gy=.int .i64 af/\jP (lh.l2 kq aq ap ak az af ag ai ah ac=some (r1,r2))/\jP (kq<=bx)/\jP (Kd.S (Kd.slice 3 (Kd.int .i64)) 45 w' w.heap.size (fun k_=>some k_≠(v6:Value).ownBlock/\some k_≠(cp:Value).ownBlock) u4 aq)/\jP (Kd.R (Kd.int .i64) 3 w' w.heap.size (fun k_=>some k_≠(cp:Value).ownBlock) v6 ap)/\jP (Kd.R (Kd.int .i64) 3 w' w.heap.size (fun k_=>some k_≠(v6:Value).ownBlock) cp ak)/\jP (Kd.R k59 59 w' w.heap.size (fun k_=>some k_≠((.slice aT ac.length aU):Value).ownBlock) ey az)/\jP (Kd.R k59 59 w' w.heap.size (fun k_=>some k_≠(ey:Value).ownBlock) (.slice aT ac.length aU) ac)/\jP (w'.heap[aW]? =some (.cells #[.int .i64 ag,(.slice aQ ai.length aR)] 31 (0,0)))/\jP (w'.heap[au]? =some (.cells #[.int .i64 ah,(.slice aT ac.length aU)] 31 (0,0)))/\jP (Below w.heap.size w w'))
        case atStart=>exact⟨(aD),(dN),(0),(kD),H',⟨Nat.le_refl _⟩,⟨mR⟩,⟨by(with_reducible repeat(first|apply kI|apply kJ|apply kv));exact kw aj.out (fun _ hk=>hk.2)⟩,⟨by(with_reducible repeat(first|apply kI|apply kJ|apply kv));exact kw a6.out (fun _ hk=>hk.2)⟩,⟨by(with_reducible repeat(first|apply kI|apply kJ|apply kv));exact kw d8.out (fun _ hk=>hk.2)⟩,⟨pG⟩,⟨jZ ab.out⟩,⟨jZ ae.out⟩,⟨jT HB.out⟩⟩
        case round=>
         clear H';(try clear cF dD dE dF dG);obtain⟨ap,az,af,rfl,HA,b8,al,aj,ao,am,aa,ab,ae,HB⟩:=hrel;cases gk with
         |zero=>exact absurd HA.out (by simp[lh.l2])
         |succ k4=>
          have H:=HA.out;clear HA;simp only [lh.l2]at H
          replace H:=mo H;rcases H with⟨d9,H⟩|⟨d9,H⟩
          ·skip
           replace H:=mo H;rcases H with⟨d_,H⟩|⟨d_,H⟩
           ·obtain⟨aI,bY⟩:∃j_:Int,(wrap64 (af - 1))=j_:=⟨_,rfl⟩;replace H:(if 0<=(aI) then(if(aI)<(ak.length:Int) then(if 0<=af then((qP.f (rd ak (aI)) (rd ak af)).bind fun bI=>(if az.length<8796093022208 then((some (az++[(⟨bI.1,bI.2⟩:S59)]:List (S59))).bind fun aM=>((ol.f k4 ap (rd ak af)).bind fun ba=>(if ba=true then(lh.l2 k4 aq ap ak aM (wrap64 (af+1)) ag ai ah ac) else(if ap.length<17592186044416 then(lh.l2 k4 aq (ap++[rd ak af]) ak aM (wrap64 (af+1)) ag ai ah ac) else(none))))) else(none))) else(none)) else(none)) else(none))=some (r1,r2):=by first|(rw[bY]at H;exact H)|(simp only [bY]at H⊢;exact H)
            have gz:(IntKind.i64.wrap (af - 1))=aI:=(mP _).trans bY
            obtain⟨g0,H⟩:=lC H
            obtain⟨g2,H⟩:=lC H
            obtain⟨g3,H⟩:=lC H;obtain⟨⟨bd,bf⟩,ez,H⟩:=kS H;(try dsimp only at H)
            obtain⟨dg,H⟩:=mW H;have dh:=dm dg;clear dg;obtain⟨aM,bN⟩:∃y_:List (S59),y_=(az++[(⟨bd,bf⟩:S59)]):=⟨_,rfl⟩;replace H:((ol.f k4 ap (rd ak af)).bind fun ba=>(if ba=true then(lh.l2 k4 aq ap ak aM (wrap64 (af+1)) ag ai ah ac) else(if ap.length<17592186044416 then(lh.l2 k4 aq (ap++[rd ak af]) ak aM (wrap64 (af+1)) ag ai ah ac) else(none))))=some (r1,r2):=l5 bN H
            have di:=dm bN;clear bN;obtain⟨ba,eA,H⟩:=kS H;(try dsimp only at H)
            rcases mE H with⟨h_,H_⟩|⟨h_,H_⟩<;> (subst h_;clear H;have H:=H_;clear H_)
            ·have H':=dm H;clear H;obtain⟨ic,ie,eM⟩:=kL ao.out;subst eM;try go_wp2
             replace al:=dm (nI al.out);replace aj:=dm (kv aj.out);replace ao:=dm (kv ao.out);replace am:=dm (kv am.out);replace aa:=dm (kv aa.out);replace ab:=dm (kP ab.out);replace ae:=dm (kP ae.out);replace HB:=dm (l6 HB.out);have bz:0<=((aI):Int):=jY;have bA:(aI)<(ak.length:Int):=jY;obtain⟨aX,cH,bh⟩:=lq (ku ao.out).2.2 (aI) bz bA;cases cH;replace bz:=eq_true bz;replace bA:=eq_true bA;have bB:0<=(af:Int):=jY;have bC:af<(ak.length:Int):=jY;obtain⟨cq,cI,bj⟩:=lq (ku ao.out).2.2 af bB bC;obtain rfl:aX=cq:=(by injection cI);replace bB:=eq_true bB;replace bC:=eq_true bC;refine mO 14 (S:=fun w'=>w'.cell? (aX.add ((aI)).toNat)=some (.int .i64 (rd ak (aI)))/\w'.cell? (aX.add (af).toNat)=some (.int .i64 (rd ak af))) [11,12] ⟨bh,bj⟩ lh.ET lh.Ch (fun hHeld HT_ HW_=>?_);generalize wr.drew=iH at al aj ao am aa ab ae HB bh bj hHeld⊢;refine jR 0 76 1 ?_;refine jR 1 77 3 ?_;refine jR 2 78 7 ?_;refine jR 3 79 15 ?_;refine jR 4 80 31 ?_;refine jR 6 82 95 ?_;refine jR 7 83 223 ?_;refine jR 8 84 479 ?_;refine kF 5 81 511 ?_;refine kF 9 85 1023 ?_;refine lv 10 86 2047 (fun K hK=>?_);refine qA Try.func46 (kU) rfl #[.int .i64 (rd ak (aI)),.int .i64 (rd ak af)] (by rfl) rfl rfl (Db) ?_;refine(qP.calls ez.out).mono ?_;rintro e iI ⟨rfl,hb⟩;have cJ:=(hb.cell (World.block_lt_of_cell? _ _ (hHeld.1))).trans (hHeld.1);have cL:=(hb.cell (World.block_lt_of_cell? _ _ (hHeld.2))).trans (hHeld.2);refine⟨_,rfl,?_⟩;replace al:=dm (om (mR) hb);replace aj:=kH aj hb;replace ao:=kH ao hb;replace am:=kH am hb;replace aa:=kH aa hb;replace ab:=jU ab hb;replace ae:=jU ae hb;replace HB:=kg HB hb;(try clear hb gA hk hi);refine hK.out _ _ ⟨cJ,cL⟩ (fun hHeld=>?_);clear hK K;refine kK 86 ?_;refine qD 11 (some 87) (lu 14 4095) (fun K hK=>?_);refine uu (w1:= ?_) (v:= ?_) (by rfl) rfl ?_ ?_;rotate_left 2
             ·go_simp
              constructor
              ·rfl
              rfl
             refine hK.out _ _ ?_;clear hK K;refine kK 87 ?_;refine qD 12 (some 88) (lu 14 8191) (fun K hK=>?_);refine tZ k59 (w0:=w) w.heap.size (by rfl) (.tmp 76) (.tmp 87) 29 59 (.agg #[(.int .i64 0),(.int .i64 0)]) 16 rfl Try.underlying29 qM rfl (ky) (by omega) u10 az (⟨bd,bf⟩:S59) [.int .i64 bd,.int .i64 bf] (fun k_=>some k_≠(.slice aT ac.length aU:Value).ownBlock) (fun _=>False) rfl rfl ?aP (fun _ hk=>hk.elim) ?aF ?aO ?aB ?aS ?aL ?_;(case aP=>exact pR _ _ _ (⟨bd,bf⟩:S59));(case aB=>exact(jT HB.out));(case aF=>exact(fun k_ hk=>Kd.fresh' (kZ (jX aa.out)) k_ hk));(case aO=>exact(jX am.out));(case aS=>exact(kM (jT HB.out)));(case aL=>have:=dh.out;omega);intro eN iJ ho hb hg hat;rw[←di.out]at ho;have n0:=dm (yf (mR) (o8 (jX am.out)) (ky) hg);have n1:=dm (oV (jX aj.out) (o8 (jX am.out)) (ky) hg);have n2:=dm (oV (jX ao.out) (o8 (jX am.out)) (ky) hg);have n3:=dm (oL (ok:=(fun _=>True)) (Dc) hg hat);have n4:=lZ ab hg (lU am.out ab.out (ky));have n5:=lZ ae hg (lU am.out ae.out (ky));have n6:=dm (hb);have n7:=dm (ho);clear al aj ao aa ab ae HB am;revert n0 n1 n2 n3 n4 n5 n6 n7;intro al aj ao aa ab ae HB bu;clear ho hb hg hat;refine hK.out _ _ ?_;clear hK K;refine kK 88 ?_;refine jR 13 10 16383 ?_;refine mq (mF HT_.out (kU)) ?_;have bD:0<=(af:Int):=jY;have bE:af<(ak.length:Int):=jY;obtain⟨cr,cM,dH⟩:=lq (ku ao.out).2.2 af bD bE;obtain rfl:aX=cr:=(by injection cM);replace bD:=eq_true bD;replace bE:=eq_true bE;obtain⟨eO,eP,eQ⟩:=kL aj.out;subst eQ;try go_wp2_with (first|((with_reducible refine kV 47 rfl ?_);refine lN 94 rfl Try.func47 (ol.calls (kz (ku aj.out).2.2) ((ku aj.out).2.1) eA.out) ?_;rintro e w' ⟨rfl,⟨nd,rfl⟩⟩;refine⟨_,rfl,?_⟩))
             go_roundg k4
             case measure=>have:=bm.out;have:=bn.out;have:=bU.out;have:=b8.out;omega
             case rel=>exact⟨(ap),(aM),(wrap64 (af+1)),(kD),H',⟨xn⟩,⟨mR⟩,⟨jX aj.out⟩,⟨jX ao.out⟩,⟨jX bu.out⟩,⟨pG⟩,⟨jZ ab.out⟩,⟨jZ ae.out⟩,⟨jT HB.out⟩⟩
            skip
            obtain⟨dk,H⟩:=mW H;have ea:=dm dk;clear dk;obtain⟨dO,bO⟩:∃y_:List Int,y_=(ap++[rd ak af]):=⟨_,rfl⟩;replace H:(lh.l2 k4 aq dO ak aM (wrap64 (af+1)) ag ai ah ac)=some (r1,r2):=l5 bO H
            have eb:=dm bO;clear bO;have H':=dm H;clear H;obtain⟨ig,dP,eR⟩:=kL ao.out;subst eR;try go_wp2
            replace al:=dm (nI al.out);replace aj:=dm (kv aj.out);replace ao:=dm (kv ao.out);replace am:=dm (kv am.out);replace aa:=dm (kv aa.out);replace ab:=dm (kP ab.out);replace ae:=dm (kP ae.out);replace HB:=dm (l6 HB.out);have bz:0<=((aI):Int):=jY;have bA:(aI)<(ak.length:Int):=jY;obtain⟨aX,cH,bh⟩:=lq (ku ao.out).2.2 (aI) bz bA;cases cH;replace bz:=eq_true bz;replace bA:=eq_true bA;have bB:0<=(af:Int):=jY;have bC:af<(ak.length:Int):=jY;obtain⟨cq,cI,bj⟩:=lq (ku ao.out).2.2 af bB bC;obtain rfl:aX=cq:=(by injection cI);replace bB:=eq_true bB;replace bC:=eq_true bC;refine mO 14 (S:=fun w'=>w'.cell? (aX.add ((aI)).toNat)=some (.int .i64 (rd ak (aI)))/\w'.cell? (aX.add (af).toNat)=some (.int .i64 (rd ak af))) [11,12] ⟨bh,bj⟩ lh.ET lh.Ch (fun hHeld HT_ HW_=>?_);generalize wr.drew=iK at al aj ao am aa ab ae HB bh bj hHeld⊢;refine jR 0 76 1 ?_;refine jR 1 77 3 ?_;refine jR 2 78 7 ?_;refine jR 3 79 15 ?_;refine jR 4 80 31 ?_;refine jR 6 82 95 ?_;refine jR 7 83 223 ?_;refine jR 8 84 479 ?_;refine kF 5 81 511 ?_;refine kF 9 85 1023 ?_;refine lv 10 86 2047 (fun K hK=>?_);refine qA Try.func46 (kU) rfl #[.int .i64 (rd ak (aI)),.int .i64 (rd ak af)] (by rfl) rfl rfl (Db) ?_;refine(qP.calls ez.out).mono ?_;rintro e iL ⟨rfl,hb⟩;have cJ:=(hb.cell (World.block_lt_of_cell? _ _ (hHeld.1))).trans (hHeld.1);have cL:=(hb.cell (World.block_lt_of_cell? _ _ (hHeld.2))).trans (hHeld.2);refine⟨_,rfl,?_⟩;replace al:=dm (om (mR) hb);replace aj:=kH aj hb;replace ao:=kH ao hb;replace am:=kH am hb;replace aa:=kH aa hb;replace ab:=jU ab hb;replace ae:=jU ae hb;replace HB:=kg HB hb;(try clear hb gA hk hi);refine hK.out _ _ ⟨cJ,cL⟩ (fun hHeld=>?_);clear hK K;refine kK 86 ?_;refine qD 11 (some 87) (lu 14 4095) (fun K hK=>?_);refine uu (w1:= ?_) (v:= ?_) (by rfl) rfl ?_ ?_;rotate_left 2
            ·go_simp
             constructor
             ·rfl
             rfl
            refine hK.out _ _ ?_;clear hK K;refine kK 87 ?_;refine qD 12 (some 88) (lu 14 8191) (fun K hK=>?_);refine tZ k59 (w0:=w) w.heap.size (by rfl) (.tmp 76) (.tmp 87) 29 59 (.agg #[(.int .i64 0),(.int .i64 0)]) 16 rfl Try.underlying29 qM rfl (ky) (by omega) u10 az (⟨bd,bf⟩:S59) [.int .i64 bd,.int .i64 bf] (fun k_=>some k_≠(.slice aT ac.length aU:Value).ownBlock) (fun _=>False) rfl rfl ?aP (fun _ hk=>hk.elim) ?aF ?aO ?aB ?aS ?aL ?_;(case aP=>exact pR _ _ _ (⟨bd,bf⟩:S59));(case aB=>exact(jT HB.out));(case aF=>exact(fun k_ hk=>Kd.fresh' (kZ (jX aa.out)) k_ hk));(case aO=>exact(jX am.out));(case aS=>exact(kM (jT HB.out)));(case aL=>have:=dh.out;omega);intro eN iM ho hb hg hat;rw[←di.out]at ho;have n0:=dm (yf (mR) (o8 (jX am.out)) (ky) hg);have n1:=dm (oV (jX aj.out) (o8 (jX am.out)) (ky) hg);have n2:=dm (oV (jX ao.out) (o8 (jX am.out)) (ky) hg);have n3:=dm (oL (ok:=(fun _=>True)) (Dc) hg hat);have n4:=lZ ab hg (lU am.out ab.out (ky));have n5:=lZ ae hg (lU am.out ae.out (ky));have n6:=dm (hb);have n7:=dm (ho);clear al aj ao aa ab ae HB am;revert n0 n1 n2 n3 n4 n5 n6 n7;intro al aj ao aa ab ae HB bu;clear ho hb hg hat;refine hK.out _ _ ?_;clear hK K;refine kK 88 ?_;refine jR 13 10 16383 ?_;refine mq (mF HT_.out (kU)) ?_;have bD:0<=(af:Int):=jY;have bE:af<(ak.length:Int):=jY;obtain⟨cr,cM,dH⟩:=lq (ku ao.out).2.2 af bD bE;obtain rfl:aX=cr:=(by injection cM);replace bD:=eq_true bD;replace bE:=eq_true bE;obtain⟨dQ,dR,eS⟩:=kL aj.out;subst eS;try go_wp2_with (first|((with_reducible refine kV 47 rfl ?_);refine lN 94 rfl Try.func47 (ol.calls (kz (ku aj.out).2.2) ((ku aj.out).2.1) eA.out) ?_;rintro e w' ⟨rfl,⟨nd,rfl⟩⟩;refine⟨_,rfl,?_⟩;have cN:0<=(af:Int):=jY;have cO:af<(ak.length:Int):=jY;obtain⟨ec,eT,gg⟩:=lq (ku ao.out).2.2 af cN cO;obtain rfl:aX=ec:=(by injection eT);replace cN:=eq_true cN;replace cO:=eq_true cO)|((with_reducible refine oO (b:=.append) (xs:= #[.tmp 96,.tmp 101]) rfl ?_);(try(refine nN (by rfl) ?_;dsimp only));at_builtin;refine pM (Kd.int .i64) (w0:=w) w.heap.size rfl (.tmp 96) (.tmp 101) 45 3 (.int .i64 0) 8 rfl Try.underlying45 info3 rfl (ky) (by omega) (.slice dQ ap.length dR) ap (rd ak af) [.int .i64 (rd ak af)] (fun k_=>some k_≠(.slice (some aX) ak.length dP:Value).ownBlock) (fun _=>False) rfl rfl ?aP (fun _ hk=>hk.elim) ?aF ?aO ?aB ?aS ?aL ?_;(case aP=>exact rfl);(case aB=>exact(jT HB.out));(case aF=>exact(fun k_ hk=>Kd.fresh' (kZ (jX ao.out)) k_ hk));(case aO=>exact(jX aj.out));(case aS=>exact(kM (jT HB.out)));(case aL=>have:=ea.out;omega);intro ii iN ho hb hg hat;rw[←eb.out]at ho;have n0:=dm (zJ (ok:=(fun k_=>some k_≠(.slice (some aX) ak.length dP:Value).ownBlock)) (t_) hg hat);have n1:=dm (oL (ok:=(fun _=>True)) (De) hg hat);have n2:=dm (oV (jX aa.out) (o8 (jX aj.out)) (ky) hg);have n3:=lZ ab hg (lU aj.out ab.out (ky));have n4:=lZ ae hg (lU aj.out ae.out (ky));have n5:=dm (oV (jX bu.out) (o8 (jX aj.out)) (ky) hg);have n6:=dm (hb);have n7:=dm (ho);clear al ao aa ab ae bu HB aj;revert n0 n1 n2 n3 n4 n5 n6 n7;intro al ao aa ab ae bu HB ed;clear ho hb hg hat))
            go_roundg k4
            case measure=>have:=bm.out;have:=bn.out;have:=bU.out;have:=b8.out;omega
            case rel=>exact⟨(dO),(aM),(wrap64 (af+1)),(kD),H',⟨xn⟩,⟨t_⟩,⟨jX ed.out⟩,⟨Df⟩,⟨jX bu.out⟩,⟨pG⟩,⟨jZ ab.out⟩,⟨jZ ae.out⟩,⟨jT HB.out⟩⟩
           skip
           obtain⟨g4,H⟩:=lC H;obtain⟨cj,eB,H⟩:=kS H;(try dsimp only at H)
           rcases mE H with⟨h_,H_⟩|⟨h_,H_⟩<;> (subst h_;clear H;have H:=H_;clear H_)
           ·have H':=dm H;clear H;obtain⟨ij,ik,eU⟩:=kL ao.out;subst eU;have bF:0<=(af:Int):=jY;have bG:af<(ak.length:Int):=jY;obtain⟨b3,cP,dI⟩:=lq (ku ao.out).2.2 af bF bG;cases cP;replace bF:=eq_true bF;replace bG:=eq_true bG;obtain⟨eV,eW,eX⟩:=kL aj.out;subst eX
            go_wp2_with (first|((with_reducible refine kV 47 rfl ?_);refine lN 94 rfl Try.func47 (ol.calls (kz (ku aj.out).2.2) ((ku aj.out).2.1) eB.out) ?_;rintro e w' ⟨rfl,⟨nd,rfl⟩⟩;refine⟨_,rfl,?_⟩))
            go_roundg k4
            case measure=>have:=bm.out;have:=bn.out;have:=bU.out;have:=b8.out;omega
            case rel=>exact⟨(ap),(az),(wrap64 (af+1)),(kD),H',⟨xn⟩,⟨mR⟩,⟨jX aj.out⟩,⟨jX ao.out⟩,⟨jX am.out⟩,⟨jX aa.out⟩,⟨jZ ab.out⟩,⟨jZ ae.out⟩,⟨jT HB.out⟩⟩
           skip
           obtain⟨dq,H⟩:=mW H;have ee:=dm dq;clear dq;obtain⟨dS,bP⟩:∃y_:List Int,y_=(ap++[rd ak af]):=⟨_,rfl⟩;replace H:(lh.l2 k4 aq dS ak az (wrap64 (af+1)) ag ai ah ac)=some (r1,r2):=l5 bP H
           have ef:=dm bP;clear bP;have H':=dm H;clear H;obtain⟨il,dT,eY⟩:=kL ao.out;subst eY;have bF:0<=(af:Int):=jY;have bG:af<(ak.length:Int):=jY;obtain⟨b3,cP,dI⟩:=lq (ku ao.out).2.2 af bF bG;cases cP;replace bF:=eq_true bF;replace bG:=eq_true bG;obtain⟨dr,dt,eg⟩:=kL aj.out;subst eg
           go_wp2_with (first|((with_reducible refine kV 47 rfl ?_);refine lN 94 rfl Try.func47 (ol.calls (kz (ku aj.out).2.2) ((ku aj.out).2.1) eB.out) ?_;rintro e w' ⟨rfl,⟨nd,rfl⟩⟩;refine⟨_,rfl,?_⟩;have cQ:0<=(af:Int):=jY;have cS:af<(ak.length:Int):=jY;obtain⟨eh,eZ,gh⟩:=lq (ku ao.out).2.2 af cQ cS;obtain rfl:b3=eh:=(by injection eZ);replace cQ:=eq_true cQ;replace cS:=eq_true cS)|((with_reducible refine oO (b:=.append) (xs:= #[.tmp 96,.tmp 101]) rfl ?_);(try(refine nN (by rfl) ?_;dsimp only));at_builtin;refine pM (Kd.int .i64) (w0:=w) w.heap.size rfl (.tmp 96) (.tmp 101) 45 3 (.int .i64 0) 8 rfl Try.underlying45 info3 rfl (ky) (by omega) (.slice dr ap.length dt) ap (rd ak af) [.int .i64 (rd ak af)] (fun k_=>some k_≠(.slice (some b3) ak.length dT:Value).ownBlock) (fun _=>False) rfl rfl ?aP (fun _ hk=>hk.elim) ?aF ?aO ?aB ?aS ?aL ?_;(case aP=>exact rfl);(case aB=>exact(jT HB.out));(case aF=>exact(fun k_ hk=>Kd.fresh' (kZ (jX ao.out)) k_ hk));(case aO=>exact(jX aj.out));(case aS=>exact(kM (jT HB.out)));(case aL=>have:=ee.out;omega);intro im io ho hb hg hat;rw[←ef.out]at ho;have n0:=dm (zJ (ok:=(fun k_=>some k_≠(.slice (some b3) ak.length dT:Value).ownBlock)) (t_) hg hat);have n1:=dm (oL (ok:=(fun _=>True)) (De) hg hat);have n2:=dm (oV (jX am.out) (o8 (jX aj.out)) (ky) hg);have n3:=dm (oV (jX aa.out) (o8 (jX aj.out)) (ky) hg);have n4:=lZ ab hg (lU aj.out ab.out (ky));have n5:=lZ ae hg (lU aj.out ae.out (ky));have n6:=dm (hb);have n7:=dm (ho);clear al ao am aa ab ae HB aj;revert n0 n1 n2 n3 n4 n5 n6 n7;intro al ao am aa ab ae HB ei;clear ho hb hg hat))
           go_roundg k4
           case measure=>have:=bm.out;have:=bn.out;have:=bU.out;have:=b8.out;omega
           case rel=>exact⟨(dS),(az),(wrap64 (af+1)),(kD),H',⟨xn⟩,⟨t_⟩,⟨jX ei.out⟩,⟨Df⟩,⟨jX am.out⟩,⟨jX aa.out⟩,⟨jZ ab.out⟩,⟨jZ ae.out⟩,⟨jT HB.out⟩⟩
          obtain⟨⟨a4,aV⟩,e2,H⟩:=kS H;(try dsimp only at H)
          obtain⟨ct,H⟩:=mW H;have dU:=dm ct;clear ct;obtain⟨dV,bQ⟩:∃y_:List (List Int),y_=(aq++[ak]):=⟨_,rfl⟩;replace H:(lh.l0 k4 dV ap ag ai a4 aV)=some (r1,r2):=l5 bQ H
          have ej:=dm bQ;clear bQ;have H':=dm H;clear H;obtain⟨bR,bS,ek⟩:=kL ao.out;subst ek;have gB:=aG.out;have gC:=aC.out;have⟨e3,e4,e5,e6⟩:=ko (w:=wr) ae;obtain⟨b4,b5,el⟩:=kL am.out;subst el
          go_wp2_with (first|((with_reducible refine kV 62 rfl ?_);refine lN 105 rfl Try.func62 (nP.calls (kz (ku aa.out).2.2) ((ku aa.out).2.1) (kz (ku am.out).2.2) ((ku am.out).2.1) e2.out) ?_;rintro e dW ⟨iq,rfl,a3,hb⟩;refine⟨_,rfl,?_⟩;replace al:=dm (om (mR) hb);replace aj:=kH aj hb;replace ao:=kH ao hb;have a_:=dm (kR (lI (lI a3 (kZ (jX am.out))) (kZ (jX aa.out))) (kM (jT HB.out)));replace am:=lV am a3 hb;replace aa:=lV aa a3 hb;replace ab:=jU ab hb;replace ae:=jU ae hb;replace HB:=kg HB hb;(try clear hb a3);have⟨e7,e8,e9,fa⟩:=ko (w:=dW) ae;obtain⟨aY,aZ,em⟩:=kL a_.out;subst em)|((with_reducible refine wm (t:=31) (p:=5) rfl ?_);refine wQ (t:=31) (p:=5) (v:= ?vo_w111) (w1:=((dW.setCell ⟨au,0,none⟩ (.int .i64 a4)).setCell ⟨au,1,none⟩ (.slice aY aV.length aZ))) ?hg ?ho ?hn ?hr ?_;(case ho=>rfl);(case hg=>rfl);(case hn=>rfl);(case hr=>first|(go_simp;done)|(go_simp;rfl));intro bl hw;have n0:jP (Kd.S (Kd.slice 3 (Kd.int .i64)) 45 bl w.heap.size (fun k_=>some k_≠(u6:Value).ownBlock/\some k_≠(.slice bR ak.length bS:Value).ownBlock) u4 aq):=⟨(by rw[hw];exact(by(with_reducible repeat(first|apply oH|apply oI|apply nI));exact qI (uA (p:=⟨au,1,none⟩) (uA (p:=⟨au,0,none⟩) (yg al.out ae.out (ky)) (fun _ hk=>hk.2) (.int .i64 a4)) (fun _ hk=>hk.2) (.slice aY aV.length aZ)) (fun _ hk=>⟨hk.1.1,hk.1.2⟩)))⟩;have n1:jP (Kd.R (Kd.int .i64) 3 bl w.heap.size (fun k_=>some k_≠(.slice bR ak.length bS:Value).ownBlock) u6 ap):=⟨(by rw[hw];exact(by(with_reducible repeat(first|apply kI|apply kJ|apply kv));exact kw (kG (p:=⟨au,1,none⟩) (kG (p:=⟨au,0,none⟩) (lJ aj.out ae.out (ky)) (fun _ hk=>hk.2) (.int .i64 a4)) (fun _ hk=>hk.2) (.slice aY aV.length aZ)) (fun _ hk=>hk.1)))⟩;have n2:jP (Kd.R (Kd.int .i64) 3 bl w.heap.size (fun k_=>some k_≠(u6:Value).ownBlock) (.slice bR ak.length bS) ak):=⟨(by rw[hw];exact(by(with_reducible repeat(first|apply kI|apply kJ|apply kv));exact kw (kG (p:=⟨au,1,none⟩) (kG (p:=⟨au,0,none⟩) (lJ ao.out ae.out (ky)) (fun _ hk=>hk.2) (.int .i64 a4)) (fun _ hk=>hk.2) (.slice aY aV.length aZ)) (fun _ hk=>hk.1)))⟩;have n3:jP (Kd.R k59 59 bl w.heap.size (fun k_=>some k_≠(.slice aT ac.length aU:Value).ownBlock/\some k_≠(.slice aY aV.length aZ:Value).ownBlock) (.slice b4 az.length b5) az):=⟨(by rw[hw];exact(by(with_reducible repeat(first|apply kI|apply kJ|apply kv));exact kw (kG (p:=⟨au,1,none⟩) (kG (p:=⟨au,0,none⟩) (lJ am.out ae.out (ky)) (fun _ hk=>hk.2) (.int .i64 a4)) (fun _ hk=>hk.2) (.slice aY aV.length aZ)) (fun _ hk=>⟨hk.1.1,hk.1.2⟩)))⟩;have n4:jP (Kd.R k59 59 bl w.heap.size (fun k_=>some k_≠(.slice b4 az.length b5:Value).ownBlock/\some k_≠(.slice aY aV.length aZ:Value).ownBlock) (.slice aT ac.length aU) ac):=⟨(by rw[hw];exact(by(with_reducible repeat(first|apply kI|apply kJ|apply kv));exact kw (kG (p:=⟨au,1,none⟩) (kG (p:=⟨au,0,none⟩) (lJ aa.out ae.out (ky)) (fun _ hk=>hk.2) (.int .i64 a4)) (fun _ hk=>hk.2) (.slice aY aV.length aZ)) (fun _ hk=>⟨hk.1.1,hk.1.2⟩)))⟩;have n5:jP (Kd.R k59 59 bl w.heap.size (fun k_=>some k_≠(.slice b4 az.length b5:Value).ownBlock/\some k_≠(.slice aT ac.length aU:Value).ownBlock) (.slice aY aV.length aZ) aV):=⟨(by rw[hw];exact(by(with_reducible repeat(first|apply kI|apply kJ|apply kv));exact kw (kG (p:=⟨au,1,none⟩) (kG (p:=⟨au,0,none⟩) (lJ a_.out ae.out (ky)) (fun _ hk=>hk.2) (.int .i64 a4)) (fun _ hk=>hk.2) (.slice aY aV.length aZ)) (fun _ hk=>⟨hk.1.1.2,hk.1.2⟩)))⟩;have n6:jP (bl.heap[aW]? =some (.cells #[.int .i64 ag,.slice aQ ai.length aR] 31 (0,0))):=⟨(by rw[hw];exact(Da))⟩;have n7:jP (bl.heap[au]? =some (.cells #[.int .i64 a4,.slice aY aV.length aZ] 31 (0,0))):=⟨(by rw[hw];exact(lH ae.out))⟩;have n8:jP (Below w.heap.size w bl):=⟨(by rw[hw];exact(jT HB.out))⟩;clear hw al aj ao am aa a_ ab ae HB;revert n0 n1 n2 n3 n4 n5 n6 n7 n8;intro al aj ao am aa a_ ab ae HB)|((with_reducible refine oO (b:=.append) (xs:= #[.tmp 106,.tmp 108]) rfl ?_);(try(refine nN (by rfl) ?_;dsimp only));at_builtin;refine BU (Kd.slice 3 (Kd.int .i64)) (w0:=w) w.heap.size rfl (.tmp 106) (.tmp 108) 25 45 (.slice none 0 0) 24 rfl Try.underlying25 D9 rfl (ky) (by omega) u4 aq ak [.slice bR ak.length bS] (fun k_=>some k_≠(u6:Value).ownBlock) (fun k_=>some k_=(.slice bR ak.length bS:Value).ownBlock) rfl rfl ?aP (fun k_ hk_=>((kw (ok':=fun k_=>((fun k_=>some k_≠(u6:Value).ownBlock)) k_/\some k_≠(u4:Value).ownBlock) (xS (ao.out) (sU al.out) (ky)) (fun k_ hk=>⟨hk.1,hk.2⟩))).1 k_ hk_.symm) ?aF ?aO ?aB ?aS ?aL ?_;(case aP=>exact Bz (kw (zI rfl (kw (ok':=fun k_=>((fun k_=>some k_≠(u6:Value).ownBlock)) k_/\some k_≠(u4:Value).ownBlock) (xS (ao.out) (sU al.out) (ky)) (fun k_ hk=>⟨hk.1,hk.2⟩))) (fun _ h_=>h_)));(case aB=>exact(jT HB.out));(case aF=>exact(fun k_ hk=>Kd.fresh' (kZ (jX aj.out)) k_ hk));(case aO=>exact(by(with_reducible repeat(first|apply oH|apply oI|apply nI));exact qI al.out (fun k_ hk=>⟨hk.1,fun e_=>hk.2 e_⟩)));(case aS=>exact(kM (jT HB.out)));(case aL=>have:=dU.out;omega);intro ir iu ho hb hg hat;rw[←ej.out]at ho;have n0:=dm (oV (jX aj.out) (sU (mR)) (ky) hg);have n1:=dm (oV (jX am.out) (sU (mR)) (ky) hg);have n2:=dm (oV (jX aa.out) (sU (mR)) (ky) hg);have n3:=lZ ab hg (x_ al.out ab.out (ky));have n4:=lZ ae hg (x_ al.out ae.out (ky));have n5:=dm (oV (jX a_.out) (sU (mR)) (ky) hg);have n6:=dm (hb);have n7:=dm (ho);clear aj am aa ab ae a_ HB al ao;revert n0 n1 n2 n3 n4 n5 n6 n7;intro aj am aa ab ae a_ HB en;clear ho hb hg hat))
          go_roundg k4
          case measure=>have:=bm.out;have:=bn.out;have:=bU.out;have:=b8.out;omega
          case rel=>exact⟨(dV),(ap),(a4),(aV),(.slice aY aV.length aZ),H',⟨xn⟩,⟨by(with_reducible repeat(first|apply oH|apply oI|apply nI));exact en.out⟩,⟨by(with_reducible repeat(first|apply kI|apply kJ|apply kv));exact kw aj.out (fun _ hk=>trivial)⟩,⟨by(with_reducible repeat(first|apply kI|apply kJ|apply kv));exact kw a_.out (fun _ hk=>trivial)⟩,⟨jZ ab.out⟩,⟨jZ ae.out⟩,⟨jT HB.out⟩⟩
       obtain⟨fb,bT⟩:∃y_:List (List Int),y_=(([]:List (List Int))):=⟨_,rfl⟩;replace H:(some (fb,false))=some (r1,r2):=l5 bT H
       have du:=dm bT;clear bT;simp only [Option.some.injEq,Prod.mk.injEq]at H;obtain⟨rfl,rfl⟩:=H;have gD:=aG.out;have gE:=aC.out;have⟨fc,fd,fe,ff⟩:=ko (w:=wc) ae;obtain⟨eo,ep,eq⟩:=kL aj.out;subst eq
       go_wp2_with (first|((with_reducible refine kV 61 rfl ?_);refine lN 61 rfl Try.func61 (mD.calls (kz (ku aa.out).2.2) ((ku aa.out).2.1) (kz (ku aj.out).2.2) ((ku aj.out).2.1) ex.out) ?_;rintro e iv ⟨cp,rfl,a3,hb⟩;refine⟨_,rfl,?_⟩;replace al:=dm (rU (mR) (qg a3) hb);replace aa:=kH aa hb;have a6:=dm (kR (lI a3 (kZ (jX aj.out))) (kM (jT HB.out)));replace aj:=lV aj a3 hb;replace ab:=jU ab hb;replace ae:=jU ae hb;replace HB:=kg HB hb;(try clear hb a3))|((with_reducible refine kE 66 rfl ?_);(try(refine nN (by rfl) ?_;dsimp only));refine xZ (Kd.slice 3 (Kd.int .i64)) _ 45 ?hg (N:=66) ?hd (xs:=([]:List (List Int))) (inner:=[]) (ok:=fun _=>True) (okp:=fun _=>True) ?hr ?hp (fun _ hk=>hk) trivial (Below.refl _ _) (Nat.le_refl _) (by simp) ?_;(case hd=>rfl);(case hg=>rfl);(case hr=>first|(go_simp;done)|(go_simp;rfl));(case hp=>exact(kN.none _ _));intro iw ix bv hb hg_ lD;clear hg_ lD;(first|rw[←du.out]at bv|(simp only [Int.reduceToNat]at bv;rw[←du.out]at bv));replace aa:=kH aa hb;have es:=dm (vQ (yc (yc (yc bv (BX (mR))) (kZ (jX aj.out))) (kZ (jX a6.out))) (kM (jT HB.out)));replace al:=dm (rU (mR) (BV bv) hb);replace aj:=kH aj hb;replace a6:=kH a6 hb;replace ab:=jU ab hb;replace ae:=jU ae hb;replace HB:=kg HB hb;clear hb bv))
       go_ret2
       exact⟨_,mV,by(with_reducible repeat(first|apply oH|apply oI|apply nI));exact qI es.out (fun _ hk=>trivial),jT HB.out⟩
theorem yB(h:p:=by rw[hg];exact Nat.ne_of_lt (lM (g:=aq) (o:=.cells #[.int .i64 ae,.slice (some a9) aa.length aT] 31 (0,0)) (jZ af.out))):p:=h
theorem yC(h:p:=by rw[hg];exact Nat.ne_of_gt (lM (g:=aq) (o:=.cells #[.int .i64 ae,.slice (some a9) aa.length aT] 31 (0,0)) (jZ af.out))):p:=h
def qK.l0:Nat->Int->List Int->Int->Int->Option (Int)
 |0,_,_,_,_=>none
 |k+1,x3,x6,x7,x8=>if x8<x7 then(if 0<=x8 then(if x8<(x6.length:Int) then(if(rd x6 x8)=x3 then(qK.l0 k x3 x6 x7 (wrap64 (x8+1))) else(some (rd x6 x8))) else(none)) else(none)) else(some x3)
def qK.f (k:Nat) (l0:List Int):Option (Int):=qK.l0 k 0 l0 (l0.length:Int) 0
theorem qK.calls {k:Nat}{A0:Option Addr}{c0:Nat}{l0:List Int}{r:Int}{w:World}(bA:Kd.C (Kd.int .i64) w A0 l0.length l0)(bB:l0.length<=c0)(h:qK.f k l0=some r):
  Calls Try.prog 109 #[.slice A0 l0.length c0] w fun e w'=>e=.returned (.int .i64 r)/\kY w w':=by
 have bj:=dm bA;have cZ:=dm bB;clear bA bB;unfold qK.f at h;have H:=h;clear h;have H':=dm H;clear H
 go_enter Try.func109,Try.ntmps109
 go_wp2
 go_loopg [8] k (fun kq v8 w'=>∃ (aj:Int),v8=.int .i64 aj/\jP (qK.l0 kq 0 l0 (l0.length:Int) aj=some r)/\jP (kq<=k)/\kY w w')
 case atStart=>exact⟨(0),(kD),H',⟨Nat.le_refl _⟩,by repeat(first|exact kY.refl _|apply kY.step)⟩
 case round=>
  clear H';try clear c1
  obtain⟨aj,rfl,HA,bC,⟨m1,rfl⟩⟩:=hrel;cases gk with
  |zero=>exact absurd HA.out (by simp[qK.l0])
  |succ k1=>
   have H:=HA.out;clear HA;simp only [qK.l0]at H
   replace H:=mo H;rcases H with⟨bE,H⟩|⟨bE,H⟩
   ·skip
    obtain⟨dM,H⟩:=lC H
    obtain⟨aW,H⟩:=lC H
    by_cases c5:(rd l0 aj)=0
    ·rw[if_pos c5]at H;have bS:=beq_iff_eq.mpr c5;have co:=bne_eq_false_iff_eq.mpr c5;clear c5;have H':=dm H;clear H;have aX:0<=(aj:Int):=jY;have aY:aj<(l0.length:Int):=jY;obtain⟨b9,bF,bR⟩:=lq bj.out aj aX aY;cases bF;replace aX:=eq_true aX;replace aY:=eq_true aY
     go_wp2
     go_roundg k1
     case measure=>have:=bC.out;omega
     case rel=>exact⟨(wrap64 (aj+1)),(kD),H',⟨by have:=bC.out;omega⟩,by repeat(first|exact kY.refl _|apply kY.step)⟩
    rw[if_neg c5]at H;have bS:=beq_eq_false_iff_ne.mpr c5;have co:=bne_iff_ne.mpr c5;obtain rfl:=Option.some.inj H;have aX:0<=(aj:Int):=jY;have aY:aj<(l0.length:Int):=jY;obtain⟨b9,bF,bR⟩:=lq bj.out aj aX aY;cases bF;replace aX:=eq_true aX;replace aY:=eq_true aY
    go_wp2
    go_ret
    exact⟨kD,by repeat(first|exact kY.refl _|apply kY.step)⟩
   obtain rfl:=Option.some.inj H
   go_wp2
   go_ret
   exact⟨kD,by repeat(first|exact kY.refl _|apply kY.step)⟩
def cmp_isNaN_int.f (a0:Int):Option (Bool):=some (a0 !=a0)
theorem cmp_isNaN_int.calls {a0:Int}{r:Bool}{w:World}(h:cmp_isNaN_int.f a0=some r):
  Calls Try.prog 129 #[.int .i64 a0] w fun e w'=>e=.returned (.bool r)/\kY w w':=by
 unfold cmp_isNaN_int.f at h;have H:=h;clear h;obtain rfl:=Option.some.inj H
 go_enter Try.func129,Try.ntmps129
 go_wp2
 go_ret
 exact⟨kD,by repeat(first|exact kY.refl _|apply kY.step)⟩
def cmp_Compare_int.f (a0:Int) (a1:Int):Option (Int):=(cmp_isNaN_int.f a0).bind fun aZ=>((cmp_isNaN_int.f a1).bind fun az=>(if aZ=true then(if az=true then(some 0) else(some (-1))) else(if az=true then(some 1) else(if a0<a1 then(some (-1)) else(if a0>a1 then(some 1) else(some 0))))))
theorem cmp_Compare_int.calls {a0:Int}{a1:Int}{r:Int}{w:World}(h:cmp_Compare_int.f a0 a1=some r):
  Calls Try.prog 110 #[.int .i64 a0,.int .i64 a1] w fun e w'=>e=.returned (.int .i64 r)/\kY w w':=by
 unfold cmp_Compare_int.f at h;have H:=h;clear h;obtain⟨aZ,A3,H⟩:=kS H;(try dsimp only at H);obtain⟨az,A4,H⟩:=kS H;(try dsimp only at H)
 rcases mE H with⟨h_,H_⟩|⟨h_,H_⟩<;> (subst h_;clear H;have H:=H_;clear H_)
 ·skip
  rcases mE H with⟨h_,H_⟩|⟨h_,H_⟩<;> (subst h_;clear H;have H:=H_;clear H_)
  ·obtain rfl:=Option.some.inj H
   go_enter Try.func110,Try.ntmps110
   go_wp2_with (first|((with_reducible refine kV 129 rfl ?_);refine lN 8 rfl Try.func129 (cmp_isNaN_int.calls A3.out) ?_;rintro e w' ⟨rfl,⟨nd,rfl⟩⟩;refine⟨_,rfl,?_⟩)|((with_reducible refine kV 129 rfl ?_);refine lN 10 rfl Try.func129 (cmp_isNaN_int.calls A4.out) ?_;rintro e w' ⟨rfl,⟨nd,rfl⟩⟩;refine⟨_,rfl,?_⟩))
   go_ret
   exact⟨kD,by repeat(first|exact kY.refl _|apply kY.step)⟩
  obtain rfl:=Option.some.inj H
  go_enter Try.func110,Try.ntmps110
  go_wp2_with (first|((with_reducible refine kV 129 rfl ?_);refine lN 8 rfl Try.func129 (cmp_isNaN_int.calls A3.out) ?_;rintro e w' ⟨rfl,⟨nd,rfl⟩⟩;refine⟨_,rfl,?_⟩)|((with_reducible refine kV 129 rfl ?_);refine lN 10 rfl Try.func129 (cmp_isNaN_int.calls A4.out) ?_;rintro e w' ⟨rfl,⟨nd,rfl⟩⟩;refine⟨_,rfl,?_⟩))
  go_ret
  exact⟨kD,by repeat(first|exact kY.refl _|apply kY.step)⟩
 skip
 rcases mE H with⟨h_,H_⟩|⟨h_,H_⟩<;> (subst h_;clear H;have H:=H_;clear H_)
 ·obtain rfl:=Option.some.inj H
  go_enter Try.func110,Try.ntmps110
  go_wp2_with (first|((with_reducible refine kV 129 rfl ?_);refine lN 8 rfl Try.func129 (cmp_isNaN_int.calls A3.out) ?_;rintro e w' ⟨rfl,⟨nd,rfl⟩⟩;refine⟨_,rfl,?_⟩)|((with_reducible refine kV 129 rfl ?_);refine lN 10 rfl Try.func129 (cmp_isNaN_int.calls A4.out) ?_;rintro e w' ⟨rfl,⟨nd,rfl⟩⟩;refine⟨_,rfl,?_⟩))
  go_ret
  exact⟨kD,by repeat(first|exact kY.refl _|apply kY.step)⟩
 skip
 replace H:=mo H;rcases H with⟨bG,H⟩|⟨bG,H⟩
 ·obtain rfl:=Option.some.inj H
  go_enter Try.func110,Try.ntmps110
  go_wp2_with (first|((with_reducible refine kV 129 rfl ?_);refine lN 8 rfl Try.func129 (cmp_isNaN_int.calls A3.out) ?_;rintro e w' ⟨rfl,⟨nd,rfl⟩⟩;refine⟨_,rfl,?_⟩)|((with_reducible refine kV 129 rfl ?_);refine lN 10 rfl Try.func129 (cmp_isNaN_int.calls A4.out) ?_;rintro e w' ⟨rfl,⟨nd,rfl⟩⟩;refine⟨_,rfl,?_⟩))
  go_ret
  exact⟨kD,by repeat(first|exact kY.refl _|apply kY.step)⟩
 skip
 replace H:=mo H;rcases H with⟨bH,H⟩|⟨bH,H⟩
 ·obtain rfl:=Option.some.inj H
  go_enter Try.func110,Try.ntmps110
  go_wp2_with (first|((with_reducible refine kV 129 rfl ?_);refine lN 8 rfl Try.func129 (cmp_isNaN_int.calls A3.out) ?_;rintro e w' ⟨rfl,⟨nd,rfl⟩⟩;refine⟨_,rfl,?_⟩)|((with_reducible refine kV 129 rfl ?_);refine lN 10 rfl Try.func129 (cmp_isNaN_int.calls A4.out) ?_;rintro e w' ⟨rfl,⟨nd,rfl⟩⟩;refine⟨_,rfl,?_⟩))
  go_ret
  exact⟨kD,by repeat(first|exact kY.refl _|apply kY.step)⟩
 obtain rfl:=Option.some.inj H
 go_enter Try.func110,Try.ntmps110
 go_wp2_with (first|((with_reducible refine kV 129 rfl ?_);refine lN 8 rfl Try.func129 (cmp_isNaN_int.calls A3.out) ?_;rintro e w' ⟨rfl,⟨nd,rfl⟩⟩;refine⟨_,rfl,?_⟩)|((with_reducible refine kV 129 rfl ?_);refine lN 10 rfl Try.func129 (cmp_isNaN_int.calls A4.out) ?_;rintro e w' ⟨rfl,⟨nd,rfl⟩⟩;refine⟨_,rfl,?_⟩))
 go_ret
 exact⟨kD,by repeat(first|exact kY.refl _|apply kY.step)⟩
def qB.f (k:Nat) (ae:Int) (aE:Int) (aR:Int) (aL:Int):Option (Int):=(cmp_Compare_int.f ae aR).bind fun aF=>((cmp_Compare_int.f aE aL).bind fun aC=>((qK.f k (([aF,aC]:List Int))).bind fun aG=>(some aG)))
def qB.T1:Bool×List (List Nat×List Nat):=(true,[([],[]),([0],[0]),([],[]),([2],[2]),([1,3],[1,3]),([],[]),([5],[5]),([],[]),([7],[7]),([6,8,4],[6,8]),([4,9],[4,9]),([10,9],[10]),([11,11,0,1,2,3,4,5,6,7,8,9,10,11],[11])])
def qB.B1:List Nat:=[0,1,0,4,15,0,32,0,128,511,1023,2047,4095]
theorem qB.Bd:mK .any (opsOf Try.f80 1)=qB.T1:=by kernel_rfl
theorem qB.zR:nM qB.T1.2 qB.B1=true:=by kernel_rfl
theorem qB.calls {k:Nat}{ae:Int}{aE:Int}{aR:Int}{aL:Int}{r:Int}{w:World}(h:qB.f k ae aE aR aL=some r):
  Calls Try.prog 80 #[.agg #[.int .i64 ae,.int .i64 aE],.agg #[.int .i64 aR,.int .i64 aL]] w fun e w'=>e=.returned (.int .i64 r)/\Below w.heap.size w w':=by
 have bI:=Try.underlying59;have HB:=dm (Below.refl w.heap.size w);unfold qB.f at h;have H:=h;clear h;obtain⟨aF,A3,H⟩:=kS H;(try dsimp only at H);obtain⟨aC,A4,H⟩:=kS H;(try dsimp only at H);obtain⟨bJ,a_⟩:∃y_:List Int,y_=(([aF,aC]:List Int)):=⟨_,rfl⟩;replace H:((qK.f k bJ).bind fun aG=>(some aG))=some r:=l5 a_ H
 have bM:=dm a_;clear a_;obtain⟨aG,A5,H⟩:=kS H;(try dsimp only at H);obtain rfl:=Option.some.inj H
 go_enter Try.func80,Try.ntmps80;try go_wp2_with (first|((with_reducible refine kE 2 rfl ?_);refine ll #[.int .i64 ae,.int .i64 aE] 59 ?_;intro aI hg w6 jV hb;have ah:=dm (jV);have dq:=dm (kC:w.heap.size<=aI);have dr:=dm (kC:w.heap.size<=aI);replace HB:=kg HB hb;clear hb jV hg)|((with_reducible refine kE 3 rfl ?_);refine ll #[.int .i64 aR,.int .i64 aL] 59 ?_;intro aU hg w7 jV hb;have ak:=dm (jV);have dt:=dm (kC:w.heap.size<=aU);have du:=dm (kC:w.heap.size<=aU);replace HB:=kg HB hb;have cf:=dm ((by rw[hg];exact Nat.ne_of_lt (lM (g:=aI) (o:=.cells #[.int .i64 ae,.int .i64 aE] 59 (0,0)) (jZ ah.out)):aI≠aU));have cg:=dm ((by rw[hg];exact Nat.ne_of_gt (lM (g:=aI) (o:=.cells #[.int .i64 ae,.int .i64 aE] 59 (0,0)) (jZ ah.out)):aU≠aI));replace ah:=jU ah hb;clear hb jV hg))
 replace ah:=dm (kP ah.out);replace ak:=dm (kP ak.out);replace HB:=dm (l6 HB.out);refine mO 13 (S:=fun w'=>w'.cell? ⟨aI,0,none⟩=some (.int .i64 ae)/\w'.cell? ⟨aI,1,none⟩=some (.int .i64 aE)/\w'.cell? ⟨aU,0,none⟩=some (.int .i64 aR)/\w'.cell? ⟨aU,1,none⟩=some (.int .i64 aL)) [] ⟨jS ah 0,jS ah 1,jS ak 0,jS ak 1⟩ qB.Bd qB.zR (fun hHeld HT_ HW_=>?_);generalize w7.drew=w8 at ah ak HB hHeld⊢;refine jR 0 5 1 ?_;refine jR 2 7 5 ?_;refine jR 5 10 37 ?_;refine jR 7 12 165 ?_;refine kF 1 6 167 ?_;refine kF 3 8 175 ?_;refine kF 6 11 239 ?_;refine kF 8 13 495 ?_;refine lv 4 9 511 (fun K hK=>?_);refine mi Try.func110 (cmp_Compare_int.calls A3.out) ?_;rintro e w' ⟨rfl,⟨nd,rfl⟩⟩;refine⟨_,rfl,?_⟩;refine hK.out _ _ ⟨jS ah 0,jS ah 1,jS ak 0,jS ak 1⟩ (fun hHeld=>?_);clear hK K;refine kK 9 ?_;refine lv 9 14 1023 (fun K hK=>?_);refine mi Try.func110 (cmp_Compare_int.calls A4.out) ?_;rintro e w' ⟨rfl,⟨nd,rfl⟩⟩;refine⟨_,rfl,?_⟩;refine hK.out _ _ ⟨jS ah 0,jS ah 1,jS ak 0,jS ak 1⟩ (fun hHeld=>?_);clear hK K;refine kK 14 ?_;refine lv 10 15 2047 (fun K hK=>?_);refine rP (Kd.int .i64) _ 3 ?hg (N:=15) ?hd (xs:=([aF,aC]:List Int)) (inner:=[.int .i64 aF,.int .i64 aC]) (ok:=fun _=>True) (okp:=fun _=>True) ?hr ?hp (fun _ hk=>hk) trivial (Below.refl _ _) (Nat.le_refl _) (by simp) ?_;(case hd=>rfl);(case hg=>rfl);(case hr=>first|(go_simp;done)|(go_simp;rfl));(case hp=>exact(kN.one (show Kd.M (Kd.int .i64) _ _ _ aF [.int .i64 aF] from rfl) (kN.one (show Kd.M (Kd.int .i64) _ _ _ aC [.int .i64 aC] from rfl) (kN.none _ _))));intro dN w9 bk hb hg_ lD;clear hg_ lD;(first|rw[←bM.out]at bk|(simp only [Int.reduceToNat]at bk;rw[←bM.out]at bk));have bp:=dm (kR bk (kM (jT HB.out)));replace ah:=jU ah hb;replace ak:=jU ak hb;replace HB:=kg HB hb;clear hb bk;obtain⟨cp,cq,bU⟩:=kL bp.out;(first|subst bU|(injection bU with ch c_ ci;have db:=ch.symm;have dc:=ci.symm;clear ch c_ ci;subst db;subst dc));refine hK.out _ _ ⟨jS ah 0,jS ah 1,jS ak 0,jS ak 1⟩ (fun hHeld=>?_);clear hK K;refine kK 15 ?_;refine lv 11 16 4095 (fun K hK=>?_);refine mi Try.func109 (qK.calls (kz (ku bp.out).2.2) ((ku bp.out).2.1) A5.out) ?_;rintro e w' ⟨rfl,⟨nd,rfl⟩⟩;refine⟨_,rfl,?_⟩;refine hK.out _ _ ⟨jS ah 0,jS ah 1,jS ak 0,jS ak 1⟩ (fun hHeld=>?_);clear hK K;refine kK 16 ?_;refine jR 12 4 8191 ?_;refine mq (mF HT_.out (kU)) ?_;try go_wp2
 go_ret
 exact⟨nK,jT HB.out⟩
def oM.l0:Nat->List (S59)->Int->Option (Bool)
 |0,_,_=>none
 |k+1,x0,x3=>if x3<(x0.length:Int) then(if 0<=(wrap64 (x3 - 1)) then(if(wrap64 (x3 - 1))<(x0.length:Int) then(if 0<=x3 then((qB.f k ((jQ x0 (wrap64 (x3 - 1))).f0) ((jQ x0 (wrap64 (x3 - 1))).f1) ((jQ x0 x3).f0) ((jQ x0 x3).f1)).bind fun aM=>(if aM>=0 then(some false) else(oM.l0 k x0 (wrap64 (x3+1))))) else(none)) else(none)) else(none)) else(some true)
def oM.f (k:Nat) (l0:List (S59)):Option (Bool):=oM.l0 k l0 1
def oM.T4:Bool×List (List Nat×List Nat):=(true,[([],[]),([],[]),([1],[1]),([0,2],[0,2]),([3],[3]),([],[]),([],[]),([5,6],[5,6]),([7],[7]),([4,8],[4,8]),([9],[9])])
def oM.B4:List Nat:=[0,0,2,7,15,0,0,96,224,511,1023]
theorem oM.tV:mK .any (opsOf Try.f88 4)=oM.T4:=by kernel_rfl
theorem oM.sZ:nM oM.T4.2 oM.B4=true:=by kernel_rfl
theorem oM.calls {k:Nat}{A0:Option Addr}{c0:Nat}{l0:List (S59)}{r:Bool}{w:World}(bA:Kd.C k59 w A0 l0.length l0)(bB:l0.length<=c0)(h:oM.f k l0=some r):
  Calls Try.prog 88 #[.slice A0 l0.length c0] w fun e w'=>e=.returned (.bool r)/\Below w.heap.size w w':=by
 have bI:=Try.underlying59;have bj:=dm bA;have cZ:=dm bB;clear bA bB;have HB:=dm (Below.refl w.heap.size w);unfold oM.f at h;have H:=h;clear h;have H':=dm H;clear H
 go_enter Try.func88,Try.ntmps88
 go_wp2
 go_loopg [3] k (fun kq v3 w'=>∃ (ac:Int),v3=.int .i64 ac/\jP (oM.l0 kq l0 ac=some r)/\jP (kq<=k)/\jP (Below w.heap.size w w'))
 case atStart=>exact⟨(1),(kD),H',⟨Nat.le_refl _⟩,⟨jT HB.out⟩⟩
 case round=>
  clear H';obtain⟨ac,rfl,HA,bC,HB⟩:=hrel;cases gk with
  |zero=>exact absurd HA.out (by simp[oM.l0])
  |succ k1=>
   have H:=HA.out;clear HA;simp only [oM.l0]at H
   replace H:=mo H;rcases H with⟨bE,H⟩|⟨bE,H⟩
   ·obtain⟨ag,aK⟩:∃j_:Int,(wrap64 (ac - 1))=j_:=⟨_,rfl⟩;replace H:(if 0<=(ag) then(if(ag)<(l0.length:Int) then(if 0<=ac then((qB.f k1 ((jQ l0 (ag)).f0) ((jQ l0 (ag)).f1) ((jQ l0 ac).f0) ((jQ l0 ac).f1)).bind fun aM=>(if aM>=0 then(some false) else(oM.l0 k1 l0 (wrap64 (ac+1))))) else(none)) else(none)) else(none))=some r:=by first|(rw[aK]at H;exact H)|(simp only [aK]at H⊢;exact H)
    have dv:(IntKind.i64.wrap (ac - 1))=ag:=(mP _).trans aK
    obtain⟨aW,H⟩:=lC H
    obtain⟨bS,H⟩:=lC H
    obtain⟨dO,H⟩:=lC H;obtain⟨aM,A7,H⟩:=kS H;(try dsimp only at H)
    replace H:=mo H;rcases H with⟨bG,H⟩|⟨bG,H⟩
    ·obtain rfl:=Option.some.inj H;try go_wp2
     replace HB:=dm (l6 HB.out);have a4:0<=((ag):Int):=jY;have a5:(ag)<(l0.length:Int):=jY;obtain⟨ap,bK,av,aw⟩:=mZ bj.out (ag) a4 a5;have aN:=aw;have aO:=av;cases bK;replace av:=kr HB av;replace aw:=kr HB aw;replace a4:=eq_true a4;replace a5:=eq_true a5;have a6:0<=(ac:Int):=jY;have a7:ac<(l0.length:Int):=jY;obtain⟨bq,bL,ax,ay⟩:=mZ bj.out ac a6 a7;have aP:=ay;have aQ:=ax;obtain rfl:ap=bq:=(by injection bL);replace ax:=kr HB ax;replace ay:=kr HB ay;replace a6:=eq_true a6;replace a7:=eq_true a7;refine mO 11 (S:=fun w'=>w'.cell? (ap.add (((ag)).toNat*2))=some (.int .i64 ((jQ l0 (ag)).f0))/\w'.cell? ⟨(ap.add (((ag)).toNat*2)).block,(ap.add (((ag)).toNat*2)).off+1,none⟩=some (.int .i64 ((jQ l0 (ag)).f1))/\w'.cell? (ap.add ((ac).toNat*2))=some (.int .i64 ((jQ l0 ac).f0))/\w'.cell? ⟨(ap.add ((ac).toNat*2)).block,(ap.add ((ac).toNat*2)).off+1,none⟩=some (.int .i64 ((jQ l0 ac).f1))) [] ⟨(kr HB aO),(kr HB aN),(kr HB aQ),(kr HB aP)⟩ oM.tV oM.sZ (fun hHeld HT_ HW_=>?_);generalize wr.drew=w9 at HB av aw ax ay hHeld⊢;refine jR 0 10 1 ?_;refine jR 1 11 3 ?_;refine jR 2 12 7 ?_;refine jR 3 13 15 ?_;refine jR 5 15 47 ?_;refine jR 6 16 111 ?_;refine jR 7 17 239 ?_;refine kF 4 14 255 ?_;refine kF 8 18 511 ?_;refine lv 9 19 1023 (fun K hK=>?_);refine qA Try.func80 (kU) rfl #[.agg #[.int .i64 ((jQ l0 (ag)).f0),.int .i64 ((jQ l0 (ag)).f1)],.agg #[.int .i64 ((jQ l0 ac).f0),.int .i64 ((jQ l0 ac).f1)]] (by rfl) rfl rfl (yz) ?_;refine(qB.calls A7.out).mono ?_;rintro e dQ ⟨rfl,hb⟩;refine⟨_,rfl,?_⟩;replace HB:=kg HB hb;(try clear hb);refine hK.out _ _ ⟨(kr HB aO),(kr HB aN),(kr HB aQ),(kr HB aP)⟩ (fun hHeld=>?_);clear hK K;refine kK 19 ?_;refine jR 10 20 2047 ?_;refine mq (mF HT_.out (kU)) ?_;try go_wp2
     go_ret
     exact⟨by first|rfl|(simp[pg,pq]<;>rfl)|(simp only [←aK];first|rfl|(simp[pg,pq]<;>rfl))|(simp[*,pg,pq]<;>rfl),jT HB.out⟩
    have H':=dm H;clear H;try go_wp2
    replace HB:=dm (l6 HB.out);have a4:0<=((ag):Int):=jY;have a5:(ag)<(l0.length:Int):=jY;obtain⟨ap,bK,av,aw⟩:=mZ bj.out (ag) a4 a5;have aN:=aw;have aO:=av;cases bK;replace av:=kr HB av;replace aw:=kr HB aw;replace a4:=eq_true a4;replace a5:=eq_true a5;have a6:0<=(ac:Int):=jY;have a7:ac<(l0.length:Int):=jY;obtain⟨bq,bL,ax,ay⟩:=mZ bj.out ac a6 a7;have aP:=ay;have aQ:=ax;obtain rfl:ap=bq:=(by injection bL);replace ax:=kr HB ax;replace ay:=kr HB ay;replace a6:=eq_true a6;replace a7:=eq_true a7;refine mO 11 (S:=fun w'=>w'.cell? (ap.add (((ag)).toNat*2))=some (.int .i64 ((jQ l0 (ag)).f0))/\w'.cell? ⟨(ap.add (((ag)).toNat*2)).block,(ap.add (((ag)).toNat*2)).off+1,none⟩=some (.int .i64 ((jQ l0 (ag)).f1))/\w'.cell? (ap.add ((ac).toNat*2))=some (.int .i64 ((jQ l0 ac).f0))/\w'.cell? ⟨(ap.add ((ac).toNat*2)).block,(ap.add ((ac).toNat*2)).off+1,none⟩=some (.int .i64 ((jQ l0 ac).f1))) [] ⟨(kr HB aO),(kr HB aN),(kr HB aQ),(kr HB aP)⟩ oM.tV oM.sZ (fun hHeld HT_ HW_=>?_);generalize wr.drew=dR at HB av aw ax ay hHeld⊢;refine jR 0 10 1 ?_;refine jR 1 11 3 ?_;refine jR 2 12 7 ?_;refine jR 3 13 15 ?_;refine jR 5 15 47 ?_;refine jR 6 16 111 ?_;refine jR 7 17 239 ?_;refine kF 4 14 255 ?_;refine kF 8 18 511 ?_;refine lv 9 19 1023 (fun K hK=>?_);refine qA Try.func80 (kU) rfl #[.agg #[.int .i64 ((jQ l0 (ag)).f0),.int .i64 ((jQ l0 (ag)).f1)],.agg #[.int .i64 ((jQ l0 ac).f0),.int .i64 ((jQ l0 ac).f1)]] (by rfl) rfl rfl (yz) ?_;refine(qB.calls A7.out).mono ?_;rintro e dS ⟨rfl,hb⟩;refine⟨_,rfl,?_⟩;replace HB:=kg HB hb;(try clear hb);refine hK.out _ _ ⟨(kr HB aO),(kr HB aN),(kr HB aQ),(kr HB aP)⟩ (fun hHeld=>?_);clear hK K;refine kK 19 ?_;refine jR 10 20 2047 ?_;refine mq (mF HT_.out (kU)) ?_;try go_wp2
    go_roundg k1
    case measure=>have:=bC.out;omega
    case rel=>exact⟨(wrap64 (ac+1)),(kD),H',⟨by have:=bC.out;omega⟩,⟨jT HB.out⟩⟩
   obtain rfl:=Option.some.inj H
   go_wp2
   go_ret
   exact⟨nK,jT HB.out⟩
mutual
def og.j0:Nat->Bool->Int->List (S59)->Option (Bool)
 |0,_,_,_=>none
 |k+1,dd,aV,aH=>if dd=true then(some false) else(og.l0 k aH (aH.length:Int) 0 aV aH)
def og.l0:Nat->List (S59)->Int->Int->Int->List (S59)->Option (Bool)
 |0,_,_,_,_,_=>none
 |k+1,bl,cj,bf,aV,aH=>if bf<cj then(if 0<=bf then(if bf<(bl.length:Int) then(if((jQ bl bf).f0)<0 then(some false) else(if((jQ bl bf).f0)>=((jQ bl bf).f1) then(some false) else(if((jQ bl bf).f1)>=aV then(some false) else(og.l0 k bl cj (wrap64 (bf+1)) aV aH)))) else(none)) else(none)) else((oM.f k aH).bind fun br=>(some br))
end
def og.f (k:Nat) (ae:Int) (aa:List (S59)):Option (Bool):=if ae<0 then(og.j0 k true ae aa) else(og.j0 k (decide (ae>8)) ae aa)
theorem og.calls {k:Nat}{ae:Int}{bd:Option Addr}{aT:Nat}{aa:List (S59)}{r:Bool}{w:World}(bN:Kd.C k59 w bd aa.length aa)(bO:aa.length<=aT)(h:og.f k ae aa=some r):
  Calls Try.prog 50 #[.agg #[.int .i64 ae,.slice bd aa.length aT]] w fun e w'=>e=.returned (.bool r)/\Below w.heap.size w w':=by
 have dP:=Try.underlying31;have bI:=Try.underlying59;have ba:=dm bN;have b_:=dm bO;clear bN bO;have HB:=dm (Below.refl w.heap.size w);unfold og.f at h;have H:=h;clear h;have bV:=dm H;clear H
 go_enter Try.func50,Try.ntmps50
 go_upto_region 1 with(first|((with_reducible refine kE 1 rfl ?_);refine ll #[.int .i64 ae,.slice bd aa.length aT] 31 ?_;intro aq hg w3 jV hb;have af:=dm (jV);have dw:=dm (kC:w.heap.size<=aq);have dx:=dm (kC:w.heap.size<=aq);replace HB:=kg HB hb;clear hb jV hg))
 (try simp only [Act.put,List.setIfInBounds_toArray,List.set_cons_zero,List.set_cons_succ])
 go_cut [12] (fun de wc=>∃ (kq:Nat) (bh:Bool),de=.bool bh/\jP (og.j0 kq bh ae aa=some r)/\jP (kq<=k)/\jP (wc.heap[aq]? =some (.cells #[.int .i64 ae,(.slice bd aa.length aT)] 31 (0,0)))/\jP (Below w.heap.size w wc))
 case first=>
  have H:=bV.out;clear bV
  replace H:=mo H;rcases H with⟨aW,H⟩|⟨aW,H⟩
  ·(first|rw[aW]|(simp only [mP,nD];rw[aW])|skip);have H':=dm H;clear H;have⟨df,dg,dh,di⟩:=ko (w:=w3) af
   go_wp2
   go_meet
   case rel=>exact⟨_,(true),(kD),H',⟨by first|omega|exact Nat.le_refl _⟩,⟨jZ af.out⟩,⟨jT HB.out⟩⟩
  (first|rw[aW]|(simp only [mP,nD];rw[aW])|skip);have H':=dm H;clear H;have⟨bW,bX,bY,bZ⟩:=ko (w:=w3) af
  go_wp2
  go_meet
  case rel=>exact⟨_,(decide (ae>8)),(kD),H',⟨by first|omega|exact Nat.le_refl _⟩,⟨jZ af.out⟩,⟨jT HB.out⟩⟩
 case rest=>
  clear bV;obtain⟨kq,bh,rfl,HA,ck,af,HB⟩:=hcut;cases kq with
  |zero=>exact absurd HA.out (by simp[og.j0])
  |succ b3=>
   have H:=HA.out;clear HA;simp only [og.j0]at H
   rcases mE H with⟨h_,H_⟩|⟨h_,H_⟩<;> (subst h_;clear H;have H:=H_;clear H_)
   ·obtain rfl:=Option.some.inj H
    go_wp2
    go_ret
    exact⟨nK,jT HB.out⟩
   have H':=dm H;clear H;have⟨b4,b5,b6,b7⟩:=ko (w:=wc) af
   go_wp2
   go_loopg [16] b3 (fun kq dj w'=>∃ (ab:Int),dj=.int .i64 ab/\jP (og.l0 kq aa (aa.length:Int) ab ae aa=some r)/\jP (kq<=b3)/\jP (w'.heap[aq]? =some (.cells #[.int .i64 ae,(.slice bd aa.length aT)] 31 (0,0)))/\jP (Below w.heap.size w w'))
   case atStart=>exact⟨(0),(kD),H',⟨Nat.le_refl _⟩,⟨jZ af.out⟩,⟨jT HB.out⟩⟩
   case round=>
    clear H';(try clear c7 b4 b5 b6 b7);obtain⟨ab,rfl,HA,cl,af,HB⟩:=hrel;cases gk with
    |zero=>exact absurd HA.out (by simp[og.l0])
    |succ k2=>
     have H:=HA.out;clear HA;simp only [og.l0]at H
     replace H:=mo H;rcases H with⟨bH,H⟩|⟨bH,H⟩
     ·skip
      obtain⟨dy,H⟩:=lC H
      obtain⟨dz,H⟩:=lC H
      replace H:=mo H;rcases H with⟨ca,H⟩|⟨ca,H⟩
      ·obtain rfl:=Option.some.inj H;have aA:0<=(ab:Int):=jY;have aB:ab<(aa.length:Int):=jY;obtain⟨a9,a8,am,ao⟩:=mZ ba.out ab aA aB;cases a8;replace am:=kr HB am;replace ao:=kr HB ao;replace aA:=eq_true aA;replace aB:=eq_true aB
       go_wp2_with (first|((with_reducible refine kE 4 rfl ?_);refine ll #[.int .i64 0,.int .i64 0] 59 ?_;intro ai hg dk jV hb;have aS:=dm (jV);have bu:=dm (kC:w.heap.size<=ai);have bv:=dm (kC:w.heap.size<=ai);replace HB:=kg HB hb;have al:=dm (yB:aq≠ai);have au:=dm (yC:ai≠aq);replace af:=jU af hb;clear hb jV hg;have dA:=au.out;have dB:=al.out;have⟨cr,ct,cu,cv⟩:=ko (w:=dk) aS))
       go_ret
       exact⟨nK,jT HB.out⟩
      skip
      replace H:=mo H;rcases H with⟨cd,H⟩|⟨cd,H⟩
      ·obtain rfl:=Option.some.inj H;have aA:0<=(ab:Int):=jY;have aB:ab<(aa.length:Int):=jY;obtain⟨a9,a8,am,ao⟩:=mZ ba.out ab aA aB;cases a8;replace am:=kr HB am;replace ao:=kr HB ao;replace aA:=eq_true aA;replace aB:=eq_true aB
       go_wp2_with (first|((with_reducible refine kE 4 rfl ?_);refine ll #[.int .i64 0,.int .i64 0] 59 ?_;intro ai hg dl jV hb;have aS:=dm (jV);have bu:=dm (kC:w.heap.size<=ai);have bv:=dm (kC:w.heap.size<=ai);replace HB:=kg HB hb;have al:=dm (yB:aq≠ai);have au:=dm (yC:ai≠aq);replace af:=jU af hb;clear hb jV hg;have dC:=au.out;have dD:=al.out;have⟨cw,cx,cy,cz⟩:=ko (w:=dl) aS))
       go_ret
       exact⟨nK,jT HB.out⟩
      skip
      replace H:=mo H;rcases H with⟨ce,H⟩|⟨ce,H⟩
      ·obtain rfl:=Option.some.inj H;have aA:0<=(ab:Int):=jY;have aB:ab<(aa.length:Int):=jY;obtain⟨a9,a8,am,ao⟩:=mZ ba.out ab aA aB;cases a8;replace am:=kr HB am;replace ao:=kr HB ao;replace aA:=eq_true aA;replace aB:=eq_true aB
       go_wp2_with (first|((with_reducible refine kE 4 rfl ?_);refine ll #[.int .i64 0,.int .i64 0] 59 ?_;intro ai hg cm jV hb;have aS:=dm (jV);have bu:=dm (kC:w.heap.size<=ai);have bv:=dm (kC:w.heap.size<=ai);replace HB:=kg HB hb;have al:=dm (yB:aq≠ai);have au:=dm (yC:ai≠aq);replace af:=jU af hb;clear hb jV hg;have dE:=au.out;have dF:=al.out;have⟨cA,cD,cE,cF⟩:=ko (w:=cm) aS;have⟨cG,cH,cI,cJ⟩:=ko (w:=cm) af))
       go_ret
       exact⟨nK,jT HB.out⟩
      have H':=dm H;clear H;have aA:0<=(ab:Int):=jY;have aB:ab<(aa.length:Int):=jY;obtain⟨a9,a8,am,ao⟩:=mZ ba.out ab aA aB;cases a8;replace am:=kr HB am;replace ao:=kr HB ao;replace aA:=eq_true aA;replace aB:=eq_true aB
      go_wp2_with (first|((with_reducible refine kE 4 rfl ?_);refine ll #[.int .i64 0,.int .i64 0] 59 ?_;intro ai hg cn jV hb;have aS:=dm (jV);have bu:=dm (kC:w.heap.size<=ai);have bv:=dm (kC:w.heap.size<=ai);replace HB:=kg HB hb;have al:=dm (yB:aq≠ai);have au:=dm (yC:ai≠aq);replace af:=jU af hb;clear hb jV hg;have dG:=au.out;have dH:=al.out;have⟨cL,cM,cN,cO⟩:=ko (w:=cn) aS;have⟨cP,cQ,cS,cT⟩:=ko (w:=cn) af))
      go_roundg k2
      case measure=>have:=ck.out;have:=cl.out;omega
      case rel=>exact⟨(wrap64 (ab+1)),(kD),H',⟨by have:=ck.out;have:=cl.out;omega⟩,⟨lH af.out⟩,⟨jT HB.out⟩⟩
     obtain⟨br,dn,H⟩:=kS H;(try dsimp only at H);obtain rfl:=Option.some.inj H;have⟨cU,cW,cX,cY⟩:=ko (w:=wr) af
     go_wp2_with (first|((with_reducible refine kV 88 rfl ?_);refine nU 40 rfl Try.func88 (oM.calls (kz (kW ba.out HB.out)) b_.out dn.out) ?_;intro dT hb;replace af:=jU af hb;replace HB:=kg HB hb;(try clear hb)))
     go_ret
     exact⟨nK,jT HB.out⟩
def rR.f (a0:Int) (a1:Int):Option (Int×Int):=some (mn a0 a1,mx a0 a1)
theorem rR.calls {a0:Int}{a1:Int}{r1:Int}{r2:Int}{w:World}(h:rR.f a0 a1=some (r1,r2)):
  Calls Try.prog 53 #[.int .i64 a0,.int .i64 a1] w fun e w'=>e=.returned (.agg #[.int .i64 r1,.int .i64 r2])/\Below w.heap.size w w':=by
 have bI:=Try.underlying59;have HB:=dm (Below.refl w.heap.size w);unfold rR.f at h;have H:=h;clear h;obtain⟨ag,aK⟩:∃j_:Int,(mn a0 a1)=j_:=⟨_,rfl⟩;replace H:(some (ag,mx a0 a1))=some (r1,r2):=by first|(rw[aK]at H;exact H)|(simp only [aK]at H⊢;exact H)
 have dI:(if a1<a0 then a1 else a0)=ag:=aK;obtain⟨b8,bx⟩:∃j_:Int,(mx a0 a1)=j_:=⟨_,rfl⟩;replace H:(some (ag,b8))=some (r1,r2):=by first|(rw[bx]at H;exact H)|(simp only [bx]at H⊢;exact H)
 have dJ:(if a0<a1 then a1 else a0)=b8:=bx;simp only [Option.some.injEq,Prod.mk.injEq]at H;obtain⟨rfl,rfl⟩:=H
 go_enter Try.func53,Try.ntmps53
 go_wp2_with (first|((with_reducible refine kE 4 rfl ?_);refine ll #[.int .i64 0,.int .i64 0] 59 ?_;intro bz hg w5 jV hb;have bQ:=dm (jV);have dK:=dm (kC:w.heap.size<=bz);have dL:=dm (kC:w.heap.size<=bz);replace HB:=kg HB hb;clear hb jV hg;have⟨bW,bX,bY,bZ⟩:=ko (w:=w5) bQ))
 refine bodyPost_ret (results_cell_row rfl _ _ bz 59 #[.int .i64 ag,.int .i64 b8] (0,0) _ rfl (lH bQ.out) Try.underlying59 rfl (kU)) rfl ?_;exact⟨by first|rfl|(simp[pg,pq]<;>rfl)|(simp only [←aK,←bx];first|rfl|(simp[pg,pq]<;>rfl))|(simp[*,pg,pq]<;>rfl),jT HB.out⟩
theorem vX(h:p:=by exact lH ag.out):p:=h
theorem CL(h:p:=by(with_reducible repeat(first|apply kI|apply kJ|apply kv));exact kw (kG (p:=⟨af,1,none⟩) (kG (p:=⟨af,0,none⟩) (lJ ae.out ag.out (by decide)) (fun _ hk=>hk.2) (.int .i64 ((jQ aa ab).f0))) (fun _ hk=>hk.2) (.int .i64 ((jQ aa ab).f1))) (fun _ hk=>trivial)):p:=h
theorem CO(h:p:=by rw[hg];exact Nat.ne_of_lt (lM (g:=au) (o:=.cells #[.int .i64 ai,.slice (some bl) aa.length av] 31 (0,0)) (jZ ac.out))):p:=h
theorem CP(h:p:=by rw[hg];exact Nat.ne_of_gt (lM (g:=au) (o:=.cells #[.int .i64 ai,.slice (some bl) aa.length av] 31 (0,0)) (jZ ac.out))):p:=h
attribute [local go_sem high] Ay
mutual
def lS.l0:Nat->List Int->Int->Int->Int->List (S59)->Option (List Int)
 |0,_,_,_,_,_=>none
 |k+1,x3,dB,cD,aw,aq=>if cD<dB then(if x3.length<17592186044416 then(lS.l0 k (x3++[cD]) dB (wrap64 (cD+1)) aw aq) else(none)) else(lS.l1 k x3 true aw aq)
def lS.l1:Nat->List Int->Bool->Int->List (S59)->Option (List Int)
 |0,_,_,_,_=>none
 |k+1,x3,x5,aw,aq=>if x5=true then(lS.l2 k x3 false aq (aq.length:Int) 0 aw aq) else(some x3)
def lS.l2:Nat->List Int->Bool->List (S59)->Int->Int->Int->List (S59)->Option (List Int)
 |0,_,_,_,_,_,_,_=>none
 |k+1,x3,x5,aN,cE,aG,aw,aq=>if aG<cE then(if 0<=aG then(if aG<(aN.length:Int) then(if 0<=((jQ aN aG).f0) then(if((jQ aN aG).f0)<(x3.length:Int) then(if 0<=((jQ aN aG).f1) then(if((jQ aN aG).f1)<(x3.length:Int) then(if(rd x3 ((jQ aN aG).f0))=(rd x3 ((jQ aN aG).f1)) then(lS.l2 k x3 x5 aN cE (wrap64 (aG+1)) aw aq) else(lS.l2 k ((x3.set (((jQ aN aG).f0):Int).toNat (mn (rd x3 ((jQ aN aG).f0)) (rd x3 ((jQ aN aG).f1)))).set (((jQ aN aG).f1):Int).toNat (mn (rd x3 ((jQ aN aG).f0)) (rd x3 ((jQ aN aG).f1)))) true aN cE (wrap64 (aG+1)) aw aq)) else(none)) else(none)) else(none)) else(none)) else(none)) else(none)) else(lS.l1 k x3 x5 aw aq)
end
def lS.f (k:Nat) (ai:Int) (aa:List (S59)):Option (List Int):=lS.l0 k (([]:List Int)) ai 0 ai aa
def lS.T13:Bool×List (List Nat×List Nat):=(true,[([],[]),([],[]),([1],[1]),([0,2],[0,2]),([3],[3]),([],[]),([],[]),([6],[6]),([5,7],[5,7]),([8],[8]),([4,9],[4,9]),([10,0,1,2,3,4,5,6,7,8,9,10],[10])])
def lS.B13:List Nat:=[0,0,2,7,15,0,0,64,224,480,1023,2047]
theorem lS.zm:mK .any (opsOf Try.f98 13)=lS.T13:=by kernel_rfl
theorem lS.ym:nM lS.T13.2 lS.B13=true:=by kernel_rfl
def lS.T14:Bool×List (List Nat×List Nat):=(true,[([],[]),([],[]),([1],[1]),([0,2],[0,2]),([3],[3]),([],[]),([],[]),([6],[6]),([5,7],[5,7]),([8],[8]),([4,9],[4,9])])
def lS.B14:List Nat:=[0,0,2,7,15,0,0,64,224,480,1023]
theorem lS.ES:mK .any (opsOf Try.f98 14)=lS.T14:=by kernel_rfl
theorem lS.Cg:nM lS.T14.2 lS.B14=true:=by kernel_rfl
def lS.T15:Bool×List (List Nat×List Nat):=(true,[([],[]),([],[]),([1],[1]),([],[]),([],[]),([4],[4]),([],[]),([],[]),([0,2,0,1,2,6],[0,2]),([8,6,0,1,2,6],[6,8]),([3,5,0,1,2,3,4,5,6,7,8,9],[3,5]),([10,7,9,0,1,2,3,4,5,6,7,8,9],[7,10])])
def lS.B15:List Nat:=[0,0,2,0,0,16,0,0,71,327,1023,2047]
theorem lS.Kh:mK .any (opsOf Try.f98 15)=lS.T15:=by kernel_rfl
theorem lS.Gl:nM lS.T15.2 lS.B15=true:=by kernel_rfl
theorem lS.calls {k:Nat}{ai:Int}{aI:Option Addr}{av:Nat}{aa:List (S59)}{r:List Int}{w:World}(bm:Kd.C k59 w aI aa.length aa)(bn:aa.length<=av)(h:lS.f k ai aa=some r):
  Calls Try.prog 98 #[.agg #[.int .i64 ai,.slice aI aa.length av]] w fun e w'=>∃dC:Value,e=.returned (dC)/\Kd.R (Kd.int .i64) 3 w' w.heap.size (fun _=>True) dC r/\Below w.heap.size w w':=by
 have dF:=Try.underlying31;have cF:=Try.underlying59;have bz:=dm bm;have ch:=dm bn;clear bm bn;have HB:=dm (Below.refl w.heap.size w);unfold lS.f at h;have H:=h;clear h;obtain⟨cG,bo⟩:∃y_:List Int,y_=(([]:List Int)):=⟨_,rfl⟩;replace H:(lS.l0 k cG ai 0 ai aa)=some r:=l5 bo H
 have ci:=dm bo;clear bo;have H':=dm H;clear H
 go_enter Try.func98,Try.ntmps98
 go_wp2_with (first|((with_reducible refine kE 1 rfl ?_);refine ll #[.int .i64 ai,.slice aI aa.length av] 31 ?_;intro au hg w2 jV hb;have ac:=dm (jV);have ej:=dm (kC:w.heap.size<=au);have dj:=dm (kC:w.heap.size<=au);replace HB:=kg HB hb;clear hb jV hg)|((with_reducible refine kE 9 rfl ?_);refine oW (Kd.int .i64) rfl 3 ([]:List Int) [] (kN.none _ _) ?_;intro ez w3 bS hb hg_ lD;clear hg_ lD;(first|rw[←ci.out]at bS|(simp only [Int.reduceToNat]at bS;rw[←ci.out]at bS));have dk:=dm (kR bS (kM (jT HB.out)));replace ac:=jU ac hb;replace HB:=kg HB hb;clear hb bS;have⟨bT,bU,bV,bW⟩:=ko (w:=w3) ac))
 go_loopg [3,12] k (fun kq v3 dU w'=>∃ (ay:List Int) (ax:Int),dU=.int .i64 ax/\jP (lS.l0 kq ay ai ax ai aa=some r)/\jP (kq<=k)/\jP (Kd.R (Kd.int .i64) 3 w' w.heap.size (fun _=>True) v3 ay)/\jP (w'.heap[au]? =some (.cells #[.int .i64 ai,(.slice aI aa.length av)] 31 (0,0)))/\jP (Below w.heap.size w w'))
 case atStart=>exact⟨(cG),(0),(kD),H',⟨Nat.le_refl _⟩,⟨jX dk.out⟩,⟨jZ ac.out⟩,⟨jT HB.out⟩⟩
 case round=>
  clear H';(try clear bT bU bV bW);obtain⟨ay,ax,rfl,HA,aK,ae,ac,HB⟩:=hrel;cases gk with
  |zero=>exact absurd HA.out (by simp[lS.l0])
  |succ k1=>
   have H:=HA.out;clear HA;simp only [lS.l0]at H
   replace H:=mo H;rcases H with⟨b4,H⟩|⟨b4,H⟩
   ·skip
    obtain⟨c7,H⟩:=mW H;have dG:=dm c7;clear c7;obtain⟨cH,bp⟩:∃y_:List Int,y_=(ay++[ax]):=⟨_,rfl⟩;replace H:(lS.l0 k1 cH ai (wrap64 (ax+1)) ai aa)=some r:=l5 bp H
    have dl:=dm bp;clear bp;have H':=dm H;clear H
    go_wp2_with (first|((with_reducible refine oO (b:=.append) (xs:= #[.tmp 15,.tmp 17]) rfl ?_);at_builtin;refine pM (Kd.int .i64) (w0:=w) w.heap.size rfl (.tmp 15) (.tmp 17) 45 3 (.int .i64 0) 8 rfl Try.underlying45 info3 rfl (by decide) (by omega) u3 ay ax [.int .i64 ax] (fun _=>True) (fun _=>False) rfl rfl ?aP (fun _ hk=>hk.elim) ?aF ?aO ?aB ?aS ?aL ?_;(case aP=>exact rfl);(case aB=>exact(jT HB.out));(case aF=>exact(fun _ _=>trivial));(case aO=>exact(jX ae.out));(case aS=>exact(kM (jT HB.out)));(case aL=>have:=dG.out;omega);intro eA w8 ho hb hg hat;rw[←dl.out]at ho;have n0:=lZ ac hg (lU ae.out ac.out (by decide));have n1:=dm (hb);have n2:=dm (ho);clear ac HB ae;revert n0 n1 n2;intro ac HB dn;clear ho hb hg hat))
    go_roundg k1
    case measure=>have:=aK.out;omega
    case rel=>exact⟨(cH),(wrap64 (ax+1)),(kD),H',⟨by have:=aK.out;omega⟩,⟨jX dn.out⟩,⟨jZ ac.out⟩,⟨jT HB.out⟩⟩
   have H':=dm H;clear H
   go_wp2
   go_loopg [5] k1 (fun kq v5 w'=>∃ (bu:List Int) (bJ:Bool),v5=.bool bJ/\jP (lS.l1 kq bu bJ ai aa=some r)/\jP (kq<=k1)/\jP (Kd.R (Kd.int .i64) 3 w' w.heap.size (fun _=>True) u3 bu)/\jP (w'.heap[au]? =some (.cells #[.int .i64 ai,(.slice aI aa.length av)] 31 (0,0)))/\jP (Below w.heap.size w w'))
   case atStart=>exact⟨(ay),(true),(kD),H',⟨Nat.le_refl _⟩,⟨jX ae.out⟩,⟨jZ ac.out⟩,⟨jT HB.out⟩⟩
   case round=>
    clear H';(try clear b4);obtain⟨bu,bJ,rfl,HA,bC,ae,ac,HB⟩:=hrel;cases gk with
    |zero=>exact absurd HA.out (by simp[lS.l1])
    |succ k2=>
     have H:=HA.out;clear HA;simp only [lS.l1]at H
     rcases mE H with⟨h_,H_⟩|⟨h_,H_⟩<;> (subst h_;clear H;have H:=H_;clear H_)
     ·have H':=dm H;clear H;have⟨cw,cx,cy,cz⟩:=ko (w:=wr) ac
      go_wp2
      go_loopg [5,24] k2 (fun kq v5 dV w'=>∃ (ah:List Int) (bv:Bool) (ab:Int),v5=.bool bv/\dV=.int .i64 ab/\jP (lS.l2 kq ah bv aa (aa.length:Int) ab ai aa=some r)/\jP (kq<=k2)/\jP (Kd.R (Kd.int .i64) 3 w' w.heap.size (fun _=>True) u3 ah)/\jP (w'.heap[au]? =some (.cells #[.int .i64 ai,(.slice aI aa.length av)] 31 (0,0)))/\jP (Below w.heap.size w w'))
      case atStart=>exact⟨(bu),(false),(0),(kD),(kD),H',⟨Nat.le_refl _⟩,⟨jX ae.out⟩,⟨jZ ac.out⟩,⟨jT HB.out⟩⟩
      case round=>
       clear H';(try clear c9 cw cx cy cz);obtain⟨ah,bv,ab,rfl,rfl,HA,bD,ae,ac,HB⟩:=hrel;cases gk with
       |zero=>exact absurd HA.out (by simp[lS.l2])
       |succ k3=>
        have H:=HA.out;clear HA;simp only [lS.l2]at H
        replace H:=mo H;rcases H with⟨dq,H⟩|⟨dq,H⟩
        ·skip
         obtain⟨ek,H⟩:=lC H
         obtain⟨el,H⟩:=lC H
         obtain⟨em,H⟩:=lC H
         obtain⟨en,H⟩:=lC H
         obtain⟨eo,H⟩:=lC H
         obtain⟨ep,H⟩:=lC H;obtain⟨aY,bK⟩:∃j_:Int,(mn (rd ah ((jQ aa ab).f0)) (rd ah ((jQ aa ab).f1)))=j_:=⟨_,rfl⟩;replace H:(if(rd ah ((jQ aa ab).f0))=(rd ah ((jQ aa ab).f1)) then(lS.l2 k3 ah bv aa (aa.length:Int) (wrap64 (ab+1)) ai aa) else(lS.l2 k3 ((ah.set (((jQ aa ab).f0):Int).toNat (aY)).set (((jQ aa ab).f1):Int).toNat (aY)) true aa (aa.length:Int) (wrap64 (ab+1)) ai aa))=some r:=by first|(rw[bK]at H;exact H)|(simp only [bK]at H⊢;exact H)
         have dW:(if(rd ah ((jQ aa ab).f1))<(rd ah ((jQ aa ab).f0)) then(rd ah ((jQ aa ab).f1)) else(rd ah ((jQ aa ab).f0)))=aY:=bK
         by_cases bB:(rd ah ((jQ aa ab).f0))=(rd ah ((jQ aa ab).f1))
         ·rw[if_pos bB]at H;have dr:=beq_iff_eq.mpr bB;have dt:=bne_eq_false_iff_eq.mpr bB;clear bB;have H':=dm H;clear H;have a3:0<=(ab:Int):=jY;have a4:ab<(aa.length:Int):=jY;obtain⟨bl,b5,aT,aU⟩:=mZ bz.out ab a3 a4;cases b5;replace aT:=kr HB aT;replace aU:=kr HB aU;replace a3:=eq_true a3;replace a4:=eq_true a4;try go_wp2_with (first|((with_reducible refine kE 7 rfl ?_);refine ll #[.int .i64 0,.int .i64 0] 59 ?_;intro af hg bF jV hb;replace ae:=kH ae hb;have ag:=dm (jV);have du:=dm (kC:w.heap.size<=af);have cp:=dm (kC:w.heap.size<=af);replace HB:=kg HB hb;have aE:=dm (CO:au≠af);have aZ:=dm (CP:af≠au);replace ac:=jU ac hb;clear hb jV hg;have eq:=aZ.out;have es:=aE.out;have⟨dM,dN,dO,dP⟩:=ko (w:=bF) ag))
          have n0:jP (Kd.R (Kd.int .i64) 3 ((bF.setCell ⟨af,0,none⟩ (.int .i64 ((jQ aa ab).f0))).setCell ⟨af,1,none⟩ (.int .i64 ((jQ aa ab).f1))) w.heap.size (fun _=>True) u3 ah):=⟨CL⟩;have n1:jP (((bF.setCell ⟨af,0,none⟩ (.int .i64 ((jQ aa ab).f0))).setCell ⟨af,1,none⟩ (.int .i64 ((jQ aa ab).f1))).heap[au]? =some (.cells #[.int .i64 ai,.slice (some bl) aa.length av] 31 (0,0))):=⟨nZ⟩;have n2:jP (((bF.setCell ⟨af,0,none⟩ (.int .i64 ((jQ aa ab).f0))).setCell ⟨af,1,none⟩ (.int .i64 ((jQ aa ab).f1))).heap[af]? =some (.cells #[.int .i64 ((jQ aa ab).f0),.int .i64 ((jQ aa ab).f1)] 59 (0,0))):=⟨vX⟩;have n3:jP (Below w.heap.size w ((bF.setCell ⟨af,0,none⟩ (.int .i64 ((jQ aa ab).f0))).setCell ⟨af,1,none⟩ (.int .i64 ((jQ aa ab).f1)))):=⟨jT HB.out⟩;(try clear ae ac ag HB);generalize((bF.setCell ⟨af,0,none⟩ (.int .i64 ((jQ aa ab).f0))).setCell ⟨af,1,none⟩ (.int .i64 ((jQ aa ab).f1)))=dX at n0 n1 n2 n3⊢;revert n0 n1 n2 n3;intro ae ac ag HB;replace ae:=dm (kv ae.out);replace ac:=dm (kP ac.out);replace ag:=dm (kP ag.out);replace HB:=dm (l6 HB.out);obtain⟨eB,eC,cI⟩:=kL ae.out;(first|subst cI|(injection cI with bX cJ bY;have cL:=bX.symm;have cM:=bY.symm;clear bX cJ bY;subst cL;subst cM));have a5:0<=(((jQ aa ab).f0):Int):=jY;have a6:((jQ aa ab).f0)<(ah.length:Int):=jY;obtain⟨ap,b6,az⟩:=lq (ku ae.out).2.2 ((jQ aa ab).f0) a5 a6;cases b6;replace a5:=eq_true a5;replace a6:=eq_true a6;have a7:0<=(((jQ aa ab).f1):Int):=jY;have a8:((jQ aa ab).f1)<(ah.length:Int):=jY;obtain⟨bL,b7,aA⟩:=lq (ku ae.out).2.2 ((jQ aa ab).f1) a7 a8;obtain rfl:ap=bL:=(by injection b7);replace a7:=eq_true a7;replace a8:=eq_true a8;refine mO 12 (S:=fun w'=>w'.cell? ⟨af,0,none⟩=some (.int .i64 ((jQ aa ab).f0))/\w'.cell? ⟨af,1,none⟩=some (.int .i64 ((jQ aa ab).f1))/\w'.cell? (ap.add (((jQ aa ab).f0)).toNat)=some (.int .i64 (rd ah ((jQ aa ab).f0)))/\w'.cell? (ap.add (((jQ aa ab).f1)).toNat)=some (.int .i64 (rd ah ((jQ aa ab).f1)))) [] ⟨jS ag 0,jS ag 1,az,aA⟩ lS.zm lS.ym (fun hHeld HT_ HW_=>?_);generalize dX.drew=dY at ae ac ag HB az aA hHeld⊢;refine jR 0 28 1 ?_;refine jR 1 29 3 ?_;refine jR 5 33 35 ?_;refine jR 6 34 99 ?_;refine kF 2 30 103 ?_;refine jR 3 31 111 ?_;refine kF 4 32 127 ?_;refine kF 7 35 255 ?_;refine jR 8 36 511 ?_;refine kF 9 37 1023 ?_;refine jR 10 38 2047 ?_;refine jR 11 8 4095 ?_;refine mq (mF HT_.out (by kernel_rfl)) ?_;try go_wp2
          replace ae:=dm (kv ae.out);replace ac:=dm (kP ac.out);replace ag:=dm (kP ag.out);replace HB:=dm (l6 HB.out);have a9:0<=(((jQ aa ab).f0):Int):=jY;have a_:((jQ aa ab).f0)<(ah.length:Int):=jY;obtain⟨bM,b8,aC⟩:=lq (ku ae.out).2.2 ((jQ aa ab).f0) a9 a_;obtain rfl:ap=bM:=(by injection b8);replace a9:=eq_true a9;replace a_:=eq_true a_;have ba:0<=(((jQ aa ab).f1):Int):=jY;have bd:((jQ aa ab).f1)<(ah.length:Int):=jY;obtain⟨bN,b9,aD⟩:=lq (ku ae.out).2.2 ((jQ aa ab).f1) ba bd;obtain rfl:ap=bN:=(by injection b9);replace ba:=eq_true ba;replace bd:=eq_true bd;refine mO 11 (S:=fun w'=>w'.cell? ⟨af,0,none⟩=some (.int .i64 ((jQ aa ab).f0))/\w'.cell? ⟨af,1,none⟩=some (.int .i64 ((jQ aa ab).f1))/\w'.cell? (ap.add (((jQ aa ab).f0)).toNat)=some (.int .i64 (rd ah ((jQ aa ab).f0)))/\w'.cell? (ap.add (((jQ aa ab).f1)).toNat)=some (.int .i64 (rd ah ((jQ aa ab).f1)))) [] ⟨jS ag 0,jS ag 1,aC,aD⟩ lS.ES lS.Cg (fun hHeld HT_ HW_=>?_);generalize dY.drew=eN at ae ac ag HB aC aD hHeld⊢;refine jR 0 39 1 ?_;refine jR 1 40 3 ?_;refine jR 5 44 35 ?_;refine jR 6 45 99 ?_;refine kF 2 41 103 ?_;refine jR 3 42 111 ?_;refine kF 4 43 127 ?_;refine kF 7 46 255 ?_;refine jR 8 47 511 ?_;refine kF 9 48 1023 ?_;refine jR 10 49 2047 ?_;refine mq (mF HT_.out (by kernel_rfl)) ?_;try go_wp2
          go_roundg k3
          case measure=>have:=aK.out;have:=bC.out;have:=bD.out;omega
          case rel=>exact⟨(ah),(bv),(wrap64 (ab+1)),(kD),(kD),H',⟨by have:=aK.out;have:=bC.out;have:=bD.out;omega⟩,⟨jX ae.out⟩,⟨jZ ac.out⟩,⟨jT HB.out⟩⟩
         rw[if_neg bB]at H;have dr:=beq_eq_false_iff_ne.mpr bB;have dt:=bne_iff_ne.mpr bB;obtain⟨cN,bq⟩:∃y_:List Int,y_=(ah.set (((jQ aa ab).f0):Int).toNat (aY)):=⟨_,rfl⟩;replace H:(lS.l2 k3 (cN.set (((jQ aa ab).f1):Int).toNat (aY)) true aa (aa.length:Int) (wrap64 (ab+1)) ai aa)=some r:=l5 bq H
         have dv:=dm bq;clear bq;obtain⟨cO,br⟩:∃y_:List Int,y_=(cN.set (((jQ aa ab).f1):Int).toNat (aY)):=⟨_,rfl⟩;replace H:(lS.l2 k3 cO true aa (aa.length:Int) (wrap64 (ab+1)) ai aa)=some r:=l5 br H
         have dw:=dm br;clear br;have H':=dm H;clear H;have a3:0<=(ab:Int):=jY;have a4:ab<(aa.length:Int):=jY;obtain⟨bl,b5,aT,aU⟩:=mZ bz.out ab a3 a4;cases b5;replace aT:=kr HB aT;replace aU:=kr HB aU;replace a3:=eq_true a3;replace a4:=eq_true a4;try go_wp2_with (first|((with_reducible refine kE 7 rfl ?_);refine ll #[.int .i64 0,.int .i64 0] 59 ?_;intro af hg bG jV hb;replace ae:=kH ae hb;have ag:=dm (jV);have du:=dm (kC:w.heap.size<=af);have cp:=dm (kC:w.heap.size<=af);replace HB:=kg HB hb;have aE:=dm (CO:au≠af);have aZ:=dm (CP:af≠au);replace ac:=jU ac hb;clear hb jV hg;have et:=aZ.out;have eu:=aE.out;have⟨dQ,dR,dS,dT⟩:=ko (w:=bG) ag))
         have n0:jP (Kd.R (Kd.int .i64) 3 ((bG.setCell ⟨af,0,none⟩ (.int .i64 ((jQ aa ab).f0))).setCell ⟨af,1,none⟩ (.int .i64 ((jQ aa ab).f1))) w.heap.size (fun _=>True) u3 ah):=⟨CL⟩;have n1:jP (((bG.setCell ⟨af,0,none⟩ (.int .i64 ((jQ aa ab).f0))).setCell ⟨af,1,none⟩ (.int .i64 ((jQ aa ab).f1))).heap[au]? =some (.cells #[.int .i64 ai,.slice (some bl) aa.length av] 31 (0,0))):=⟨nZ⟩;have n2:jP (((bG.setCell ⟨af,0,none⟩ (.int .i64 ((jQ aa ab).f0))).setCell ⟨af,1,none⟩ (.int .i64 ((jQ aa ab).f1))).heap[af]? =some (.cells #[.int .i64 ((jQ aa ab).f0),.int .i64 ((jQ aa ab).f1)] 59 (0,0))):=⟨vX⟩;have n3:jP (Below w.heap.size w ((bG.setCell ⟨af,0,none⟩ (.int .i64 ((jQ aa ab).f0))).setCell ⟨af,1,none⟩ (.int .i64 ((jQ aa ab).f1)))):=⟨jT HB.out⟩;(try clear ae ac ag HB);generalize((bG.setCell ⟨af,0,none⟩ (.int .i64 ((jQ aa ab).f0))).setCell ⟨af,1,none⟩ (.int .i64 ((jQ aa ab).f1)))=dZ at n0 n1 n2 n3⊢;revert n0 n1 n2 n3;intro ae ac ag HB;replace ae:=dm (kv ae.out);replace ac:=dm (kP ac.out);replace ag:=dm (kP ag.out);replace HB:=dm (l6 HB.out);obtain⟨eD,eE,cP⟩:=kL ae.out;(first|subst cP|(injection cP with bX cJ bY;have cL:=bX.symm;have cM:=bY.symm;clear bX cJ bY;subst cL;subst cM));have a5:0<=(((jQ aa ab).f0):Int):=jY;have a6:((jQ aa ab).f0)<(ah.length:Int):=jY;obtain⟨ap,b6,az⟩:=lq (ku ae.out).2.2 ((jQ aa ab).f0) a5 a6;cases b6;replace a5:=eq_true a5;replace a6:=eq_true a6;have a7:0<=(((jQ aa ab).f1):Int):=jY;have a8:((jQ aa ab).f1)<(ah.length:Int):=jY;obtain⟨bL,b7,aA⟩:=lq (ku ae.out).2.2 ((jQ aa ab).f1) a7 a8;obtain rfl:ap=bL:=(by injection b7);replace a7:=eq_true a7;replace a8:=eq_true a8;refine mO 12 (S:=fun w'=>w'.cell? ⟨af,0,none⟩=some (.int .i64 ((jQ aa ab).f0))/\w'.cell? ⟨af,1,none⟩=some (.int .i64 ((jQ aa ab).f1))/\w'.cell? (ap.add (((jQ aa ab).f0)).toNat)=some (.int .i64 (rd ah ((jQ aa ab).f0)))/\w'.cell? (ap.add (((jQ aa ab).f1)).toNat)=some (.int .i64 (rd ah ((jQ aa ab).f1)))) [] ⟨jS ag 0,jS ag 1,az,aA⟩ lS.zm lS.ym (fun hHeld HT_ HW_=>?_);generalize dZ.drew=d7 at ae ac ag HB az aA hHeld⊢;refine jR 0 28 1 ?_;refine jR 1 29 3 ?_;refine jR 5 33 35 ?_;refine jR 6 34 99 ?_;refine kF 2 30 103 ?_;refine jR 3 31 111 ?_;refine kF 4 32 127 ?_;refine kF 7 35 255 ?_;refine jR 8 36 511 ?_;refine kF 9 37 1023 ?_;refine jR 10 38 2047 ?_;refine jR 11 8 4095 ?_;refine mq (mF HT_.out (by kernel_rfl)) ?_;try go_wp2
         replace ae:=dm (kv ae.out);replace ac:=dm (kP ac.out);replace ag:=dm (kP ag.out);replace HB:=dm (l6 HB.out);have a9:0<=(((jQ aa ab).f0):Int):=jY;have a_:((jQ aa ab).f0)<(ah.length:Int):=jY;obtain⟨bM,b8,aC⟩:=lq (ku ae.out).2.2 ((jQ aa ab).f0) a9 a_;obtain rfl:ap=bM:=(by injection b8);replace a9:=eq_true a9;replace a_:=eq_true a_;have ba:0<=(((jQ aa ab).f1):Int):=jY;have bd:((jQ aa ab).f1)<(ah.length:Int):=jY;obtain⟨bN,b9,aD⟩:=lq (ku ae.out).2.2 ((jQ aa ab).f1) ba bd;obtain rfl:ap=bN:=(by injection b9);replace ba:=eq_true ba;replace bd:=eq_true bd;refine mO 11 (S:=fun w'=>w'.cell? ⟨af,0,none⟩=some (.int .i64 ((jQ aa ab).f0))/\w'.cell? ⟨af,1,none⟩=some (.int .i64 ((jQ aa ab).f1))/\w'.cell? (ap.add (((jQ aa ab).f0)).toNat)=some (.int .i64 (rd ah ((jQ aa ab).f0)))/\w'.cell? (ap.add (((jQ aa ab).f1)).toNat)=some (.int .i64 (rd ah ((jQ aa ab).f1)))) [] ⟨jS ag 0,jS ag 1,aC,aD⟩ lS.ES lS.Cg (fun hHeld HT_ HW_=>?_);generalize d7.drew=d8 at ae ac ag HB aC aD hHeld⊢;refine jR 0 39 1 ?_;refine jR 1 40 3 ?_;refine jR 5 44 35 ?_;refine jR 6 45 99 ?_;refine kF 2 41 103 ?_;refine jR 3 42 111 ?_;refine kF 4 43 127 ?_;refine kF 7 46 255 ?_;refine jR 8 47 511 ?_;refine kF 9 48 1023 ?_;refine jR 10 49 2047 ?_;refine mq (mF HT_.out (by kernel_rfl)) ?_;try go_wp2
         replace ae:=dm (kv ae.out);replace ac:=dm (kP ac.out);replace ag:=dm (kP ag.out);replace HB:=dm (l6 HB.out);have cQ:0<=(((jQ aa ab).f0):Int):=jY;have cS:(((jQ aa ab).f0):Int)<((ah.length:Int):Int):=jY;obtain⟨eF,eG,cT,cU,dH,eH,cW⟩:=wS ae.out (by omega);(first|cases cT|(injection cT with ea_ en_ ec_;(first|subst ea_|(injection ea_ with ea_;subst ea_));subst ec_;clear en_));have cX:=dm cU;have dI:=dm cW;clear cU dH cW;(first|simp only [add_plain]at az|skip);(first|simp only [add_plain]at aA|skip);(first|simp only [add_plain]at aC|skip);(first|simp only [add_plain]at aD|skip);obtain⟨cY,cZ⟩:=sH 0 ae.out (((jQ aa ab).f0):Int) cQ cS;replace cQ:=eq_true cQ;replace cS:=eq_true cS;have b_:=zG ae.out (((jQ aa ab).f0):Int) aY;rw[←dv.out]at b_;have ca:=dm b_;clear b_;have c_:0<=(((jQ aa ab).f1):Int):=jY;have db:(((jQ aa ab).f1):Int)<((ah.length:Int):Int):=jY;obtain⟨dc,dd⟩:=sH 0 ca.out (((jQ aa ab).f1):Int) c_ db;replace c_:=eq_true c_;replace db:=eq_true db;have cd:=zG ca.out (((jQ aa ab).f1):Int) aY;rw[←dw.out]at cd;have de:=dm cd;clear cd;refine mO 12 (S:=fun w'=>w'.cell? ⟨af,0,none⟩=some (.int .i64 ((jQ aa ab).f0))/\w'.cell? ⟨af,1,none⟩=some (.int .i64 ((jQ aa ab).f1))) [11] ⟨jS ag 0,jS ag 1⟩ lS.Kh lS.Gl (fun hHeld HT_ HW_=>?_);generalize d8.drew=eO at ae ac ag HB dI ca de cZ dd cY dc az aA aC aD hHeld⊢;refine jR 0 50 1 ?_;refine jR 1 51 3 ?_;refine jR 3 53 11 ?_;refine jR 4 54 27 ?_;refine jR 6 56 91 ?_;refine jR 7 57 219 ?_;refine kF 2 52 223 ?_;refine jR 8 58 479 ?_;refine kF 5 55 511 ?_;refine vF 9 (none) (lu 12 1023) (fun K hK=>?_);refine pF (w1:= ?_) (by rfl) rfl ?_ ?_;rotate_left
         ·go_simp
          rfl
         refine hK.out _ _ ⟨((cell_far (fun e_=>lU ae.out ag.out (by decide) (congrArg some e_)) _).trans (hHeld.1)),((cell_far (fun e_=>lU ae.out ag.out (by decide) (congrArg some e_)) _).trans (hHeld.2))⟩ (fun hHeld=>?_);clear hK K;refine jR 10 59 2047 ?_;refine qD 11 (none) (lu 12 4095) (fun K hK=>?_);refine pF (w1:= ?_) (by rfl) rfl ?_ ?_;rotate_left
         ·go_simp
          rfl
         refine hK.out _ _ ?_;clear hK K;refine mq (mF HT_.out (by kernel_rfl)) ?_;try go_wp2
         go_roundg k3
         case measure=>have:=aK.out;have:=bC.out;have:=bD.out;omega
         case rel=>exact⟨(cO),(true),(wrap64 (ab+1)),(kD),(kD),H',⟨by have:=aK.out;have:=bC.out;have:=bD.out;omega⟩,⟨jX de.out⟩,⟨by(with_reducible repeat(first|refine pz ?_ _|refine kP ?_|refine nu ?_ _));refine pO ?_ (by have h_:=lU ae.out ac.out (by decide);intro e_;exact h_ (by rw[e_];rfl)) _;(with_reducible repeat(first|refine pz ?_ _|refine kP ?_|refine nu ?_ _));refine pO ?_ (by have h_:=lU ae.out ac.out (by decide);intro e_;exact h_ (by rw[e_];rfl)) _;(with_reducible repeat(first|refine pz ?_ _|refine kP ?_|refine nu ?_ _));exact ac.out⟩,⟨by repeat(first|(with_reducible first|exact HB.out|apply o6|apply pK|apply l6|refine nQ ?_ cX.out|refine nQ ?_ cX.out|refine nQ ?_ dj.out|refine nQ ?_ cp.out)|exact HB.out)⟩⟩
        have H':=dm H;clear H
        go_wp2
        go_roundg k3
        case measure=>have:=aK.out;have:=bC.out;have:=bD.out;omega
        case rel=>exact⟨(ah),(bv),(kD),H',⟨by have:=aK.out;have:=bC.out;have:=bD.out;omega⟩,⟨jX ae.out⟩,⟨jZ ac.out⟩,⟨jT HB.out⟩⟩
     obtain rfl:=Option.some.inj H
     go_wp2
     go_ret
     exact⟨_,mV,jX ae.out,jT HB.out⟩
def qh.l0:Nat->Int->List Int->Int->Int->Option (Int)
 |0,_,_,_,_=>none
 |k+1,x3,x7,x8,x9=>if x9<x8 then(if 0<=x9 then(if x9<(x7.length:Int) then(if x9=(rd x7 x9) then(qh.l0 k (wrap64 (x3+1)) x7 x8 (wrap64 (x9+1))) else(qh.l0 k x3 x7 x8 (wrap64 (x9+1)))) else(none)) else(none)) else(some x3)
def qh.f (k:Nat) (ai:Int) (aa:List (S59)):Option (Int):=(lS.f k ai aa).bind fun ao=>(qh.l0 k 0 ao (ao.length:Int) 0)
theorem qh.calls {k:Nat}{ai:Int}{aI:Option Addr}{av:Nat}{aa:List (S59)}{r:Int}{w:World}(bm:Kd.C k59 w aI aa.length aa)(bn:aa.length<=av)(h:qh.f k ai aa=some r):
  Calls Try.prog 63 #[.agg #[.int .i64 ai,.slice aI aa.length av]] w fun e w'=>e=.returned (.int .i64 r)/\Below w.heap.size w w':=by
 have dF:=Try.underlying31;have bz:=dm bm;have ch:=dm bn;clear bm bn;have HB:=dm (Below.refl w.heap.size w);unfold qh.f at h;have H:=h;clear h;obtain⟨ao,A2,H⟩:=kS H;(try dsimp only at H);have H':=dm H;clear H
 go_enter Try.func63,Try.ntmps63
 go_wp2_with (first|((with_reducible refine kE 1 rfl ?_);refine ll #[.int .i64 ai,.slice aI aa.length av] 31 ?_;intro bO hg w3 jV hb;have aR:=dm (jV);have ev:=dm (kC:w.heap.size<=bO);have ew:=dm (kC:w.heap.size<=bO);replace HB:=kg HB hb;clear hb jV hg;have⟨df,dg,dh,di⟩:=ko (w:=w3) aR)|((with_reducible refine kV 98 rfl ?_);refine lN 7 rfl Try.func98 (lS.calls (kz (kW bz.out HB.out)) ch.out A2.out) ?_;rintro e w5 ⟨eI,rfl,dD,hb⟩;refine⟨_,rfl,?_⟩;have cq:=dm (kR dD (kM (jT HB.out)));replace aR:=jU aR hb;replace HB:=kg HB hb;(try clear hb dD);obtain⟨d9,d_,ea⟩:=kL cq.out;subst ea))
 go_loopg [3,9] k (fun kq v3 v9 w'=>∃ (ay:Int) (ak:Int),v3=.int .i64 ay/\v9=.int .i64 ak/\jP (qh.l0 kq ay ao (ao.length:Int) ak=some r)/\jP (kq<=k)/\jP (Kd.R (Kd.int .i64) 3 w' w.heap.size (fun _=>True) (.slice d9 ao.length d_) ao)/\jP (w'.heap[bO]? =some (.cells #[.int .i64 ai,(.slice aI aa.length av)] 31 (0,0)))/\jP (Below w.heap.size w w'))
 case atStart=>exact⟨(0),(0),(kD),(kD),H',⟨Nat.le_refl _⟩,⟨jX cq.out⟩,⟨jZ aR.out⟩,⟨jT HB.out⟩⟩
 case round=>
  clear H';(try clear df dg dh di);obtain⟨ay,ak,rfl,rfl,HA,aK,bP,aR,HB⟩:=hrel;cases gk with
  |zero=>exact absurd HA.out (by simp[qh.l0])
  |succ k1=>
   have H:=HA.out;clear HA;simp only [qh.l0]at H
   replace H:=mo H;rcases H with⟨ce,H⟩|⟨ce,H⟩
   ·skip
    obtain⟨eJ,H⟩:=lC H
    obtain⟨eK,H⟩:=lC H
    by_cases c10:ak=(rd ao ak)
    ·rw[if_pos c10]at H;have dx:=beq_iff_eq.mpr c10;have dy:=bne_eq_false_iff_eq.mpr c10;clear c10;have H':=dm H;clear H;have bf:0<=(ak:Int):=jY;have bh:ak<(ao.length:Int):=jY;obtain⟨dz,cf,cA⟩:=lq (ku bP.out).2.2 ak bf bh;cases cf;replace bf:=eq_true bf;replace bh:=eq_true bh
     go_wp2
     go_roundg k1
     case measure=>have:=aK.out;omega
     case rel=>exact⟨(wrap64 (ay+1)),(wrap64 (ak+1)),(kD),(kD),H',⟨by have:=aK.out;omega⟩,⟨jX bP.out⟩,⟨jZ aR.out⟩,⟨jT HB.out⟩⟩
    rw[if_neg c10]at H;have dx:=beq_eq_false_iff_ne.mpr c10;have dy:=bne_iff_ne.mpr c10;have H':=dm H;clear H;have bf:0<=(ak:Int):=jY;have bh:ak<(ao.length:Int):=jY;obtain⟨dz,cf,cA⟩:=lq (ku bP.out).2.2 ak bf bh;cases cf;replace bf:=eq_true bf;replace bh:=eq_true bh
    go_wp2
    go_roundg k1
    case measure=>have:=aK.out;omega
    case rel=>exact⟨(ay),(wrap64 (ak+1)),(kD),(kD),H',⟨by have:=aK.out;omega⟩,⟨jX bP.out⟩,⟨jZ aR.out⟩,⟨jT HB.out⟩⟩
   obtain rfl:=Option.some.inj H
   go_wp2
   go_ret
   exact⟨nK,jT HB.out⟩
def rz.l0:Nat->List (S59)->Int->Int->Int->Int->Option (Int)
 |0,_,_,_,_,_=>none
 |k+1,x0,x7,x8,bH,bI=>if x8<x7 then(if 0<=x8 then(if x8<(x0.length:Int) then(if(bH==((jQ x0 x8).f0)&&(bI==((jQ x0 x8).f1)))=true then(some x8) else(rz.l0 k x0 x7 (wrap64 (x8+1)) bH bI)) else(none)) else(none)) else(some (-1))
def rz.f (k:Nat) (l0:List (S59)) (al:Int) (am:Int):Option (Int):=rz.l0 k l0 (l0.length:Int) 0 al am
theorem rz.calls {k:Nat}{A0:Option Addr}{c0:Nat}{l0:List (S59)}{al:Int}{am:Int}{r:Int}{w:World}(bZ:Kd.C k59 w A0 l0.length l0)(b3:l0.length<=c0)(h:rz.f k l0 al am=some r):
  Calls Try.prog 111 #[.slice A0 l0.length c0,.agg #[.int .i64 al,.int .i64 am]] w fun e w'=>e=.returned (.int .i64 r)/\Below w.heap.size w w':=by
 have cF:=Try.underlying59;have cr:=dm bZ;have dE:=dm b3;clear bZ b3;have HB:=dm (Below.refl w.heap.size w);unfold rz.f at h;have H:=h;clear h;have H':=dm H;clear H
 go_enter Try.func111,Try.ntmps111
 go_wp2_with (first|((with_reducible refine kE 3 rfl ?_);refine ll #[.int .i64 al,.int .i64 am] 59 ?_;intro aM hg w3 jV hb;have aX:=dm (jV);have ct:=dm (kC:w.heap.size<=aM);have cu:=dm (kC:w.heap.size<=aM);replace HB:=kg HB hb;clear hb jV hg))
 repeat(go_quiet (first|((with_reducible refine kE 3 rfl ?_);refine ll #[.int .i64 al,.int .i64 am] 59 ?_;intro aM hg w3 jV hb;have aX:=dm (jV);have ct:=dm (kC:w.heap.size<=aM);have cu:=dm (kC:w.heap.size<=aM);replace HB:=kg HB hb;clear hb jV hg));try go_wp2_with (first|((with_reducible refine kE 3 rfl ?_);refine ll #[.int .i64 al,.int .i64 am] 59 ?_;intro aM hg w3 jV hb;have aX:=dm (jV);have ct:=dm (kC:w.heap.size<=aM);have cu:=dm (kC:w.heap.size<=aM);replace HB:=kg HB hb;clear hb jV hg)))
 go_loopg [8] k (fun kq v8 w'=>∃ (aj:Int),v8=.int .i64 aj/\jP (rz.l0 kq l0 (l0.length:Int) aj al am=some r)/\jP (kq<=k)/\jP (w'.heap[aM]? =some (.cells #[.int .i64 al,.int .i64 am] 59 (0,0)))/\jP (Below w.heap.size w w'))
 case atStart=>exact⟨(0),(kD),H',⟨Nat.le_refl _⟩,⟨jZ aX.out⟩,⟨jT HB.out⟩⟩
 case round=>
  clear H';obtain⟨aj,rfl,HA,aK,aX,HB⟩:=hrel;cases gk with
  |zero=>exact absurd HA.out (by simp[rz.l0])
  |succ k1=>
   have H:=HA.out;clear HA;simp only [rz.l0]at H
   replace H:=mo H;rcases H with⟨dJ,H⟩|⟨dJ,H⟩
   ·skip
    obtain⟨eL,H⟩:=lC H
    obtain⟨b4,H⟩:=lC H
    by_cases c7:(al==((jQ l0 aj).f0)&&(am==((jQ l0 aj).f1)))=true
    ·rw[if_pos c7]at H;have ce:(al==((jQ l0 aj).f0)&&(am==((jQ l0 aj).f1)))=true:=c7;(try(have dK:decide (al=((jQ l0 aj).f0)&&(am==((jQ l0 aj).f1)))=true:=by simpa using c7));(try(have dL:(al==((jQ l0 aj).f0)&&(am==((jQ l0 aj).f1)))=true:=by simpa using c7));clear c7;obtain rfl:=Option.some.inj H;have⟨eb,ec,ed,ee⟩:=ko (w:=wr) aX;have bj:0<=(aj:Int):=jY;have bk:aj<(l0.length:Int):=jY;obtain⟨dA,cg,aV,aW⟩:=mZ cr.out aj bj bk;cases cg;replace aV:=kr HB aV;replace aW:=kr HB aW;replace bj:=eq_true bj;replace bk:=eq_true bk
     go_wp2
     repeat(go_quiet (fail);try go_wp2)
     go_ret
     exact⟨nK,jT HB.out⟩
    rw[if_neg c7]at H;have ce:(al==((jQ l0 aj).f0)&&(am==((jQ l0 aj).f1)))=false:=by simpa using c7
    (try(have dK:decide (al=((jQ l0 aj).f0)&&(am==((jQ l0 aj).f1)))=false:=by simpa using c7));(try(have dL:(al==((jQ l0 aj).f0)&&(am==((jQ l0 aj).f1)))=false:=by simpa using c7));(try(have eM:¬ (al=((jQ l0 aj).f0)&&(am==((jQ l0 aj).f1))):=by simpa using c7));clear c7;have H':=dm H;clear H;have⟨ef,eg,eh,ei⟩:=ko (w:=wr) aX;have bj:0<=(aj:Int):=jY;have bk:aj<(l0.length:Int):=jY;obtain⟨dA,cg,aV,aW⟩:=mZ cr.out aj bj bk;cases cg;replace aV:=kr HB aV;replace aW:=kr HB aW;replace bj:=eq_true bj;replace bk:=eq_true bk
    go_wp2
    repeat(go_quiet (fail);try go_wp2)
    go_roundg k1
    case measure=>have:=aK.out;omega
    case rel=>exact⟨(wrap64 (aj+1)),(kD),H',⟨by have:=aK.out;omega⟩,⟨jZ aX.out⟩,⟨jT HB.out⟩⟩
   obtain rfl:=Option.some.inj H
   go_wp2
   repeat(go_quiet (fail);try go_wp2)
   go_ret
   exact⟨nK,jT HB.out⟩
def tQ.f (k:Nat) (l0:List (S59)) (al:Int) (am:Int):Option (Bool):=(rz.f k l0 al am).bind fun bx=>(some (decide (bx>=0)))
theorem tQ.calls {k:Nat}{A0:Option Addr}{c0:Nat}{l0:List (S59)}{al:Int}{am:Int}{r:Bool}{w:World}(bZ:Kd.C k59 w A0 l0.length l0)(b3:l0.length<=c0)(h:tQ.f k l0 al am=some r):
  Calls Try.prog 81 #[.slice A0 l0.length c0,.agg #[.int .i64 al,.int .i64 am]] w fun e w'=>e=.returned (.bool r)/\Below w.heap.size w w':=by
 have cF:=Try.underlying59;have cr:=dm bZ;have dE:=dm b3;clear bZ b3;have HB:=dm (Below.refl w.heap.size w);unfold tQ.f at h;have H:=h;clear h;obtain⟨bx,A3,H⟩:=kS H;(try dsimp only at H);obtain rfl:=Option.some.inj H
 go_enter Try.func81,Try.ntmps81
 go_wp2_with (first|((with_reducible refine kE 3 rfl ?_);refine ll #[.int .i64 al,.int .i64 am] 59 ?_;intro cv hg w4 jV hb;have bA:=dm (jV);have ex:=dm (kC:w.heap.size<=cv);have ey:=dm (kC:w.heap.size<=cv);replace HB:=kg HB hb;clear hb jV hg;have⟨bT,bU,bV,bW⟩:=ko (w:=w4) bA)|((with_reducible refine kV 111 rfl ?_);refine nU 7 rfl Try.func111 (rz.calls (kz (kW cr.out HB.out)) dE.out A3.out) ?_;intro w6 hb;replace bA:=jU bA hb;replace HB:=kg HB hb;(try clear hb)))
 go_ret
 exact⟨nK,jT HB.out⟩
theorem CQ(h:p:=by exact lH au.out):p:=h
theorem CR(h:p:=by(with_reducible repeat(first|apply kI|apply kJ|apply kv));exact(kw (kG (p:=⟨aj,1,none⟩) (kG (p:=⟨aj,0,none⟩) (kw ac.out (fun k_ hk=>(⟨hk,hk.2⟩:_/\k_≠aj))) (fun _ hk=>hk.2) (.int .i64 ((jQ aa ab).f0))) (fun _ hk=>hk.2) (.int .i64 ((jQ aa ab).f1))) (fun _ h_=>h_.1))):p:=h
theorem CS(h:p:=by rw[hg];exact Nat.ne_of_lt (lM (g:=ap) (o:=.cells #[.int .i64 ae,.slice (some a4) aa.length av] 31 (0,0)) (jZ af.out))):p:=h
theorem CU(h:p:=by rw[hg];exact Nat.ne_of_gt (lM (g:=ap) (o:=.cells #[.int .i64 ae,.slice (some a4) aa.length av] 31 (0,0)) (jZ af.out))):p:=h
theorem CV(h:p:=by rw[hg];exact Nat.ne_of_lt (lM (g:=ap) (o:=.cells #[.int .i64 ae,.slice aD aa.length av] 31 (0,0)) (jZ af.out))):p:=h
theorem CW(h:p:=by rw[hg];exact Nat.ne_of_gt (lM (g:=ap) (o:=.cells #[.int .i64 ae,.slice aD aa.length av] 31 (0,0)) (jZ af.out))):p:=h
theorem Ae(h:p:=by rw[hg];exact Nat.ne_of_lt (lM (g:=am) (o:=.cells #[.int .i64 0,.slice none 0 0] 31 (0,0)) (jZ ag.out))):p:=h
theorem Ad(h:p:=by rw[hg];exact Nat.ne_of_gt (lM (g:=am) (o:=.cells #[.int .i64 0,.slice none 0 0] 31 (0,0)) (jZ ag.out))):p:=h
def oz.l0:Nat->List (S59)->List (S59)->Int->Int->Int->List (S59)->Option (Int× (List (S59)))
 |0,_,_,_,_,_,_=>none
 |k+1,x1,bm,b3,a5,bf,aW=>if a5<b3 then(if 0<=a5 then(if a5<(bm.length:Int) then((tQ.f k x1 ((jQ bm a5).f0) ((jQ bm a5).f1)).bind fun bC=>(if bC=true then(oz.l0 k x1 bm b3 (wrap64 (a5+1)) bf aW) else(if aW.length<8796093022208 then(oz.l0 k x1 bm b3 (wrap64 (a5+1)) bf (aW++[(⟨(jQ bm a5).f0,(jQ bm a5).f1⟩:S59)])) else(none)))) else(none)) else(none)) else(some (bf,aW))
def oz.f (k:Nat) (ae:Int) (aa:List (S59)) (l1:List (S59)):Option (Int× (List (S59))):=oz.l0 k l1 aa (aa.length:Int) 0 ae (([]:List (S59)))
theorem oz.calls {k:Nat}{ae:Int}{aD:Option Addr}{av:Nat}{aa:List (S59)}{A1:Option Addr}{c1:Nat}{l1:List (S59)}{r1:Int}{r2:List (S59)}{w:World}(a6:Kd.C k59 w aD aa.length aa)(a7:aa.length<=av)(hr1:Kd.C k59 w A1 l1.length l1)(co:l1.length<=c1)(h:oz.f k ae aa l1=some (r1,r2)):
  Calls Try.prog 66 #[.agg #[.int .i64 ae,.slice aD aa.length av],.slice A1 l1.length c1] w fun e w'=>∃cp:Value,e=.returned (.agg #[.int .i64 r1,cp])/\Kd.R k59 59 w' w.heap.size (fun _=>True) cp r2/\Below w.heap.size w w':=by
 have cz:=Try.underlying31;have d7:=Try.underlying59;have aX:=dm a6;have bl:=dm a7;clear a6 a7;have cq:=dm hr1;have cr:=dm co;clear hr1 co;have HB:=dm (Below.refl w.heap.size w);unfold oz.f at h;have H:=h;clear h;obtain⟨bD,a8⟩:∃y_:List (S59),y_=(([]:List (S59))):=⟨_,rfl⟩;replace H:(oz.l0 k l1 aa (aa.length:Int) 0 ae bD)=some (r1,r2):=l5 a8 H
 have bJ:=dm a8;clear a8;have H':=dm H;clear H
 go_enter Try.func66,Try.ntmps66
 go_wp2_with (first|((with_reducible refine kE 2 rfl ?_);refine ll #[.int .i64 ae,.slice aD aa.length av] 31 ?_;intro ap hg w3 jV hb;have af:=dm (jV);have dr:=dm (kC:w.heap.size<=ap);have dt:=dm (kC:w.heap.size<=ap);replace HB:=kg HB hb;clear hb jV hg)|((with_reducible refine kE 4 rfl ?_);refine ll #[.int .i64 0,.slice none 0 0] 31 ?_;intro am hg w4 jV hb;have ag:=dm (jV);have du:=dm (kC:w.heap.size<=am);have dv:=dm (kC:w.heap.size<=am);replace HB:=kg HB hb;have bh:=dm (CV:ap≠am);have bj:=dm (CW:am≠ap);replace af:=jU af hb;clear hb jV hg;have d8:=bh.out;have d9:=bj.out;have⟨b4,b5,b6,b7⟩:=ko (w:=w4) af)|((with_reducible refine kE 10 rfl ?_);refine oW k59 rfl 59 ([]:List (S59)) [] (kN.none _ _) ?_;intro d_ w7 bG hb hg_ lD;clear hg_ lD;(first|rw[←bJ.out]at bG|(simp only [Int.reduceToNat]at bG;rw[←bJ.out]at bG));have a9:=dm (kR bG (kM (jT HB.out)));replace af:=jU af hb;replace ag:=jU ag hb;replace HB:=kg HB hb;clear hb bG;obtain⟨ct,cu,dj⟩:=kL a9.out;subst dj)|((with_reducible refine kE 5 rfl ?_);refine ll #[.int .i64 0,.slice none 0 0] 31 ?_;intro al hg cv jV hb;have n0:=kH a9 hb;have n1:=jU af hb;have n2:=jU ag hb;have n3:=kg HB hb;have n4:=dm (jV);have n5:=dm (kC:w.heap.size<=al);have n6:=dm (kC:w.heap.size<=al);have n7:=dm (CV:ap≠al);have n8:=dm (CW:al≠ap);have n9:=dm (Ae:am≠al);have bH:=dm (Ad:al≠am);clear a9 af ag HB;revert n0 n1 n2 n3 n4 n5 n6 n7 n8 n9 bH;intro a9 af ag HB ah dw dx aw aQ ax aR;clear hb jV hg;have dy:=aQ.out;have dz:=aw.out;have dA:=aR.out;have dB:=ax.out;have⟨bS,bT,bU,bV⟩:=ko (w:=cv) ah;have⟨bW,bX,bY,bZ⟩:=ko (w:=cv) af))
 go_loopg [15] k (fun kq dk w'=>∃ (ab:Int) (ai:List (S59)) (ao:Value),dk=.int .i64 ab/\jP (oz.l0 kq l1 aa (aa.length:Int) ab ae ai=some (r1,r2))/\jP (kq<=k)/\jP (Kd.R k59 59 w' w.heap.size (fun _=>True) ao ai)/\jP (w'.heap[ap]? =some (.cells #[.int .i64 ae,(.slice aD aa.length av)] 31 (0,0)))/\jP (w'.heap[am]? =some (.cells #[.int .i64 0,(.slice none 0 0)] 31 (0,0)))/\jP (w'.heap[al]? =some (.cells #[.int .i64 ae,ao] 31 (0,0)))/\jP (Below w.heap.size w w'))
 case atStart=>exact⟨(0),(bD),(.slice ct bD.length cu),(by first|rfl|(simp;done)|(simp[*];done)),H',⟨Nat.le_refl _⟩,⟨by(with_reducible repeat(first|apply kI|apply kJ|apply kv));exact kw (kG (p:=⟨al,1,none⟩) (kG (p:=⟨al,0,none⟩) (lJ a9.out ah.out (by decide)) (fun _ hk=>hk.2) (.int .i64 ae)) (fun _ hk=>hk.2) (.slice ct bD.length cu)) (fun _ hk=>trivial)⟩,⟨lH af.out⟩,⟨lH ag.out⟩,⟨lH ah.out⟩,⟨jT HB.out⟩⟩
 case round=>
  clear H';(try clear bS bT bW bX b4 b5 bU bV bY bZ b6 b7);obtain⟨ab,ai,ao,rfl,HA,bK,ac,af,ag,ah,HB⟩:=hrel;cases gk with
  |zero=>exact absurd HA.out (by simp[oz.l0])
  |succ k1=>
   have H:=HA.out;clear HA;simp only [oz.l0]at H
   replace H:=mo H;rcases H with⟨cj,H⟩|⟨cj,H⟩
   ·skip
    obtain⟨dC,H⟩:=lC H
    obtain⟨dD,H⟩:=lC H;obtain⟨bC,cw,H⟩:=kS H;(try dsimp only at H)
    rcases mE H with⟨h_,H_⟩|⟨h_,H_⟩<;> (subst h_;clear H;have H:=H_;clear H_)
    ·have H':=dm H;clear H;have aY:0<=(ab:Int):=jY;have aZ:ab<(aa.length:Int):=jY;obtain⟨a4,bI,aM,aN⟩:=mZ aX.out ab aY aZ;cases bI;replace aM:=kr HB aM;replace aN:=kr HB aN;replace aY:=eq_true aY;replace aZ:=eq_true aZ
     go_wp2_with (first|((with_reducible refine kE 7 rfl ?_);refine ll #[.int .i64 0,.int .i64 0] 59 ?_;intro aj hg dl jV hb;have n0:=dm (qb (xV (jX ac.out) aj (Nat.le_of_eq hg.symm)) hb);have n1:=jU af hb;have n2:=jU ag hb;have n3:=jU ah hb;have n4:=kg HB hb;have n5:=dm (jV);have n6:=dm (kC:w.heap.size<=aj);have n7:=dm (kC:w.heap.size<=aj);have n8:=dm (CS:ap≠aj);have n9:=dm (CU:aj≠ap);have bH:=dm (Ae:am≠aj);have b8:=dm (Ad:aj≠am);have b9:=dm ((by rw[hg];exact Nat.ne_of_lt (lM (g:=al) (o:=.cells #[.int .i64 ae,ao] 31 (0,0)) (jZ ah.out)):al≠aj));have b_:=dm ((by rw[hg];exact Nat.ne_of_gt (lM (g:=al) (o:=.cells #[.int .i64 ae,ao] 31 (0,0)) (jZ ah.out)):aj≠al));clear ac af ag ah HB;revert n0 n1 n2 n3 n4 n5 n6 n7 n8 n9 bH b8 b9 b_;intro ac af ag ah HB au ck cl az aT aA aU aC aV;clear hb jV hg;have dE:=aT.out;have dF:=az.out;have dG:=aU.out;have dH:=aA.out;have dI:=aV.out;have dJ:=aC.out;have⟨cE,cF,cG,cH⟩:=ko (w:=dl) au)|((with_reducible refine kV 81 rfl ?_);refine nU 21 rfl Try.func81 (tQ.calls (kW cq.out (jT HB.out)) cr.out cw.out) ?_;intro ef hb;replace ac:=dm (qb (CR) hb);replace af:=dm (nY (g:=ap) (o:=.cells #[.int .i64 ae,.slice (some a4) aa.length av] 31 (0,0)) (si) hb);replace ag:=dm (nY (g:=am) (o:=.cells #[.int .i64 0,.slice none 0 0] 31 (0,0)) (vX) hb);replace ah:=dm (nY (g:=al) (o:=.cells #[.int .i64 ae,ao] 31 (0,0)) (yt) hb);replace au:=dm (nY (g:=aj) (o:=.cells #[.int .i64 ((jQ aa ab).f0),.int .i64 ((jQ aa ab).f1)] 59 (0,0)) (CQ) hb);replace HB:=kg HB hb;(try clear hb)))
     go_roundg k1
     case measure=>have:=bK.out;omega
     case rel=>exact⟨(wrap64 (ab+1)),(ai),(ao),(by first|rfl|(simp;done)|(simp[*];done)),H',⟨by have:=bK.out;omega⟩,⟨by(with_reducible repeat(first|apply kI|apply kJ|apply kv));exact kw ac.out (fun _ hk=>trivial)⟩,⟨jZ af.out⟩,⟨jZ ag.out⟩,⟨jZ ah.out⟩,⟨jT HB.out⟩⟩
    skip
    obtain⟨bO,H⟩:=mW H;have cm:=dm bO;clear bO;obtain⟨bE,a_⟩:∃y_:List (S59),y_=(ai++[(⟨(jQ aa ab).f0,(jQ aa ab).f1⟩:S59)]):=⟨_,rfl⟩;replace H:(oz.l0 k1 l1 aa (aa.length:Int) (wrap64 (ab+1)) ae bE)=some (r1,r2):=l5 a_ H
    have cn:=dm a_;clear a_;have H':=dm H;clear H;have aY:0<=(ab:Int):=jY;have aZ:ab<(aa.length:Int):=jY;obtain⟨a4,bI,aM,aN⟩:=mZ aX.out ab aY aZ;cases bI;replace aM:=kr HB aM;replace aN:=kr HB aN;replace aY:=eq_true aY;replace aZ:=eq_true aZ
    go_wp2_with (first|((with_reducible refine kE 7 rfl ?_);refine ll #[.int .i64 0,.int .i64 0] 59 ?_;intro aj hg dn jV hb;have n0:=dm (qb (xV (jX ac.out) aj (Nat.le_of_eq hg.symm)) hb);have n1:=jU af hb;have n2:=jU ag hb;have n3:=jU ah hb;have n4:=kg HB hb;have n5:=dm (jV);have n6:=dm (kC:w.heap.size<=aj);have n7:=dm (kC:w.heap.size<=aj);have n8:=dm (CS:ap≠aj);have n9:=dm (CU:aj≠ap);have bH:=dm (Ae:am≠aj);have b8:=dm (Ad:aj≠am);have b9:=dm ((by rw[hg];exact Nat.ne_of_lt (lM (g:=al) (o:=.cells #[.int .i64 ae,ao] 31 (0,0)) (jZ ah.out)):al≠aj));have b_:=dm ((by rw[hg];exact Nat.ne_of_gt (lM (g:=al) (o:=.cells #[.int .i64 ae,ao] 31 (0,0)) (jZ ah.out)):aj≠al));clear ac af ag ah HB;revert n0 n1 n2 n3 n4 n5 n6 n7 n8 n9 bH b8 b9 b_;intro ac af ag ah HB au ck cl az aT aA aU aC aV;clear hb jV hg;have dK:=aT.out;have dL:=az.out;have dM:=aU.out;have dN:=aA.out;have dO:=aV.out;have dP:=aC.out;have⟨cI,cJ,cL,cM⟩:=ko (w:=dn) au)|((with_reducible refine kV 81 rfl ?_);refine nU 21 rfl Try.func81 (tQ.calls (kW cq.out (jT HB.out)) cr.out cw.out) ?_;intro cx hb;replace ac:=dm (qb (CR) hb);replace af:=dm (nY (g:=ap) (o:=.cells #[.int .i64 ae,.slice (some a4) aa.length av] 31 (0,0)) (si) hb);replace ag:=dm (nY (g:=am) (o:=.cells #[.int .i64 0,.slice none 0 0] 31 (0,0)) (vX) hb);replace ah:=dm (nY (g:=al) (o:=.cells #[.int .i64 ae,ao] 31 (0,0)) (yt) hb);replace au:=dm (nY (g:=aj) (o:=.cells #[.int .i64 ((jQ aa ab).f0),.int .i64 ((jQ aa ab).f1)] 59 (0,0)) (CQ) hb);replace HB:=kg HB hb;(try clear hb);have dQ:=aQ.out;have dR:=aw.out;have dS:=aR.out;have dT:=ax.out;have⟨cN,cO,cP,cQ⟩:=ko (w:=cx) ah;have⟨cS,cT,cU,cW⟩:=ko (w:=cx) au)|((with_reducible refine oO (b:=.append) (xs:= #[.tmp 24,.tmp 26]) rfl ?_);at_builtin;refine pM k59 (w0:=w) w.heap.size rfl (.tmp 24) (.tmp 26) 29 59 (.agg #[(.int .i64 0),(.int .i64 0)]) 16 rfl Try.underlying29 qM rfl (by decide) (by omega) ao ai (⟨(jQ aa ab).f0,(jQ aa ab).f1⟩:S59) [.int .i64 ((jQ aa ab).f0),.int .i64 ((jQ aa ab).f1)] (fun k_=>k_≠aj) (fun _=>False) rfl rfl ?aP (fun _ hk=>hk.elim) ?aF ?aO ?aB ?aS ?aL ?_;(case aP=>exact pR _ _ _ (⟨(jQ aa ab).f0,(jQ aa ab).f1⟩:S59));(case aB=>exact(jT HB.out));(case aF=>exact(fun k_ hk=>vz (g:=aj) (o:=.cells #[.int .i64 ((jQ aa ab).f0),.int .i64 ((jQ aa ab).f1)] 59 (0,0)) (jZ au.out) k_ hk));(case aO=>exact(by(with_reducible repeat(first|apply kI|apply kJ|apply kv));exact kw ac.out (fun _ hk=>hk.2)));(case aS=>exact(kM (jT HB.out)));(case aL=>have:=cm.out;omega);intro ea dq ho hb hg hat;rw[←cn.out]at ho;have n0:=lZ af hg (lU ac.out af.out (by decide));have n1:=lZ ag hg (lU ac.out ag.out (by decide));have n2:=lZ ah hg (lU ac.out ah.out (by decide));have n3:=lZ au hg (uY ac.out (fun _ hk=>hk.2));have n4:=dm (hb);have n5:=dm (ho);clear af ag ah au HB ac;revert n0 n1 n2 n3 n4 n5;intro af ag ah au HB bP;clear ho hb hg hat;obtain⟨ca,cd,cA⟩:=kL bP.out;subst cA;have⟨cX,cY,cZ,c_⟩:=ko (w:=dq) ah))
    go_roundg k1
    case measure=>have:=bK.out;omega
    case rel=>exact⟨(wrap64 (ab+1)),(bE),(.slice ca bE.length cd),(by first|rfl|(simp;done)|(simp[*];done)),H',⟨by have:=bK.out;omega⟩,⟨by(with_reducible repeat(first|apply kI|apply kJ|apply kv));exact kw (kG (p:=⟨al,1,none⟩) (lJ bP.out ah.out (by decide)) (fun _ hk=>hk.2) (.slice ca bE.length cd)) (fun _ hk=>trivial)⟩,⟨lH af.out⟩,⟨lH ag.out⟩,⟨lH ah.out⟩,⟨jT HB.out⟩⟩
   simp only [Option.some.injEq,Prod.mk.injEq]at H;obtain⟨rfl,rfl⟩:=H;have dU:=aQ.out;have dV:=aw.out;have dW:=aR.out;have dX:=ax.out;have⟨db,dc,dd,de⟩:=ko (w:=wr) ah;have dY:=bj.out;have dZ:=bh.out;have⟨df,dg,dh,di⟩:=ko (w:=wr) ag;obtain⟨ce,cf,cD⟩:=kL ac.out;subst cD
   go_wp2;refine bodyPost_ret (results_cell_row rfl _ _ am 31 #[.int .i64 ae,.slice ce ai.length cf] (0,0) _ rfl (lH ag.out) Try.underlying31 rfl (by kernel_rfl)) rfl ?_;exact⟨_,mV,by(with_reducible repeat(first|apply kI|apply kJ|apply kv));exact kw (kG (p:=⟨am,1,none⟩) (kG (p:=⟨am,0,none⟩) (lJ ac.out ag.out (by decide)) (fun _ hk=>hk.2) (.int .i64 ae)) (fun _ hk=>hk.2) (.slice ce ai.length cf)) (fun _ hk=>trivial),jT HB.out⟩
def uk.f (k:Nat) (ae:Int) (aa:List (S59)) (a1:Int) (a2:Int):Option (Bool):=(lS.f k ae aa).bind fun ak=>(if 0<=a1 then(if a1<(ak.length:Int) then(if 0<=a2 then(if a2<(ak.length:Int) then(some ((rd ak a1)==(rd ak a2))) else(none)) else(none)) else(none)) else(none))
theorem uk.calls {k:Nat}{ae:Int}{aD:Option Addr}{av:Nat}{aa:List (S59)}{a1:Int}{a2:Int}{r:Bool}{w:World}(a6:Kd.C k59 w aD aa.length aa)(a7:aa.length<=av)(h:uk.f k ae aa a1 a2=some r):
  Calls Try.prog 99 #[.agg #[.int .i64 ae,.slice aD aa.length av],.int .i64 a1,.int .i64 a2] w fun e w'=>e=.returned (.bool r)/\Below w.heap.size w w':=by
 have cz:=Try.underlying31;have aX:=dm a6;have bl:=dm a7;clear a6 a7;have HB:=dm (Below.refl w.heap.size w);unfold uk.f at h;have H:=h;clear h;obtain⟨ak,A4,H⟩:=kS H;(try dsimp only at H)
 obtain⟨eb,H⟩:=lC H
 obtain⟨ec,H⟩:=lC H
 obtain⟨ed,H⟩:=lC H
 obtain⟨ee,H⟩:=lC H;obtain rfl:=Option.some.inj H
 go_enter Try.func99,Try.ntmps99
 go_wp2_with (first|((with_reducible refine kE 3 rfl ?_);refine ll #[.int .i64 ae,.slice aD aa.length av] 31 ?_;intro aK hg w9 jV hb;have aq:=dm (jV);have bQ:=dm (kC:w.heap.size<=aK);have bR:=dm (kC:w.heap.size<=aK);replace HB:=kg HB hb;clear hb jV hg;have⟨bu,bv,bx,bz⟩:=ko (w:=w9) aq)|(go_at_call 98;refine(lS.calls (kz (kW aX.out HB.out)) bl.out A4.out).mono ?_;rintro e cy ⟨cg,rfl,bk,hb⟩;have ay:=dm (kR bk (kM (jT HB.out)));replace aq:=jU aq hb;replace HB:=kg HB hb;(try clear hb bk);obtain⟨ch,ci,bo⟩:=kL ay.out;subst bo;have aE:0<=(a1:Int):=jY;have aG:a1<(ak.length:Int):=jY;obtain⟨ba,bp,bA⟩:=lq (ku ay.out).2.2 a1 aE aG;cases bp;replace aE:=eq_true aE;replace aG:=eq_true aG;have aH:0<=(a2:Int):=jY;have aI:a2<(ak.length:Int):=jY;obtain⟨bd,bq,bB⟩:=lq (ku ay.out).2.2 a2 aH aI;obtain rfl:ba=bd:=(by injection bq);replace aH:=eq_true aH;replace aI:=eq_true aI))
 repeat(go_quiet (first|((with_reducible refine kE 3 rfl ?_);refine ll #[.int .i64 ae,.slice aD aa.length av] 31 ?_;intro aK hg w9 jV hb;have aq:=dm (jV);have bQ:=dm (kC:w.heap.size<=aK);have bR:=dm (kC:w.heap.size<=aK);replace HB:=kg HB hb;clear hb jV hg;have⟨bu,bv,bx,bz⟩:=ko (w:=w9) aq)|(go_at_call 98;(with_reducible refine(lS.calls ?mI ?mQ A4.out).mono ?_);(case mI=>exact kz (kW aX.out HB.out));(case mQ=>exact bl.out);rintro e cy ⟨cg,rfl,bk,hb⟩;have ay:=dm (kR bk (kM (jT HB.out)));replace aq:=jU aq hb;replace HB:=kg HB hb;(try clear hb bk);obtain⟨ch,ci,bo⟩:=kL ay.out;subst bo;have aE:0<=(a1:Int):=jY;have aG:a1<(ak.length:Int):=jY;obtain⟨ba,bp,bA⟩:=lq (ku ay.out).2.2 a1 aE aG;cases bp;replace aE:=eq_true aE;replace aG:=eq_true aG;have aH:0<=(a2:Int):=jY;have aI:a2<(ak.length:Int):=jY;obtain⟨bd,bq,bB⟩:=lq (ku ay.out).2.2 a2 aH aI;obtain rfl:ba=bd:=(by injection bq);replace aH:=eq_true aH;replace aI:=eq_true aI));try go_wp2_with (first|((with_reducible refine kE 3 rfl ?_);refine ll #[.int .i64 ae,.slice aD aa.length av] 31 ?_;intro aK hg w9 jV hb;have aq:=dm (jV);have bQ:=dm (kC:w.heap.size<=aK);have bR:=dm (kC:w.heap.size<=aK);replace HB:=kg HB hb;clear hb jV hg;have⟨bu,bv,bx,bz⟩:=ko (w:=w9) aq)|(go_at_call 98;(with_reducible refine(lS.calls ?mI ?mQ A4.out).mono ?_);(case mI=>exact kz (kW aX.out HB.out));(case mQ=>exact bl.out);rintro e cy ⟨cg,rfl,bk,hb⟩;have ay:=dm (kR bk (kM (jT HB.out)));replace aq:=jU aq hb;replace HB:=kg HB hb;(try clear hb bk);obtain⟨ch,ci,bo⟩:=kL ay.out;subst bo;have aE:0<=(a1:Int):=jY;have aG:a1<(ak.length:Int):=jY;obtain⟨ba,bp,bA⟩:=lq (ku ay.out).2.2 a1 aE aG;cases bp;replace aE:=eq_true aE;replace aG:=eq_true aG;have aH:0<=(a2:Int):=jY;have aI:a2<(ak.length:Int):=jY;obtain⟨bd,bq,bB⟩:=lq (ku ay.out).2.2 a2 aH aI;obtain rfl:ba=bd:=(by injection bq);replace aH:=eq_true aH;replace aI:=eq_true aI)))
 go_ret
 exact⟨mV,jT HB.out⟩
theorem vY(h:p:=by exact lH ae.out):p:=h
theorem CX(h:p:=by(with_reducible repeat(first|apply kI|apply kJ|apply kv));exact kw (kG (p:=⟨af,1,none⟩) (kG (p:=⟨af,0,none⟩) (kw ah.out (fun k_ hk=>(⟨hk,hk.2⟩:_/\k_≠af))) (fun _ hk=>hk.2) (.int .i64 ((jQ aa ab).f0))) (fun _ hk=>hk.2) (.int .i64 ((jQ aa ab).f1))) (fun _ hk=>hk.1.2)):p:=h
theorem CY(h:p:=by rw[hg];exact Nat.ne_of_lt (lM (g:=ap) (o:=.cells #[.int .i64 ai,.slice (some aA) aa.length au] 31 (0,0)) (jZ ac.out))):p:=h
theorem CK(h:p:=by rw[hg];exact Nat.ne_of_gt (lM (g:=ap) (o:=.cells #[.int .i64 ai,.slice (some aA) aa.length au] 31 (0,0)) (jZ ac.out))):p:=h
theorem Af(h:p:=by first|rfl|(simp;done)|(simp only [←bT,←bU]<;> (first|rfl|simp))|(simp[*];done)):p:=h
def nW.l0:Nat->List (S59)->List (S59)->Int->Int->Int->List (S59)->Option ((List (S59)))
 |0,_,_,_,_,_,_=>none
 |k+1,x3,x8,x9,aM,bv,bx=>if aM<x9 then(if 0<=aM then(if aM<(x8.length:Int) then((oz.f k bv bx (([(⟨(jQ x8 aM).f0,(jQ x8 aM).f1⟩:S59)]:List (S59)))).bind fun bk=>((uk.f k bk.1 bk.2 ((jQ x8 aM).f0) ((jQ x8 aM).f1)).bind fun aU=>(if aU=true then(nW.l0 k x3 x8 x9 (wrap64 (aM+1)) bv bx) else(if x3.length<8796093022208 then(nW.l0 k (x3++[(⟨(jQ x8 aM).f0,(jQ x8 aM).f1⟩:S59)]) x8 x9 (wrap64 (aM+1)) bv bx) else(none))))) else(none)) else(none)) else(some x3)
def nW.f (k:Nat) (ai:Int) (aa:List (S59)):Option ((List (S59))):=nW.l0 k (([]:List (S59))) aa (aa.length:Int) 0 ai aa
def nW.T5:Bool×List (List Nat×List Nat):=(true,[([],[]),([],[]),([1],[1]),([0,2],[0,2]),([],[]),([4],[4]),([],[]),([6],[6]),([3,5,7,3],[3,5,7]),([8],[8])])
def nW.B5:List Nat:=[0,0,2,7,0,16,0,64,255,511]
theorem nW.xM:mK .any (opsOf Try.f64 5)=nW.T5:=by kernel_rfl
theorem nW.wW:nM nW.T5.2 nW.B5=true:=by kernel_rfl
theorem nW.calls {k:Nat}{ai:Int}{aN:Option Addr}{au:Nat}{aa:List (S59)}{r:List (S59)}{w:World}(bl:Kd.C k59 w aN aa.length aa)(bm:aa.length<=au)(h:nW.f k ai aa=some r):
  Calls Try.prog 64 #[.agg #[.int .i64 ai,.slice aN aa.length au]] w fun e w'=>∃cO:Value,e=.returned (cO)/\Kd.R k59 59 w' w.heap.size (fun _=>True) cO r/\Below w.heap.size w w':=by
 have cQ:=Try.underlying31;have dH:=Try.underlying59;have a6:=dm bl;have bD:=dm bm;clear bl bm;have HB:=dm (Below.refl w.heap.size w);unfold nW.f at h;have H:=h;clear h;obtain⟨co,bn⟩:∃y_:List (S59),y_=(([]:List (S59))):=⟨_,rfl⟩;replace H:(nW.l0 k co aa (aa.length:Int) 0 ai aa)=some r:=l5 bn H
 have cf:=dm bn;clear bn;have H':=dm H;clear H
 go_enter Try.func64,Try.ntmps64
 go_wp2_with (first|((with_reducible refine kE 1 rfl ?_);refine ll #[.int .i64 ai,.slice aN aa.length au] 31 ?_;intro ap hg w2 jV hb;have ac:=dm (jV);have dx:=dm (kC:w.heap.size<=ap);have dy:=dm (kC:w.heap.size<=ap);replace HB:=kg HB hb;clear hb jV hg)|((with_reducible refine kE 6 rfl ?_);refine oW k59 rfl 59 ([]:List (S59)) [] (kN.none _ _) ?_;intro dI w3 bZ hb hg_ lD;clear hg_ lD;(first|rw[←cf.out]at bZ|(simp only [Int.reduceToNat]at bZ;rw[←cf.out]at bZ));have cF:=dm (kR bZ (kM (jT HB.out)));replace ac:=jU ac hb;replace HB:=kg HB hb;clear hb bZ;have⟨cp,cq,cr,ct⟩:=ko (w:=w3) ac))
 go_loopg [3,10] k (fun kq v3 dr w'=>∃ (am:List (S59)) (ab:Int),dr=.int .i64 ab/\jP (nW.l0 kq am aa (aa.length:Int) ab ai aa=some r)/\jP (kq<=k)/\jP (Kd.R k59 59 w' w.heap.size (fun _=>True) v3 am)/\jP (w'.heap[ap]? =some (.cells #[.int .i64 ai,(.slice aN aa.length au)] 31 (0,0)))/\jP (Below w.heap.size w w'))
 case atStart=>exact⟨(co),(0),(kD),H',⟨Nat.le_refl _⟩,⟨jX cF.out⟩,⟨jZ ac.out⟩,⟨jT HB.out⟩⟩
 case round=>
  clear H';(try clear cp cq cr ct);obtain⟨am,ab,rfl,HA,a7,ah,ac,HB⟩:=hrel;cases gk with
  |zero=>exact absurd HA.out (by simp[nW.l0])
  |succ k1=>
   have H:=HA.out;clear HA;simp only [nW.l0]at H
   replace H:=mo H;rcases H with⟨bG,H⟩|⟨bG,H⟩
   ·skip
    obtain⟨cu,H⟩:=lC H
    obtain⟨cS,H⟩:=lC H;obtain⟨a8,bo⟩:∃y_:List (S59),y_=(([(⟨(jQ aa ab).f0,(jQ aa ab).f1⟩:S59)]:List (S59))):=⟨_,rfl⟩;replace H:((oz.f k1 ai aa a8).bind fun bk=>((uk.f k1 bk.1 bk.2 ((jQ aa ab).f0) ((jQ aa ab).f1)).bind fun aU=>(if aU=true then(nW.l0 k1 am aa (aa.length:Int) (wrap64 (ab+1)) ai aa) else(if am.length<8796093022208 then(nW.l0 k1 (am++[(⟨(jQ aa ab).f0,(jQ aa ab).f1⟩:S59)]) aa (aa.length:Int) (wrap64 (ab+1)) ai aa) else(none)))))=some r:=l5 bo H
    have bE:=dm bo;clear bo;obtain⟨⟨a9,aT⟩,A9,H⟩:=kS H;(try dsimp only at H);obtain⟨aU,cP,H⟩:=kS H;(try dsimp only at H)
    rcases mE H with⟨h_,H_⟩|⟨h_,H_⟩<;> (subst h_;clear H;have H:=H_;clear H_)
    ·have H':=dm H;clear H;have a_:0<=(ab:Int):=jY;have ba:ab<(aa.length:Int):=jY;obtain⟨aA,b4,aQ,aR⟩:=mZ a6.out ab a_ ba;cases b4;replace aQ:=kr HB aQ;replace aR:=kr HB aR;replace a_:=eq_true a_;replace ba:=eq_true ba;try go_wp2_with (first|((with_reducible refine kE 5 rfl ?_);refine ll #[.int .i64 0,.int .i64 0] 59 ?_;intro af hg bO jV hb;replace ah:=dm (qb (xV (jX ah.out) af (Nat.le_of_eq hg.symm)) hb);have ae:=dm (jV);have cG:=dm (kC:w.heap.size<=af);have cH:=dm (kC:w.heap.size<=af);replace HB:=kg HB hb;have aw:=dm (CY:ap≠af);have aW:=dm (CK:af≠ap);replace ac:=jU ac hb;clear hb jV hg;have dz:=aW.out;have dA:=aw.out;have⟨dc,dd,de,df⟩:=ko (w:=bO) ae))
     have n0:jP (Kd.R k59 59 ((bO.setCell ⟨af,0,none⟩ (.int .i64 ((jQ aa ab).f0))).setCell ⟨af,1,none⟩ (.int .i64 ((jQ aa ab).f1))) w.heap.size (fun k_=>k_≠af) u3 am):=⟨CX⟩;have n1:jP (((bO.setCell ⟨af,0,none⟩ (.int .i64 ((jQ aa ab).f0))).setCell ⟨af,1,none⟩ (.int .i64 ((jQ aa ab).f1))).heap[ap]? =some (.cells #[.int .i64 ai,.slice (some aA) aa.length au] 31 (0,0))):=⟨nZ⟩;have n2:jP (((bO.setCell ⟨af,0,none⟩ (.int .i64 ((jQ aa ab).f0))).setCell ⟨af,1,none⟩ (.int .i64 ((jQ aa ab).f1))).heap[af]? =some (.cells #[.int .i64 ((jQ aa ab).f0),.int .i64 ((jQ aa ab).f1)] 59 (0,0))):=⟨vY⟩;have n3:jP (Below w.heap.size w ((bO.setCell ⟨af,0,none⟩ (.int .i64 ((jQ aa ab).f0))).setCell ⟨af,1,none⟩ (.int .i64 ((jQ aa ab).f1)))):=⟨jT HB.out⟩;(try clear ah ac ae HB);generalize((bO.setCell ⟨af,0,none⟩ (.int .i64 ((jQ aa ab).f0))).setCell ⟨af,1,none⟩ (.int .i64 ((jQ aa ab).f1)))=dt at n0 n1 n2 n3⊢;revert n0 n1 n2 n3;intro ah ac ae HB;replace ah:=dm (kv ah.out);replace ac:=dm (kP ac.out);replace ae:=dm (kP ae.out);replace HB:=dm (l6 HB.out);refine mO 10 (S:=fun w'=>w'.cell? ⟨ap,0,none⟩=some (.int .i64 ai)/\w'.cell? ⟨ap,1,none⟩=some (.slice (some aA) aa.length au)/\w'.cell? ⟨af,0,none⟩=some (.int .i64 ((jQ aa ab).f0))/\w'.cell? ⟨af,1,none⟩=some (.int .i64 ((jQ aa ab).f1))) [] ⟨jS ac 0,jS ac 1,jS ae 0,jS ae 1⟩ nW.xM nW.wW (fun hHeld HT_ HW_=>?_);generalize dt.drew=dK at ah ac ae HB hHeld⊢;refine jR 4 18 16 ?_;refine jR 6 20 80 ?_;refine kF 0 14 81 ?_;refine kF 1 15 83 ?_;refine kF 5 19 115 ?_;refine kF 7 21 243 ?_;refine lv 2 16 247 (fun K hK=>?_);refine rP k59 _ 59 ?hg (N:=16) ?hd (xs:=([(⟨(jQ aa ab).f0,(jQ aa ab).f1⟩:S59)]:List (S59))) (inner:=[.int .i64 ((jQ aa ab).f0),.int .i64 ((jQ aa ab).f1)]) (ok:=fun _=>True) (okp:=fun _=>True) ?hr ?hp (fun _ hk=>hk) trivial (Below.refl _ _) (Nat.le_refl _) (by simp) ?_;(case hd=>rfl);(case hg=>rfl);(case hr=>first|(go_simp;done)|(go_simp;rfl));(case hp=>exact(kN.c2 (show Kd.M k59 _ _ _ (⟨(jQ aa ab).f0,(jQ aa ab).f1⟩:S59) [.int .i64 ((jQ aa ab).f0),.int .i64 ((jQ aa ab).f1)] from(pR _ _ _ (⟨(jQ aa ab).f0,(jQ aa ab).f1⟩:S59))) (kN.none _ _)));intro cT dL bz hb hg_ lD;clear hg_ lD;(first|rw[←bE.out]at bz|(simp only [Int.reduceToNat]at bz;rw[←bE.out]at bz));have aj:=dm (kR (xW (lI bz (kZ (jX ah.out))) (g:=af) (o:=.cells #[.int .i64 ((jQ aa ab).f0),.int .i64 ((jQ aa ab).f1)] 59 (0,0)) (jZ ae.out)) (kM (jT HB.out)));replace ah:=lV ah bz hb;replace ac:=jU ac hb;replace ae:=jU ae hb;replace HB:=kg HB hb;clear hb bz;obtain⟨cU,cW,cv⟩:=kL aj.out;(first|subst cv|(injection cv with aX bH aY;have bI:=aX.symm;have bJ:=aY.symm;clear aX bH aY;subst bI;subst bJ));refine hK.out _ _ ⟨jS ac 0,jS ac 1,jS ae 0,jS ae 1⟩ (fun hHeld=>?_);clear hK K;refine kK 16 ?_;refine lv 3 17 255 (fun K hK=>?_);refine mi Try.func66 (oz.calls (kz (kW a6.out HB.out)) bD.out (kz (ku aj.out).2.2) ((ku aj.out).2.1) A9.out) ?_;rintro e dM ⟨cX,rfl,bp,hb⟩;refine⟨_,rfl,?_⟩;have al:=dm (kR (xW (lI (lI bp (kZ (jX ah.out))) (kZ (jX aj.out))) (g:=af) (o:=.cells #[.int .i64 ((jQ aa ab).f0),.int .i64 ((jQ aa ab).f1)] 59 (0,0)) (jZ ae.out)) (kM (jT HB.out)));replace ah:=lV ah bp hb;replace aj:=lV aj bp hb;replace ac:=jU ac hb;replace ae:=jU ae hb;replace HB:=kg HB hb;(try clear hb hk bp);obtain⟨cY,cZ,cw⟩:=kL al.out;(first|subst cw|(injection cw with aX bH aY;have bI:=aX.symm;have bJ:=aY.symm;clear aX bH aY;subst bI;subst bJ));refine hK.out _ _ ⟨jS ac 0,jS ac 1,jS ae 0,jS ae 1⟩ (fun hHeld=>?_);clear hK K;refine kK 17 ?_;refine lv 8 22 511 (fun K hK=>?_);refine qL Try.func99 (uk.calls (kz (ku al.out).2.2) ((ku al.out).2.1) cP.out) ?_;intro dN hb;replace ah:=kH ah hb;replace aj:=kH aj hb;replace al:=kH al hb;replace ac:=jU ac hb;replace ae:=jU ae hb;replace HB:=kg HB hb;(try clear hb);refine hK.out _ _ ⟨jS ac 0,jS ac 1,jS ae 0,jS ae 1⟩ (fun hHeld=>?_);clear hK K;refine kK 22 ?_;refine jR 9 23 1023 ?_;refine mq (mF HT_.out (kU)) ?_;try go_wp2
     go_roundg k1
     case measure=>have:=a7.out;omega
     case rel=>exact⟨(am),(wrap64 (ab+1)),(kD),H',⟨by have:=a7.out;omega⟩,⟨by(with_reducible repeat(first|apply kI|apply kJ|apply kv));exact kw ah.out (fun _ hk=>trivial)⟩,⟨jZ ac.out⟩,⟨jT HB.out⟩⟩
    skip
    obtain⟨ch,H⟩:=mW H;have cI:=dm ch;clear ch;obtain⟨cx,bq⟩:∃y_:List (S59),y_=(am++[(⟨(jQ aa ab).f0,(jQ aa ab).f1⟩:S59)]):=⟨_,rfl⟩;replace H:(nW.l0 k1 cx aa (aa.length:Int) (wrap64 (ab+1)) ai aa)=some r:=l5 bq H
    have cJ:=dm bq;clear bq;have H':=dm H;clear H;have a_:0<=(ab:Int):=jY;have ba:ab<(aa.length:Int):=jY;obtain⟨aA,b4,aQ,aR⟩:=mZ a6.out ab a_ ba;cases b4;replace aQ:=kr HB aQ;replace aR:=kr HB aR;replace a_:=eq_true a_;replace ba:=eq_true ba;try go_wp2_with (first|((with_reducible refine kE 5 rfl ?_);refine ll #[.int .i64 0,.int .i64 0] 59 ?_;intro af hg bP jV hb;replace ah:=dm (qb (xV (jX ah.out) af (Nat.le_of_eq hg.symm)) hb);have ae:=dm (jV);have cG:=dm (kC:w.heap.size<=af);have cH:=dm (kC:w.heap.size<=af);replace HB:=kg HB hb;have aw:=dm (CY:ap≠af);have aW:=dm (CK:af≠ap);replace ac:=jU ac hb;clear hb jV hg;have dB:=aW.out;have dC:=aw.out;have⟨dg,dh,di,dj⟩:=ko (w:=bP) ae))
    have n0:jP (Kd.R k59 59 ((bP.setCell ⟨af,0,none⟩ (.int .i64 ((jQ aa ab).f0))).setCell ⟨af,1,none⟩ (.int .i64 ((jQ aa ab).f1))) w.heap.size (fun k_=>k_≠af) u3 am):=⟨CX⟩;have n1:jP (((bP.setCell ⟨af,0,none⟩ (.int .i64 ((jQ aa ab).f0))).setCell ⟨af,1,none⟩ (.int .i64 ((jQ aa ab).f1))).heap[ap]? =some (.cells #[.int .i64 ai,.slice (some aA) aa.length au] 31 (0,0))):=⟨nZ⟩;have n2:jP (((bP.setCell ⟨af,0,none⟩ (.int .i64 ((jQ aa ab).f0))).setCell ⟨af,1,none⟩ (.int .i64 ((jQ aa ab).f1))).heap[af]? =some (.cells #[.int .i64 ((jQ aa ab).f0),.int .i64 ((jQ aa ab).f1)] 59 (0,0))):=⟨vY⟩;have n3:jP (Below w.heap.size w ((bP.setCell ⟨af,0,none⟩ (.int .i64 ((jQ aa ab).f0))).setCell ⟨af,1,none⟩ (.int .i64 ((jQ aa ab).f1)))):=⟨jT HB.out⟩;(try clear ah ac ae HB);generalize((bP.setCell ⟨af,0,none⟩ (.int .i64 ((jQ aa ab).f0))).setCell ⟨af,1,none⟩ (.int .i64 ((jQ aa ab).f1)))=du at n0 n1 n2 n3⊢;revert n0 n1 n2 n3;intro ah ac ae HB;replace ah:=dm (kv ah.out);replace ac:=dm (kP ac.out);replace ae:=dm (kP ae.out);replace HB:=dm (l6 HB.out);refine mO 10 (S:=fun w'=>w'.cell? ⟨ap,0,none⟩=some (.int .i64 ai)/\w'.cell? ⟨ap,1,none⟩=some (.slice (some aA) aa.length au)/\w'.cell? ⟨af,0,none⟩=some (.int .i64 ((jQ aa ab).f0))/\w'.cell? ⟨af,1,none⟩=some (.int .i64 ((jQ aa ab).f1))) [] ⟨jS ac 0,jS ac 1,jS ae 0,jS ae 1⟩ nW.xM nW.wW (fun hHeld HT_ HW_=>?_);generalize du.drew=dO at ah ac ae HB hHeld⊢;refine jR 4 18 16 ?_;refine jR 6 20 80 ?_;refine kF 0 14 81 ?_;refine kF 1 15 83 ?_;refine kF 5 19 115 ?_;refine kF 7 21 243 ?_;refine lv 2 16 247 (fun K hK=>?_);refine rP k59 _ 59 ?hg (N:=16) ?hd (xs:=([(⟨(jQ aa ab).f0,(jQ aa ab).f1⟩:S59)]:List (S59))) (inner:=[.int .i64 ((jQ aa ab).f0),.int .i64 ((jQ aa ab).f1)]) (ok:=fun _=>True) (okp:=fun _=>True) ?hr ?hp (fun _ hk=>hk) trivial (Below.refl _ _) (Nat.le_refl _) (by simp) ?_;(case hd=>rfl);(case hg=>rfl);(case hr=>first|(go_simp;done)|(go_simp;rfl));(case hp=>exact(kN.c2 (show Kd.M k59 _ _ _ (⟨(jQ aa ab).f0,(jQ aa ab).f1⟩:S59) [.int .i64 ((jQ aa ab).f0),.int .i64 ((jQ aa ab).f1)] from(pR _ _ _ (⟨(jQ aa ab).f0,(jQ aa ab).f1⟩:S59))) (kN.none _ _)));intro cT dP bA hb hg_ lD;clear hg_ lD;(first|rw[←bE.out]at bA|(simp only [Int.reduceToNat]at bA;rw[←bE.out]at bA));have aj:=dm (kR (xW (lI bA (kZ (jX ah.out))) (g:=af) (o:=.cells #[.int .i64 ((jQ aa ab).f0),.int .i64 ((jQ aa ab).f1)] 59 (0,0)) (jZ ae.out)) (kM (jT HB.out)));replace ah:=lV ah bA hb;replace ac:=jU ac hb;replace ae:=jU ae hb;replace HB:=kg HB hb;clear hb bA;obtain⟨b5,b6,cy⟩:=kL aj.out;(first|subst cy|(injection cy with aX bH aY;have bI:=aX.symm;have bJ:=aY.symm;clear aX bH aY;subst bI;subst bJ));refine hK.out _ _ ⟨jS ac 0,jS ac 1,jS ae 0,jS ae 1⟩ (fun hHeld=>?_);clear hK K;refine kK 16 ?_;refine lv 3 17 255 (fun K hK=>?_);refine mi Try.func66 (oz.calls (kz (kW a6.out HB.out)) bD.out (kz (ku aj.out).2.2) ((ku aj.out).2.1) A9.out) ?_;rintro e dQ ⟨cX,rfl,bp,hb⟩;refine⟨_,rfl,?_⟩;have al:=dm (kR (xW (lI (lI bp (kZ (jX ah.out))) (kZ (jX aj.out))) (g:=af) (o:=.cells #[.int .i64 ((jQ aa ab).f0),.int .i64 ((jQ aa ab).f1)] 59 (0,0)) (jZ ae.out)) (kM (jT HB.out)));replace ah:=lV ah bp hb;replace aj:=lV aj bp hb;replace ac:=jU ac hb;replace ae:=jU ae hb;replace HB:=kg HB hb;(try clear hb hk bp);obtain⟨b7,b8,cz⟩:=kL al.out;(first|subst cz|(injection cz with aX bH aY;have bI:=aX.symm;have bJ:=aY.symm;clear aX bH aY;subst bI;subst bJ));refine hK.out _ _ ⟨jS ac 0,jS ac 1,jS ae 0,jS ae 1⟩ (fun hHeld=>?_);clear hK K;refine kK 17 ?_;refine lv 8 22 511 (fun K hK=>?_);refine qL Try.func99 (uk.calls (kz (ku al.out).2.2) ((ku al.out).2.1) cP.out) ?_;intro dv hb;replace ah:=kH ah hb;replace aj:=kH aj hb;replace al:=kH al hb;replace ac:=jU ac hb;replace ae:=jU ae hb;replace HB:=kg HB hb;(try clear hb);refine hK.out _ _ ⟨jS ac 0,jS ac 1,jS ae 0,jS ae 1⟩ (fun hHeld=>?_);clear hK K;refine kK 22 ?_;refine jR 9 23 1023 ?_;refine mq (mF HT_.out (kU)) ?_;have⟨dk,dl,dn,dq⟩:=ko (w:=dv) ae;try go_wp2_with (first|((with_reducible refine oO (b:=.append) (xs:= #[.tmp 24,.tmp 26]) rfl ?_);at_builtin;refine pM k59 (w0:=w) w.heap.size rfl (.tmp 24) (.tmp 26) 29 59 (.agg #[(.int .i64 0),(.int .i64 0)]) 16 rfl Try.underlying29 qM rfl (by decide) (by omega) u3 am (⟨(jQ aa ab).f0,(jQ aa ab).f1⟩:S59) [.int .i64 ((jQ aa ab).f0),.int .i64 ((jQ aa ab).f1)] (fun k_=>some k_≠(.slice b5 a8.length b6:Value).ownBlock/\some k_≠(.slice b7 aT.length b8:Value).ownBlock/\k_≠af) (fun _=>False) rfl rfl ?aP (fun _ hk=>hk.elim) ?aF ?aO ?aB ?aS ?aL ?_;(case aP=>exact pR _ _ _ (⟨(jQ aa ab).f0,(jQ aa ab).f1⟩:S59));(case aB=>exact(jT HB.out));(case aF=>exact(fun k_ hk=>⟨Kd.fresh' (kZ (jX aj.out)) k_ hk,Kd.fresh' (kZ (jX al.out)) k_ hk,vz (g:=af) (o:=.cells #[.int .i64 ((jQ aa ab).f0),.int .i64 ((jQ aa ab).f1)] 59 (0,0)) (jZ ae.out) k_ hk⟩));(case aO=>exact(by(with_reducible repeat(first|apply kI|apply kJ|apply kv));exact kw ah.out (fun _ hk=>⟨hk.1.2,⟨hk.2,hk.1.1⟩⟩)));(case aS=>exact(kM (jT HB.out)));(case aL=>have:=cI.out;omega);intro dJ dR ho hb hg hat;rw[←cJ.out]at ho;have n0:=lZ ac hg (lU ah.out ac.out (by decide));have n1:=lZ ae hg (uY ah.out (fun _ hk=>hk.1.1));have n2:=dm (oL (ok:=(fun k_=>some k_≠(.slice b7 aT.length b8:Value).ownBlock/\k_≠af)) (by(with_reducible repeat(first|apply kI|apply kJ|apply kv));exact kw aj.out (fun _ hk=>⟨⟨hk.2,hk.1.2⟩,hk.1.1.2⟩)) hg hat);have n3:=dm (oL (ok:=(fun k_=>some k_≠(.slice b5 a8.length b6:Value).ownBlock/\k_≠af)) (by(with_reducible repeat(first|apply kI|apply kJ|apply kv));exact kw al.out (fun _ hk=>⟨⟨hk.1.2,hk.2⟩,hk.1.1.2⟩)) hg hat);have n4:=dm (hb);have n5:=dm (ho);clear ac ae aj al HB ah;revert n0 n1 n2 n3 n4 n5;intro ac ae aj al HB cL;clear ho hb hg hat))
    go_roundg k1
    case measure=>have:=a7.out;omega
    case rel=>exact⟨(cx),(wrap64 (ab+1)),(kD),H',⟨by have:=a7.out;omega⟩,⟨by(with_reducible repeat(first|apply kI|apply kJ|apply kv));exact kw cL.out (fun _ hk=>trivial)⟩,⟨jZ ac.out⟩,⟨jT HB.out⟩⟩
   obtain rfl:=Option.some.inj H
   go_wp2
   go_ret
   exact⟨_,mV,jX ah.out,jT HB.out⟩
def rE.f (k:Nat) (ai:Int) (aa:List (S59)) (a1:Int) (a2:Int):Option (Bool):=(rR.f a1 a2).bind fun br=>((tQ.f k aa br.1 br.2).bind fun aZ=>(some aZ))
theorem rE.calls {k:Nat}{ai:Int}{aN:Option Addr}{au:Nat}{aa:List (S59)}{a1:Int}{a2:Int}{r:Bool}{w:World}(bl:Kd.C k59 w aN aa.length aa)(bm:aa.length<=au)(h:rE.f k ai aa a1 a2=some r):
  Calls Try.prog 65 #[.agg #[.int .i64 ai,.slice aN aa.length au],.int .i64 a1,.int .i64 a2] w fun e w'=>e=.returned (.bool r)/\Below w.heap.size w w':=by
 have cQ:=Try.underlying31;have a6:=dm bl;have bD:=dm bm;clear bl bm;have HB:=dm (Below.refl w.heap.size w);unfold rE.f at h;have H:=h;clear h;obtain⟨⟨bV,bW⟩,A4,H⟩:=kS H;(try dsimp only at H);obtain⟨aZ,A5,H⟩:=kS H;(try dsimp only at H);obtain rfl:=Option.some.inj H
 go_enter Try.func65,Try.ntmps65;try go_wp2_with (first|((with_reducible refine kE 3 rfl ?_);refine ll #[.int .i64 ai,.slice aN aa.length au] 31 ?_;intro bF hg w6 jV hb;have ao:=dm (jV);have dD:=dm (kC:w.heap.size<=bF);have dE:=dm (kC:w.heap.size<=bF);replace HB:=kg HB hb;clear hb jV hg))
 replace ao:=dm (kP ao.out);replace HB:=dm (l6 HB.out);refine wO (n:=7) (S:=fun w'=>w'.cell? ⟨bF,0,none⟩=some (.int .i64 ai)/\w'.cell? ⟨bF,1,none⟩=some (.slice aN aa.length au)) (ds:=[]) (lu 7 0) (kU) rfl (kU) ⟨jS ao 0,jS ao 1⟩ (fun hHeld=>?_);generalize w6.drew=w7 at ao HB hHeld⊢;refine jR 0 7 1 ?_;refine jR 2 9 5 ?_;refine jR 3 10 13 ?_;refine kF 1 8 15 ?_;refine rH (i:=4) (N:=some 11) (lu 7 31) rfl rfl (kU) (by decide) (fun K hK=>?_);refine qL Try.func53 (rR.calls A4.out) ?_;intro w8 hb;replace ao:=jU ao hb;replace HB:=kg HB hb;(try clear hb);refine hK.out _ _ ⟨jS ao 0,jS ao 1⟩ (fun hHeld=>?_);clear hK K;refine kK 11 ?_;refine rH (i:=5) (N:=some 12) (lu 7 63) rfl rfl (kU) (by decide) (fun K hK=>?_);refine qL Try.func81 (tQ.calls (kz (kW a6.out HB.out)) bD.out A5.out) ?_;intro w9 hb;replace ao:=jU ao hb;replace HB:=kg HB hb;(try clear hb);refine hK.out _ _ ⟨jS ao 0,jS ao 1⟩ (fun hHeld=>?_);clear hK K;refine kK 12 ?_;refine jR 6 6 127 ?_;refine mq (kU) ?_;try go_wp2
 go_ret
 exact⟨mV,jT HB.out⟩
def rA.l0:Nat->List Int->Int->Int->Int->Option (Int)
 |0,_,_,_,_=>none
 |k+1,x0,x1,x7,x8=>if x8<x7 then(if 0<=x8 then(if x8<(x0.length:Int) then(if x1=(rd x0 x8) then(some x8) else(rA.l0 k x0 x1 x7 (wrap64 (x8+1)))) else(none)) else(none)) else(some (-1))
def rA.f (k:Nat) (l0:List Int) (a1:Int):Option (Int):=rA.l0 k l0 a1 (l0.length:Int) 0
theorem rA.calls {k:Nat}{A0:Option Addr}{c0:Nat}{l0:List Int}{a1:Int}{r:Int}{w:World}(a4:Kd.C (Kd.int .i64) w A0 l0.length l0)(a5:l0.length<=c0)(h:rA.f k l0 a1=some r):
  Calls Try.prog 114 #[.slice A0 l0.length c0,.int .i64 a1] w fun e w'=>e=.returned (.int .i64 r)/\kY w w':=by
 have aC:=dm a4;have bK:=dm a5;clear a4 a5;unfold rA.f at h;have H:=h;clear h;have H':=dm H;clear H
 go_enter Try.func114,Try.ntmps114
 go_wp2
 go_loopg [8] k (fun kq v8 w'=>∃ (ak:Int),v8=.int .i64 ak/\jP (rA.l0 kq l0 a1 (l0.length:Int) ak=some r)/\jP (kq<=k)/\kY w w')
 case atStart=>exact⟨(0),(kD),H',⟨Nat.le_refl _⟩,by repeat(first|exact kY.refl _|apply kY.step)⟩
 case round=>
  clear H';obtain⟨ak,rfl,HA,a7,⟨m1,rfl⟩⟩:=hrel;cases gk with
  |zero=>exact absurd HA.out (by simp[rA.l0])
  |succ k1=>
   have H:=HA.out;clear HA;simp only [rA.l0]at H
   replace H:=mo H;rcases H with⟨b9,H⟩|⟨b9,H⟩
   ·skip
    obtain⟨cA,H⟩:=lC H
    obtain⟨cD,H⟩:=lC H
    by_cases c6:a1=(rd l0 ak)
    ·rw[if_pos c6]at H;have bG:=beq_iff_eq.mpr c6;have c_:=bne_eq_false_iff_eq.mpr c6;clear c6;obtain rfl:=Option.some.inj H;have bd:0<=(ak:Int):=jY;have bf:ak<(l0.length:Int):=jY;obtain⟨cM,b_,cm⟩:=lq aC.out ak bd bf;cases b_;replace bd:=eq_true bd;replace bf:=eq_true bf
     go_wp2
     go_ret
     exact⟨kD,by repeat(first|exact kY.refl _|apply kY.step)⟩
    rw[if_neg c6]at H;have bG:=beq_eq_false_iff_ne.mpr c6;have c_:=bne_iff_ne.mpr c6;have H':=dm H;clear H;have bd:0<=(ak:Int):=jY;have bf:ak<(l0.length:Int):=jY;obtain⟨cM,b_,cm⟩:=lq aC.out ak bd bf;cases b_;replace bd:=eq_true bd;replace bf:=eq_true bf
    go_wp2
    go_roundg k1
    case measure=>have:=a7.out;omega
    case rel=>exact⟨(wrap64 (ak+1)),(kD),H',⟨by have:=a7.out;omega⟩,by repeat(first|exact kY.refl _|apply kY.step)⟩
   obtain rfl:=Option.some.inj H
   go_wp2
   go_ret
   exact⟨kD,by repeat(first|exact kY.refl _|apply kY.step)⟩
def sN.f (k:Nat) (l0:List Int) (a1:Int):Option (Bool):=(rA.f k l0 a1).bind fun bB=>(some (decide (bB>=0)))
theorem sN.calls {k:Nat}{A0:Option Addr}{c0:Nat}{l0:List Int}{a1:Int}{r:Bool}{w:World}(a4:Kd.C (Kd.int .i64) w A0 l0.length l0)(a5:l0.length<=c0)(h:sN.f k l0 a1=some r):
  Calls Try.prog 89 #[.slice A0 l0.length c0,.int .i64 a1] w fun e w'=>e=.returned (.bool r)/\kY w w':=by
 have aC:=dm a4;have bK:=dm a5;clear a4 a5;unfold sN.f at h;have H:=h;clear h;obtain⟨bB,A3,H⟩:=kS H;(try dsimp only at H);obtain rfl:=Option.some.inj H
 go_enter Try.func89,Try.ntmps89
 go_wp2_with (first|((with_reducible refine kV 114 rfl ?_);refine lN 7 rfl Try.func114 (rA.calls (kz aC.out) bK.out A3.out) ?_;rintro e w' ⟨rfl,⟨nd,rfl⟩⟩;refine⟨_,rfl,?_⟩))
 go_ret
 exact⟨kD,by repeat(first|exact kY.refl _|apply kY.step)⟩
def p8.l0:Nat->List Int->List Int->List Int->Int->Int->Option (Int)
 |0,_,_,_,_,_=>none
 |k+1,x0,x1,x9,aM,bC=>if bC<aM then(if 0<=bC then(if bC<(x9.length:Int) then(if bC>=(x1.length:Int) then(some 1) else(if bC<(x1.length:Int) then((cmp_Compare_int.f (rd x9 bC) (rd x1 bC)).bind fun ay=>(if ay=0 then(p8.l0 k x0 x1 x9 aM (wrap64 (bC+1))) else(some ay))) else(none))) else(none)) else(none)) else(if(x0.length:Int)<(x1.length:Int) then(some (-1)) else(some 0))
def p8.f (k:Nat) (l0:List Int) (l1:List Int):Option (Int):=p8.l0 k l0 l1 l0 (l0.length:Int) 0
theorem p8.calls {k:Nat}{A0:Option Addr}{c0:Nat}{l0:List Int}{A1:Option Addr}{c1:Nat}{l1:List Int}{r:Int}{w:World}(a4:Kd.C (Kd.int .i64) w A0 l0.length l0)(a5:l0.length<=c0)(hr1:Kd.C (Kd.int .i64) w A1 l1.length l1)(b3:l1.length<=c1)(h:p8.f k l0 l1=some r):
  Calls Try.prog 101 #[.slice A0 l0.length c0,.slice A1 l1.length c1] w fun e w'=>e=.returned (.int .i64 r)/\kY w w':=by
 have aC:=dm a4;have bK:=dm a5;clear a4 a5;have bu:=dm hr1;have ci:=dm b3;clear hr1 b3;unfold p8.f at h;have H:=h;clear h;have H':=dm H;clear H
 go_enter Try.func101,Try.ntmps101
 go_wp2
 go_loopg [11] k (fun kq dw w'=>∃ (ag:Int),dw=.int .i64 ag/\jP (p8.l0 kq l0 l1 l0 (l0.length:Int) ag=some r)/\jP (kq<=k)/\kY w w')
 case atStart=>exact⟨(0),(kD),H',⟨Nat.le_refl _⟩,by repeat(first|exact kY.refl _|apply kY.step)⟩
 case round=>
  clear H';obtain⟨ag,rfl,HA,a7,⟨m1,rfl⟩⟩:=hrel;cases gk with
  |zero=>exact absurd HA.out (by simp[p8.l0])
  |succ k1=>
   have H:=HA.out;clear HA;simp only [p8.l0]at H
   replace H:=mo H;rcases H with⟨b9,H⟩|⟨b9,H⟩
   ·skip
    obtain⟨cA,H⟩:=lC H
    obtain⟨cD,H⟩:=lC H
    replace H:=mo H;rcases H with⟨bG,H⟩|⟨bG,H⟩
    ·obtain rfl:=Option.some.inj H;have aD:0<=(ag:Int):=jY;have aE:ag<(l0.length:Int):=jY;obtain⟨cj,bL,bQ⟩:=lq aC.out ag aD aE;cases bL;replace aD:=eq_true aD;replace aE:=eq_true aE
     go_wp2
     go_ret
     exact⟨kD,by repeat(first|exact kY.refl _|apply kY.step)⟩
    skip
    obtain⟨cu,H⟩:=lC H;obtain⟨ay,A8,H⟩:=kS H;(try dsimp only at H)
    by_cases c9:ay=0
    ·rw[if_pos c9]at H;have ca:=beq_iff_eq.mpr c9;have cd:=bne_eq_false_iff_eq.mpr c9;clear c9;have H':=dm H;clear H;have aD:0<=(ag:Int):=jY;have aE:ag<(l0.length:Int):=jY;obtain⟨cj,bL,bQ⟩:=lq aC.out ag aD aE;cases bL;replace aD:=eq_true aD;replace aE:=eq_true aE;have bh:0<=(ag:Int):=jY;have bj:ag<(l1.length:Int):=jY;obtain⟨cN,ce,cn⟩:=lq bu.out ag bh bj;cases ce;replace bh:=eq_true bh;replace bj:=eq_true bj
     go_wp2_with (first|((with_reducible refine kV 110 rfl ?_);refine lN 26 rfl Try.func110 (cmp_Compare_int.calls A8.out) ?_;rintro e w' ⟨rfl,⟨nd,rfl⟩⟩;refine⟨_,rfl,?_⟩))
     go_roundg k1
     case measure=>have:=a7.out;omega
     case rel=>exact⟨(wrap64 (ag+1)),(kD),H',⟨by have:=a7.out;omega⟩,by repeat(first|exact kY.refl _|apply kY.step)⟩
    rw[if_neg c9]at H;have ca:=beq_eq_false_iff_ne.mpr c9;have cd:=bne_iff_ne.mpr c9;obtain rfl:=Option.some.inj H;have aD:0<=(ag:Int):=jY;have aE:ag<(l0.length:Int):=jY;obtain⟨cj,bL,bQ⟩:=lq aC.out ag aD aE;cases bL;replace aD:=eq_true aD;replace aE:=eq_true aE;have bh:0<=(ag:Int):=jY;have bj:ag<(l1.length:Int):=jY;obtain⟨cN,ce,cn⟩:=lq bu.out ag bh bj;cases ce;replace bh:=eq_true bh;replace bj:=eq_true bj
    go_wp2_with (first|((with_reducible refine kV 110 rfl ?_);refine lN 26 rfl Try.func110 (cmp_Compare_int.calls A8.out) ?_;rintro e w' ⟨rfl,⟨nd,rfl⟩⟩;refine⟨_,rfl,?_⟩))
    go_ret
    exact⟨kD,by repeat(first|exact kY.refl _|apply kY.step)⟩
   skip
   by_cases c10:(l0.length:Int)<(l1.length:Int)
   ·rw[if_pos c10]at H;have bX:=decide_eq_true c10;have bY:=decide_eq_true (Int.ofNat_lt.mp c10);clear c10;obtain rfl:=Option.some.inj H
    go_wp2
    go_ret
    exact⟨kD,by repeat(first|exact kY.refl _|apply kY.step)⟩
   rw[if_neg c10]at H;have bX:=decide_eq_false c10;have bY:decide (l0.length<l1.length)=false:=decide_eq_false (fun h=>c10 (Int.ofNat_lt.mpr h));clear c10;obtain rfl:=Option.some.inj H
   go_wp2
   go_ret
   exact⟨kD,by repeat(first|exact kY.refl _|apply kY.step)⟩
def tF.f (k:Nat) (l0:List Int) (l1:List Int):Option (Bool):=if 0<=(wrap64 ((l0.length:Int) - 1)) then(if(wrap64 ((l0.length:Int) - 1))<(l0.length:Int) then(if 0<=(wrap64 ((l1.length:Int) - 1)) then(if(wrap64 ((l1.length:Int) - 1))<(l1.length:Int) then(if(l0.length:Int)=(l1.length:Int) then(if(rd l0 (wrap64 ((l0.length:Int) - 1)))=(rd l1 (wrap64 ((l1.length:Int) - 1))) then((p8.f k l0 l1).bind fun az=>(some (decide (az<0)))) else(some (decide ((rd l0 (wrap64 ((l0.length:Int) - 1)))<(rd l1 (wrap64 ((l1.length:Int) - 1))))))) else(some (decide ((l0.length:Int)<(l1.length:Int))))) else(none)) else(none)) else(none)) else(none)
theorem tF.calls {k:Nat}{A0:Option Addr}{c0:Nat}{l0:List Int}{A1:Option Addr}{c1:Nat}{l1:List Int}{r:Bool}{w:World}(a4:Kd.C (Kd.int .i64) w A0 l0.length l0)(a5:l0.length<=c0)(hr1:Kd.C (Kd.int .i64) w A1 l1.length l1)(b3:l1.length<=c1)(h:tF.f k l0 l1=some r):
  Calls Try.prog 100 #[.slice A0 l0.length c0,.slice A1 l1.length c1] w fun e w'=>e=.returned (.bool r)/\kY w w':=by
 have aC:=dm a4;have bK:=dm a5;clear a4 a5;have bu:=dm hr1;have ci:=dm b3;clear hr1 b3;unfold tF.f at h;have H:=h;clear h;obtain⟨aq,bT⟩:∃j_:Int,(wrap64 ((l0.length:Int) - 1))=j_:=⟨_,rfl⟩;replace H:(if 0<=(aq) then(if(aq)<(l0.length:Int) then(if 0<=(wrap64 ((l1.length:Int) - 1)) then(if(wrap64 ((l1.length:Int) - 1))<(l1.length:Int) then(if(l0.length:Int)=(l1.length:Int) then(if(rd l0 (aq))=(rd l1 (wrap64 ((l1.length:Int) - 1))) then((p8.f k l0 l1).bind fun az=>(some (decide (az<0)))) else(some (decide ((rd l0 (aq))<(rd l1 (wrap64 ((l1.length:Int) - 1))))))) else(some (decide ((l0.length:Int)<(l1.length:Int))))) else(none)) else(none)) else(none)) else(none))=some r:=by first|(rw[bT]at H;exact H)|(simp only [bT]at H⊢;exact H)
 have dF:(IntKind.i64.wrap ((l0.length:Int) - 1))=aq:=(mP _).trans bT
 obtain⟨cA,H⟩:=lC H
 obtain⟨cD,H⟩:=lC H;obtain⟨av,bU⟩:∃j_:Int,(wrap64 ((l1.length:Int) - 1))=j_:=⟨_,rfl⟩;replace H:(if 0<=(av) then(if(av)<(l1.length:Int) then(if(l0.length:Int)=(l1.length:Int) then(if(rd l0 (aq))=(rd l1 (av)) then((p8.f k l0 l1).bind fun az=>(some (decide (az<0)))) else(some (decide ((rd l0 (aq))<(rd l1 (av)))))) else(some (decide ((l0.length:Int)<(l1.length:Int))))) else(none)) else(none))=some r:=by first|(rw[bU]at H;exact H)|(simp only [bU]at H⊢;exact H)
 have dG:(IntKind.i64.wrap ((l1.length:Int) - 1))=av:=(mP _).trans bU
 obtain⟨cu,H⟩:=lC H
 obtain⟨cS,H⟩:=lC H
 by_cases c9:(l0.length:Int)=(l1.length:Int)
 ·rw[if_pos c9]at H;have ca:=beq_iff_eq.mpr c9;have cd:=bne_eq_false_iff_eq.mpr c9;have db:(l0.length==l1.length)=true:=by first|simpa using c9|(simp at c9⊢;omega)
  clear c9
  by_cases c10:(rd l0 (aq))=(rd l1 (av))
  ·rw[if_pos c10]at H;have bX:=beq_iff_eq.mpr c10;have bY:=bne_eq_false_iff_eq.mpr c10;clear c10;obtain⟨az,cE,H⟩:=kS H;(try dsimp only at H);obtain rfl:=Option.some.inj H;have aG:0<=((aq):Int):=jY;have aH:(aq)<(l0.length:Int):=jY;obtain⟨ck,bM,bR⟩:=lq aC.out (aq) aG aH;cases bM;replace aG:=eq_true aG;replace aH:=eq_true aH;have aI:0<=((av):Int):=jY;have aK:(av)<(l1.length:Int):=jY;obtain⟨cl,bN,bS⟩:=lq bu.out (av) aI aK;cases bN;replace aI:=eq_true aI;replace aK:=eq_true aK
   go_enter Try.func100,Try.ntmps100
   go_wp2_with (first|(go_at_call 101;refine(p8.calls (kz aC.out) bK.out (kz bu.out) ci.out cE.out).mono ?_;rintro e w' ⟨rfl,⟨nd,rfl⟩⟩;(try first|exact⟨rfl,_,World.drewN_drewN _ _ _⟩|exact⟨rfl,_,Eq.trans (World.drewN_drewN _ _ _) (congrArg (World.drewN _) (Nat.add_assoc _ _ _))⟩)))
   repeat(go_quiet (first|(go_at_call 101;(with_reducible refine(p8.calls ?mI ?mQ ?qj ?qm cE.out).mono ?_);(case mI=>exact kz aC.out);(case mQ=>exact bK.out);(case qj=>exact kz bu.out);(case qm=>exact ci.out);rintro e w' ⟨rfl,⟨nd,rfl⟩⟩;(try first|exact⟨rfl,_,World.drewN_drewN _ _ _⟩|exact⟨rfl,_,Eq.trans (World.drewN_drewN _ _ _) (congrArg (World.drewN _) (Nat.add_assoc _ _ _))⟩)));try go_wp2_with (first|(go_at_call 101;(with_reducible refine(p8.calls ?mI ?mQ ?qj ?qm cE.out).mono ?_);(case mI=>exact kz aC.out);(case mQ=>exact bK.out);(case qj=>exact kz bu.out);(case qm=>exact ci.out);rintro e w' ⟨rfl,⟨nd,rfl⟩⟩;(try first|exact⟨rfl,_,World.drewN_drewN _ _ _⟩|exact⟨rfl,_,Eq.trans (World.drewN_drewN _ _ _) (congrArg (World.drewN _) (Nat.add_assoc _ _ _))⟩))))
   go_ret
   exact⟨Af,by repeat(first|exact kY.refl _|apply kY.step)⟩
  rw[if_neg c10]at H;have bX:=beq_eq_false_iff_ne.mpr c10;have bY:=bne_iff_ne.mpr c10;obtain rfl:=Option.some.inj H;have aG:0<=((aq):Int):=jY;have aH:(aq)<(l0.length:Int):=jY;obtain⟨ck,bM,bR⟩:=lq aC.out (aq) aG aH;cases bM;replace aG:=eq_true aG;replace aH:=eq_true aH;have aI:0<=((av):Int):=jY;have aK:(av)<(l1.length:Int):=jY;obtain⟨cl,bN,bS⟩:=lq bu.out (av) aI aK;cases bN;replace aI:=eq_true aI;replace aK:=eq_true aK
  go_enter Try.func100,Try.ntmps100
  go_wp2
  repeat(go_quiet (fail);try go_wp2)
  go_ret
  exact⟨Af,by repeat(first|exact kY.refl _|apply kY.step)⟩
 rw[if_neg c9]at H;have ca:=beq_eq_false_iff_ne.mpr c9;have cd:=bne_iff_ne.mpr c9;have db:(l0.length==l1.length)=false:=by first|simpa using c9|(simp at c9⊢;omega)
 obtain rfl:=Option.some.inj H;have aG:0<=((aq):Int):=jY;have aH:(aq)<(l0.length:Int):=jY;obtain⟨ck,bM,bR⟩:=lq aC.out (aq) aG aH;cases bM;replace aG:=eq_true aG;replace aH:=eq_true aH;have aI:0<=((av):Int):=jY;have aK:(av)<(l1.length:Int):=jY;obtain⟨cl,bN,bS⟩:=lq bu.out (av) aI aK;cases bN;replace aI:=eq_true aI;replace aK:=eq_true aK
 go_enter Try.func100,Try.ntmps100
 go_wp2
 repeat(go_quiet (fail);try go_wp2)
 go_ret
 exact⟨Af,by repeat(first|exact kY.refl _|apply kY.step)⟩
def qH.f (l0:List Int):Option (List Int):=(some (([]:List Int):List Int)).bind fun aa=>(if aa.length+l0.length<17592186044416 then(some (aa++l0)) else(none))
theorem qH.calls {A0:Option Addr}{c0:Nat}{l0:List Int}{r:List Int}{w:World}(al:Kd.C (Kd.int .i64) w A0 l0.length l0)(am:l0.length<=c0)(h:qH.f l0=some r):
  Calls Try.prog 103 #[.slice A0 l0.length c0] w fun e w'=>∃ao:Value,e=.returned (ao)/\Kd.R (Kd.int .i64) 3 w' w.heap.size (fun _=>True) ao r/\Below w.heap.size w w':=by
 have ap:=dm al;have aw:=dm am;clear al am;have HB:=dm (Below.refl w.heap.size w);unfold qH.f at h;have H:=h;clear h;obtain⟨aa,ab⟩:∃y_:List Int,y_=(([]:List Int)):=⟨_,rfl⟩;replace H:(if aa.length+l0.length<17592186044416 then(some (aa++l0)) else(none))=some r:=l5 ab H
 have af:=dm ab;clear ab
 obtain⟨c2,H⟩:=mW H;have aq:=dm c2;clear c2;obtain⟨aj,ac⟩:∃y_:List Int,y_=(aa++l0):=⟨_,rfl⟩;replace H:(some aj)=some r:=l5 ac H
 have ah:=dm ac;clear ac;obtain rfl:=Option.some.inj H;have ax:∀ (w:World) (a:Option Addr) (n c n' c':Nat),(binOp .eql 45 (.slice a n c) (.slice none n' c')).run Try.prog w=.ok (.bool a.isNone) w:=fun w a n c n' c'=>Go.Lib.run_eql_slice_nil w _ _ a n c n' c' Try.underlying45
 rcases A0 with _|ay
 ·have e0:l0=[]:=by
   have h_:=ap.out
   rcases l0 with _|⟨q,r⟩
   ·rfl
   obtain⟨ad,h,_⟩:=h_.2.2 (by simp);exact absurd h (by simp)
  subst e0;have ey:aj=[]:=by rw[ah.out,af.out];rfl
  subst ey
  go_enter Try.func103,Try.ntmps103
  go_wp2
  go_ret
  exact⟨_,rfl,r9 _ _ _ _ _,jT HB.out⟩
 go_enter Try.func103,Try.ntmps103
 go_wp2_with (first|((with_reducible refine kE 5 rfl ?_);refine oW (Kd.int .i64) rfl 3 ([]:List Int) [] (kN.none _ _) ?_;intro au w3 ag hb hg_ lD;clear hg_ lD;(first|rw[←af.out]at ag|(simp only [Int.reduceToNat]at ag;rw[←af.out]at ag));have ai:=dm (kR ag (kM (jT HB.out)));replace HB:=kg HB hb;clear hb ag)|((with_reducible refine oO (b:=.append) (xs:= #[.tmp 5,.tmp 6]) rfl ?_);at_builtin;refine zA (Kd.int .i64) (w0:=w) w.heap.size rfl (.tmp 5) (.tmp 6) 45 3 (.int .i64 0) 8 rfl Try.underlying45 info3 rfl (by decide) (by omega) au aa l0 _ _ _ (fun _=>True) (fun _=>False) rfl rfl ?aO ?aR (fun _ _ h=>h) (fun _ h=>h.elim) ?aF ?aB ?aS ?aL ?_;(case aR=>exact kz (kW ap.out HB.out));(case aB=>exact(jT HB.out));(case aF=>exact(fun _ _=>trivial));(case aO=>exact(jX ai.out));(case aS=>exact(kM (jT HB.out)));(case aL=>have:=aq.out;omega);intro av w5 ho hb hg hat;rw[←ah.out]at ho;have n0:=dm (hb);have n1:=dm (ho);clear HB ai;revert n0 n1;intro HB ak;clear ho hb hg hat))
 go_ret
 exact⟨_,mV,jX ak.out,jT HB.out⟩
end Go.Proofs.Ytgeonpciodepgaa.P
section
namespace Go.Proofs.Ytgeonpciodepgaa.P
set_option maxHeartbeats 8000000
set_option maxRecDepth 100000
open Go.RowKit Go.Proofs.YtgeonpciodepgaaW.PrintWords Go.Proofs.YtgeonpciodepgaaW.PrintLast Go.Proofs.YtgeonpciodepgaaW.PrintMore Go.Proofs.YtgeonpciodepgaaW.PrintWords.Kd Go.Proofs.YtgeonpciodepgaaW.PrintMore.Kd
attribute [local go_sem] wu wB wz wE wy wD ww wC
section
variable {P:Program}{ops:Array Oper}{Q:Exit->Act->World->Prop}
theorem IB {oi:Oper}{N:Option Tmp}{a:Act}{w:World}{K:Act->World->Prop}{f:FuncId}{fn:Func}{x:Operand}{as_:Array Operand}{ts:Array TypeId}{first cap:Array Value}(hf:P.funcs[f]? =some fn) (args:Array Value)
  (hx : a.eval x = .func (.func f) first cap) (hop : oi.op = .call { callee := .value x, args := as_, argTypes := ts }) (hargs : first ++ as_.map a.eval ++ cap = args) (hname : (fn.name == "runtime.NumGoroutine") = false) (hb : fn.body.isSome = true)
  (hw:Region.wanted oi (yielded ops a.tmps)=true) (hN:oi.dst=N)
  (h:Calls P f args w fun e w'=>∃v,e=.returned v/\K (a.put N v) w'):if Region.wanted oi (yielded ops a.tmps)=true then Oper.wp P oi a w K Q else K (a.put N undef) w:=by
 refine call_ f args hw hN ?_ h;have he:=yV hf hname hb args w;unfold execOp;simp[hop,resolve,Deferred.ofValue,invoke,hx,hargs,he]
theorem IA {rest:List Oper}{oi:Oper}{a:Act}{w:World}(N:Option Tmp) (hd:oi.dst=N) (hg:oi.guard=none) {f:FuncId}{fn:Func}{x:Operand}{as_:Array Operand}{ts:Array TypeId}{first cap:Array Value}(hf:P.funcs[f]? =some fn) (args:Array Value)
  (hx : a.eval x = .func (.func f) first cap) (hop : oi.op = .call { callee := .value x, args := as_, argTypes := ts }) (hargs : first ++ as_.map a.eval ++ cap = args) (hname : (fn.name == "runtime.NumGoroutine") = false) (hb : fn.body.isSome = true)
  (h:Calls P f args w fun e w'=>∃v,e=.returned v/\wpList P ops Q rest (a.put N v) w'):wpList P ops Q (oi::rest) a w:=by
 refine wpList_plain hg fun K hK=>?_;have he:=yV hf hname hb args w;have hrun:(execOp a.eval oi).run P w=.ok (.enter f args) w:=by
  unfold execOp;simp[hop,resolve,Deferred.ofValue,invoke,hx,hargs,he]
 unfold Oper.wp;rw[hrun,Oper.upon_enter];refine h.mono fun e w'' hh=>?_;obtain⟨v,rfl,hk⟩:=hh;subst hd;exact hK _ _ hk
end
structure oU (w0:World) (gR gB gF gN gW:Nat) (A1:Option Addr) (c1:Nat) (l1:List Bool) (n:Int) (A3:Option Addr) (c3:Nat) (l3:List (S59)) (best:List Int) (W:World):Prop where
 b:Below w0.heap.size w0 W
 g:w0.heap.size<=gB
 hR:W.heap[gR]? =some (.cells #[.slice A1 l1.length c1] 54 (0,0))
 hN:W.heap[gN]? =some (.cells #[.int .i64 n,.slice A3 l3.length c3] 31 (0,0))
 hF:W.heap[gF]? =some (.cells #[.func (.func 100) #[] #[]] 73 (0,0))
 hW:W.heap[gW]? =some (.cells #[.func (.func 102) #[] #[.pointer (some ⟨gR,0,none⟩),.pointer (some ⟨gB,0,none⟩),.pointer (some ⟨gF,0,none⟩),.pointer (some ⟨gN,0,none⟩),.pointer (some ⟨gW,0,none⟩)]] 108 (0,0))
 hB:∃A c,W.heap[gB]? =some (.cells #[.slice A best.length c] 45 (0,0))/\Kd.R (Kd.int .i64) 3 W w0.heap.size (fun _=>True) (.slice A best.length c) best
section
variable {w0 W W':World}{gR gB gF gN gW:Nat}{A1:Option Addr}{c1:Nat}{l1:List Bool}{n:Int}{A3:Option Addr}{c3:Nat}{l3:List (S59)}{best best':List Int}
theorem oU.below (h:oU w0 gR gB gF gN gW A1 c1 l1 n A3 c3 l3 best W) (hb:Below W.heap.size W W'):oU w0 gR gB gF gN gW A1 c1 l1 n A3 c3 l3 best W':=by
 obtain⟨A,c,h1,h2⟩:=h.hB;exact⟨lY h.b hb,h.g,nY h.hR hb,nY h.hN hb,nY h.hF hb,nY h.hW hb,A,c,nY h1 hb,qb h2 hb⟩
theorem oU.drewN (h:oU w0 gR gB gF gN gW A1 c1 l1 n A3 c3 l3 best W) (m:Nat):oU w0 gR gB gF gN gW A1 c1 l1 n A3 c3 l3 best (W.drewN m):=h.below (pK (Below.refl _ _) m)
theorem rV {W:World}{g g' t t':Nat}{cs cs':Array Value}(h:W.heap[g]? =some (.cells cs t (0,0))) (h':W.heap[g']? =some (.cells cs' t' (0,0))) (ht:t≠t'):g≠g':=by
 rintro rfl;rw[h]at h';injection h' with h';injection h' with _ h2;exact ht h2
theorem oU.put (h:oU w0 gR gB gF gN gW A1 c1 l1 n A3 c3 l3 best W) {A:Option Addr}{c:Nat}(hv:Kd.R (Kd.int .i64) 3 W w0.heap.size (fun _=>True) (.slice A best'.length c) best'):
  oU w0 gR gB gF gN gW A1 c1 l1 n A3 c3 l3 best' (W.setCell ⟨gB,0,none⟩ (.slice A best'.length c))/\W.grownBy (W.setCell ⟨gB,0,none⟩ (.slice A best'.length c)) (some gB):=by
 obtain⟨A0,c0,h1,h2⟩:=h.hB;have hg:W.grownBy (W.setCell ⟨gB,0,none⟩ (.slice A best'.length c)) (some gB):=⟨rfl,rfl,rfl,(by have:=(nQ (g:=gB) (j:=0) (v:=.slice A best'.length c) h.b h.g).size;first|exact Nat.le_of_eq (World.size_setCell ..).symm|simp),fun k hk hne=>Below.heap_setCell W ⟨gB,0,none⟩ _ k (fun e=>hne (congrArg some e))⟩;refine⟨⟨nQ h.b h.g,h.g,pO h.hR (rV h.hR h1 (by decide)) _,pO h.hN (rV h.hN h1 (by decide)) _,pO h.hF (rV h.hF h1 (by decide)) _,pO h.hW (rV h.hW h1 (by decide)) _,A,c,by simpa using yo h1 0 (.slice A best'.length c),?_⟩,hg⟩;exact xX hv h1 (by decide) 0 _
theorem oU.way (h:oU w0 gR gB gF gN gW A1 c1 l1 n A3 c3 l3 best W) {base:Nat}{v:Value}{xs:List Int}(hv:Kd.R (Kd.int .i64) 3 W base (fun _=>True) v xs) (hg:W.grownBy W' (some gB)):Kd.R (Kd.int .i64) 3 W' base (fun _=>True) v xs:=by
 obtain⟨A,c,h1,h2⟩:=h.hB;exact FP hv rfl hg (lU hv h1 (by decide))
end
mutual
def nk.l0:Nat->List Int->List Bool->List Int->Int->Int->Int->Int->List (S59)->Option (List Int)
 |0,_,_,_,_,_,_,_,_=>none
 |k+1,x0,x1,x2,x7,aK,aq,af,ag=>if aq<aK then((rE.f k af ag x7 aq).bind fun aZ=>(if aZ=true then((sN.f k x0 aq).bind fun az=>(nk.j1 k x0 x1 x2 x7 aq aK aq (!az) af ag)) else(nk.j1 k x0 x1 x2 x7 aq aK aq false af ag))) else(some x2)
def nk.j1:Nat->List Int->List Bool->List Int->Int->Int->Int->Int->Bool->Int->List (S59)->Option (List Int)
 |0,_,_,_,_,_,_,_,_,_,_=>none
 |k+1,x0,x1,x2,x7,x8,aK,aq,cm,af,ag=>if cm=true then((qH.f x0).bind fun ae=>((some (([x8]:List Int):List Int)).bind fun ah=>(if ae.length+ah.length<17592186044416 then((nk.f k (ae++ah) x1 x2 af ag).bind fun ao=>(nk.l0 k x0 x1 ao x7 aK (wrap64 (aq+1)) af ag)) else(none)))) else(nk.l0 k x0 x1 x2 x7 aK (wrap64 (aq+1)) af ag)
def nk.f:Nat->List Int->List Bool->List Int->Int->List (S59)->Option (List Int)
 |0,_,_,_,_,_=>none
 |k+1,l0,l1,a2,bj,b5=>if 0<=(wrap64 ((l0.length:Int) - 1)) then(if(wrap64 ((l0.length:Int) - 1))<(l0.length:Int) then(if 0<=(rd l0 (wrap64 ((l0.length:Int) - 1))) then(if(rd l0 (wrap64 ((l0.length:Int) - 1)))<(l1.length:Int) then(if mX false l1 (rd l0 (wrap64 ((l0.length:Int) - 1)))=true then(if(a2.length:Int)=0 then(qH.f l0) else((tF.f k l0 a2).bind fun au=>(if au=true then(qH.f l0) else(some a2)))) else(nk.l0 k l0 l1 a2 (rd l0 (wrap64 ((l0.length:Int) - 1))) bj 0 bj b5)) else(none)) else(none)) else(none)) else(none)
end
def nk.T8:Bool×List (List Nat×List Nat):=(true,[([],[]),([],[]),([1],[1]),([],[]),([3],[3]),([2,4,2],[2,4]),([0,5,5],[0,5])])
def nk.B8:List Nat:=[0,0,2,0,8,30,63]
theorem nk.xN:mK .any (opsOf Try.f102 8)=nk.T8:=by kernel_rfl
theorem nk.wX:nM nk.T8.2 nk.B8=true:=by kernel_rfl
theorem nk.calls {w0:World}{gR gB gF gN gW:Nat}{A1:Option Addr}{c1:Nat}{l1:List Bool}{n:Int}{A3:Option Addr}{c3:Nat}{l3:List (S59)}(hr1:Kd.C Kd.bool w0 A1 l1.length l1) (bH:l1.length<=c1) (bI:Kd.C k59 w0 A3 l3.length l3) (bJ:l3.length<=c3) (k:Nat):
  ∀ (A0:Option Addr) (c0:Nat) (l0 a2 r:List Int) (w:World) (hw:Kd.R (Kd.int .i64) 3 w 0 (fun _=>True) (.slice A0 l0.length c0) l0) (hX:oU w0 gR gB gF gN gW A1 c1 l1 n A3 c3 l3 a2 w) (h:nk.f k l0 l1 a2 n l3=some r),
  Calls Try.prog 102 #[.slice A0 l0.length c0,.pointer (some ⟨gR,0,none⟩),.pointer (some ⟨gB,0,none⟩),.pointer (some ⟨gF,0,none⟩),.pointer (some ⟨gN,0,none⟩),.pointer (some ⟨gW,0,none⟩)] w
   fun e w'=>e=.returned (.tuple #[])/\oU w0 gR gB gF gN gW A1 c1 l1 n A3 c3 l3 r w'/\w.grownBy w' (some gB):=by
 have cG:=dm bH;have bK:=dm bI;have bL:=dm bJ;have cn:=dm hr1;clear bH bI bJ hr1
 induction k using Nat.strongRecOn with
 |_ k ih=>
 intro A0 c0 l0 a2 r w hw hX h;cases k with
 |zero=>exact absurd h (by simp[nk.f])
 |succ k=>
 simp only [nk.f]at h;have cE:=Try.underlying31;have HQ:=dm hw;have HX:=dm hX;have am:=dm (ku hw).2.2;have aw:=dm (ku hw).2.1;clear hw hX;obtain⟨ab,bm⟩:∃j_:Int,(wrap64 ((l0.length:Int) - 1))=j_:=⟨_,rfl⟩;have H:(if 0<=(ab) then(if(ab)<(l0.length:Int) then(if 0<=(rd l0 (ab)) then(if(rd l0 (ab))<(l1.length:Int) then(if mX false l1 (rd l0 (ab))=true then(if(a2.length:Int)=0 then(qH.f l0) else((tF.f k l0 a2).bind fun au=>(if au=true then(qH.f l0) else(some a2)))) else(nk.l0 k l0 l1 a2 (rd l0 (ab)) n 0 n l3)) else(none)) else(none)) else(none)) else(none))=some r:=by rw[bm]at h;exact h
 clear h;have cD:(IntKind.i64.wrap ((l0.length:Int) - 1))=ab:=(mP _).trans bm
 obtain⟨c6,H⟩:=mW H;have b6:=decide_eq_true c6
 obtain⟨c7,H⟩:=mW H;have b7:=decide_eq_true c7
 obtain⟨c8,H⟩:=mW H;have b8:=decide_eq_true c8
 obtain⟨c9,H⟩:=mW H;have b9:=decide_eq_true c9;obtain⟨ca,aN⟩:∃b_:Bool,b_=(mX false l1 (rd l0 (ab))):=⟨_,rfl⟩;rw[←aN]at H;obtain⟨aX,e5,cq⟩:=lq am.out (ab) c6 c7;cases e5;obtain⟨bM,e6,bN⟩:=u_ (kW cn.out HX.out.b) (rd l0 (ab)) c8 c9;rw[←aN]at bN;cases e6;clear aN;replace c6:=eq_true c6;replace c7:=eq_true c7;replace c8:=eq_true c8;replace c9:=eq_true c9;have hzR:w.cell? ⟨gR,0,none⟩=some (.slice (some bM) l1.length c1):=(mr HX.out.hR 0).trans rfl;have hzF:w.cell? ⟨gF,0,none⟩=some (.func (.func 100) #[] #[]):=(mr HX.out.hF 0).trans rfl;have hfF:=l7 HX.out.hF 0;have hfR:=l7 HX.out.hR 0
 by_cases a7:ca=true
 ·subst a7;replace H:(if(a2.length:Int)=0 then(qH.f l0) else((tF.f k l0 a2).bind fun au=>(if au=true then(qH.f l0) else(some a2))))=some r:=by rw[if_pos rfl]at H;exact H
  obtain⟨Ab,cb,hbb,hbr⟩:=HX.out.hB;have hzB:w.cell? ⟨gB,0,none⟩=some (.slice Ab a2.length cb):=(mr hbb 0).trans rfl;have hfB:=l7 hbb 0;have HBR:=dm hbr;clear hbb hbr
  by_cases aC:(a2.length:Int)=0
  ·rw[if_pos aC]at H;have bn:=dm H;clear H;have bD:=beq_iff_eq.mpr aC;have bE:=bne_eq_false_iff_eq.mpr aC;clear aC
   go_enter Try.func102,Try.ntmps102
   go_wp2_with (first|((with_reducible refine kV 103 rfl ?_);refine lN 29 rfl Try.func103 (qH.calls (kz am.out) aw.out bn.out) ?_;rintro e bo ⟨cd,rfl,ak,hb⟩;refine⟨_,rfl,?_⟩;obtain⟨Ao,co,eo⟩:=kL ak;subst eo;have HO:=dm ak;have ax:=dm (oU.below HX.out hb);have bp:=dm hb;clear ak hb hzB hfB;obtain⟨bq,br,aE,_⟩:=ax.out.hB;have ce:bo.cell? ⟨gB,0,none⟩=some (.slice bq a2.length br):=(mr aE 0).trans rfl;have cf:=l7 aE 0))
   first|go_end0|refine bodyPost_ret (results_none rfl _ _ _) rfl ?_
   have h9:=oU.put ax.out (kR HO.out HX.out.b.size);exact⟨rfl,h9.1,World.grownBy.trans (uj bp.out _) h9.2⟩
  rw[if_neg aC]at H;have bD:=beq_eq_false_iff_ne.mpr aC;have bE:=bne_iff_ne.mpr aC;clear aC;obtain⟨au,bO,H⟩:=kS H
  by_cases a8:au=true
  ·subst a8;replace H:qH.f l0=some r:=by rw[if_pos rfl]at H;exact H
   have bn:=dm H;clear H
   go_enter Try.func102,Try.ntmps102
   go_wp2_with (first|(go_at_call 100;refine(tF.calls (kz am.out) aw.out (kz (ku HBR.out).2.2) ((ku HBR.out).2.1) bO.out).mono ?_;rintro e w' ⟨rfl,⟨nd,rfl⟩⟩)|((with_reducible refine kV 103 rfl ?_);refine lN 29 rfl Try.func103 (qH.calls (kz am.out) aw.out bn.out) ?_;rintro e bo ⟨cd,rfl,ak,hb⟩;refine⟨_,rfl,?_⟩;obtain⟨Ao,co,eo⟩:=kL ak;subst eo;have HO:=dm ak;have ax:=dm (oU.below (oU.drewN HX.out nd) hb);have bp:=dm (lY (pK (Below.refl w.heap.size w) nd) hb);clear ak hb hzB hfB;obtain⟨bq,br,aE,_⟩:=ax.out.hB;have ce:bo.cell? ⟨gB,0,none⟩=some (.slice bq a2.length br):=(mr aE 0).trans rfl;have cf:=l7 aE 0))
   first|go_end0|refine bodyPost_ret (results_none rfl _ _ _) rfl ?_
   have h9:=oU.put ax.out (kR HO.out (Nat.le_trans HX.out.b.size (kM (pK (Below.refl w.heap.size w) nd))));exact⟨rfl,h9.1,World.grownBy.trans (uj bp.out _) h9.2⟩
  replace a8:=Bool.eq_false_iff.mpr a8;subst a8;obtain rfl:a2=r:=by rw[if_neg (show¬ (false=true) by decide)]at H;exact Option.some.inj H
  clear H
  go_enter Try.func102,Try.ntmps102
  go_wp2_with (first|(go_at_call 100;refine(tF.calls (kz am.out) aw.out (kz (ku HBR.out).2.2) ((ku HBR.out).2.1) bO.out).mono ?_;rintro e w' ⟨rfl,⟨nd,rfl⟩⟩))
  first|go_end0|refine bodyPost_ret (results_none rfl _ _ _) rfl ?_
  exact⟨rfl,oU.drewN HX.out _,uj (pK (Below.refl w.heap.size w) _) _⟩
 replace a7:=Bool.eq_false_iff.mpr a7;subst a7;replace H:(nk.l0 k l0 l1 a2 (rd l0 (ab)) n 0 n l3)=some r:=by rw[if_neg (show¬ (false=true) by decide)]at H;exact H
 have H':=dm H;clear H;have bu:w.cell? ⟨gN,0,none⟩=some (.int .i64 n):=(mr HX.out.hN 0).trans rfl;have bv:w.cell? ⟨gN,1,none⟩=some (.slice A3 l3.length c3):=(mr HX.out.hN 1).trans rfl;have bx:=l7 HX.out.hN 0;have bz:=l7 HX.out.hN 1;have HG:=dm (World.grownBy.refl w (some gB))
 go_enter Try.func102,Try.ntmps102
 go_wp2
 go_loopg [32] k (fun kq ct w'=>∃ (aj:List Int) (aa:Int),ct=.int .i64 aa/\jP (nk.l0 kq l0 l1 aj (rd l0 (ab)) n aa n l3=some r)/\jP (kq<=k)/\jP (Kd.R (Kd.int .i64) 3 w' 0 (fun _=>True) (.slice (some aX) l0.length c0) l0)/\jP (oU w0 gR gB gF gN gW (some bM) c1 l1 n A3 c3 l3 aj w')/\jP (w.grownBy w' (some gB)))
 case atStart=>exact⟨(a2),(0),(kD),H',⟨Nat.le_refl _⟩,⟨HQ.out⟩,⟨HX.out⟩,⟨HG.out⟩⟩
 case round=>
  clear H' HQ HX HG am bu bv bx bz hzR hfR hzF hfF cq bN c6 b6 c7 b7 c8 b8 c9 b9;obtain⟨aj,aa,rfl,HA,aY,HQ,HX,HG⟩:=hrel;have am:=dm (ku HQ.out).2.2;have HB:=dm (Below.refl wr.heap.size wr);cases gk with
  |zero=>exact absurd HA.out (by simp[nk.l0])
  |succ k1=>
   have H:=HA.out;clear HA;simp only [nk.l0]at H
   replace H:=mo H;rcases H with⟨a9,H⟩|⟨a9,H⟩
   ·have a5:=dm H;clear H
    go_upto_region 7 with(fail)
    go_cut [44] (fun cu wc=>∃ (kq:Nat) (ay:Bool),cu=.bool ay/\jP (nk.j1 kq l0 l1 aj (rd l0 (ab)) aa n aa ay n l3=some r)/\jP (kq<=k1)/\jP (Below wr.heap.size wr wc))
    case first=>
     have H:=a5.out;clear a5;have bu:wr.cell? ⟨gN,0,none⟩=some (.int .i64 n):=(mr HX.out.hN 0).trans rfl;have bv:wr.cell? ⟨gN,1,none⟩=some (.slice A3 l3.length c3):=(mr HX.out.hN 1).trans rfl;have bx:=l7 HX.out.hN 0;have bz:=l7 HX.out.hN 1;obtain⟨aZ,bP,H⟩:=kS H
     by_cases a_:aZ=true
     ·subst a_;replace H:((sN.f k1 l0 aa).bind fun az=>(nk.j1 k1 l0 l1 aj (rd l0 (ab)) aa n aa (!az) n l3))=some r:=by rw[if_pos rfl]at H;exact H
      obtain⟨az,cv,H⟩:=kS H;have H':=dm H;clear H
      go_wp2_with (first|((with_reducible refine kV 65 rfl ?_);refine nU 38 rfl Try.func65 (rE.calls (kz (kW bK.out HX.out.b)) bL.out bP.out) ?_;intro cw hb;have n1:=kg HB hb;clear HB hb;have HB:=n1;clear n1)|(go_at_call 89;refine(sN.calls (kz (kW am.out HB.out)) aw.out cv.out).mono ?_;rintro e w' ⟨rfl,⟨nd,rfl⟩⟩))
      go_meet
      case rel=>exact⟨_,(!az),(kD),H',⟨Nat.le_refl _⟩,⟨jT HB.out⟩⟩
     replace a_:=Bool.eq_false_iff.mpr a_;subst a_;replace H:(nk.j1 k1 l0 l1 aj (rd l0 (ab)) aa n aa false n l3)=some r:=by rw[if_neg (show¬ (false=true) by decide)]at H;exact H
     have H':=dm H;clear H
     go_wp2_with (first|((with_reducible refine kV 65 rfl ?_);refine nU 38 rfl Try.func65 (rE.calls (kz (kW bK.out HX.out.b)) bL.out bP.out) ?_;intro cw hb;have n1:=kg HB hb;clear HB hb;have HB:=n1;clear n1))
     go_meet
     case rel=>exact⟨_,(false),(kD),H',⟨Nat.le_refl _⟩,⟨jT HB.out⟩⟩
    case rest=>
     clear a5 HB a9;obtain⟨kq,ay,rfl,HA,aG,HB⟩:=hcut;cases kq with
     |zero=>exact absurd HA.out (by simp[nk.j1])
     |succ ap=>
      have H:=HA.out;clear HA;simp only [nk.j1]at H
      by_cases ba:ay=true
      ·subst ba;replace H:((qH.f l0).bind fun ae=>((some (([aa]:List Int):List Int)).bind fun ah=>(if ae.length+ah.length<17592186044416 then((nk.f ap (ae++ah) l1 aj n l3).bind fun ao=>(nk.l0 ap l0 l1 ao (rd l0 (ab)) n (wrap64 (aa+1)) n l3)) else(none))))=some r:=by rw[if_pos rfl]at H;exact H
       obtain⟨ae,bQ,H⟩:=kS H;obtain⟨ah,aP⟩:∃y_:List Int,y_=(([aa]:List Int)):=⟨_,rfl⟩;replace H:(if ae.length+ah.length<17592186044416 then((nk.f ap (ae++ah) l1 aj n l3).bind fun ao=>(nk.l0 ap l0 l1 ao (rd l0 (ab)) n (wrap64 (aa+1)) n l3)) else(none))=some r:=by rw[aP];exact H
       have aD:=dm aP;clear aP
       obtain⟨bd,H⟩:=mW H;have bF:=dm bd;clear bd;obtain⟨bA,aQ⟩:∃y_:List Int,y_=(ae++ah):=⟨_,rfl⟩;rw[←aQ]at H;have bG:=dm aQ;clear aQ;obtain⟨ao,cx,H⟩:=kS H;have H':=dm H;clear H;try go_wp2
       have BK:=dm (kP (nY HX.out.hW HB.out));have n1:=dm (l6 HB.out);clear HB;have HB:=n1;clear n1;refine mO 7 (S:=fun w'=>w'.cell? ⟨gW,0,none⟩=some (.func (.func 102) #[] #[.pointer (some ⟨gR,0,none⟩),.pointer (some ⟨gB,0,none⟩),.pointer (some ⟨gF,0,none⟩),.pointer (some ⟨gN,0,none⟩),.pointer (some ⟨gW,0,none⟩)])) [] (jS BK 0) nk.xN nk.wX (fun hHeld HT_ HW_=>?_);generalize wc.drew=cH at BK HB hHeld⊢;refine jR 1 46 2 ?_;refine jR 3 48 10 ?_;refine kF 0 45 11 ?_;refine rq (σ:=Value×Value) 2 (lu 7 31) (fun s_=>[(47,s_.1),(49,s_.2)]) (fun s_ w'=>(w'.cell? ⟨gW,0,none⟩=some (.func (.func 102) #[] #[.pointer (some ⟨gR,0,none⟩),.pointer (some ⟨gB,0,none⟩),.pointer (some ⟨gF,0,none⟩),.pointer (some ⟨gN,0,none⟩),.pointer (some ⟨gW,0,none⟩)]))/\(Kd.R (Kd.int .i64) 3 w' wr.heap.size (fun k_=>some k_≠(s_.2:Value).ownBlock) s_.1 ae)/\(Kd.R (Kd.int .i64) 3 w' wr.heap.size (fun k_=>some k_≠(s_.1:Value).ownBlock) s_.2 ah)/\(w'.heap[gW]? =some (.cells #[.func (.func 102) #[] #[.pointer (some ⟨gR,0,none⟩),.pointer (some ⟨gB,0,none⟩),.pointer (some ⟨gF,0,none⟩),.pointer (some ⟨gN,0,none⟩),.pointer (some ⟨gW,0,none⟩)]] 108 (0,0)))/\(Below wr.heap.size wr w')) ?_ ?_;rotate_left
       ·intro oP;refine qp (i:=2) (j:=4) (Ni:=some 47) (Nj:=some 49) (lu 7 15) (lu 7 27) rfl rfl rfl rfl (qw HT_.out (by kernel_rfl)) (by decide) (by decide) (fun K hK=>?_) (fun K hK=>?_)
        ·refine mi Try.func103 (qH.calls (kz (kW am.out HB.out)) aw.out bQ.out) ?_;rintro e cy ⟨aH,rfl,ak,hb⟩;refine⟨_,rfl,?_⟩;have ai:=dm (kR ak (kM (jT HB.out)));replace BK:=jU BK hb;replace HB:=kg HB hb;(try clear hb ak);refine hK.out _ _ (jS BK 0) (fun hHeld=>?_);clear hK K;refine kK 47 ?_;refine lv 4 49 31 (fun K hK=>?_);refine rP (Kd.int .i64) _ 3 ?hg (N:=49) ?hd (xs:=([aa]:List Int)) (inner:=[.int .i64 aa]) (ok:=fun _=>True) (okp:=fun _=>True) ?hr ?hp (fun _ hk=>hk) trivial (Below.refl _ _) (Nat.le_refl _) (by simp) ?_;(case hd=>rfl);(case hg=>rfl);(case hr=>first|(go_simp;done)|(go_simp;rfl));(case hp=>exact(kN.one (show Kd.M (Kd.int .i64) _ _ _ aa [.int .i64 aa] from rfl) (kN.none _ _)));intro aT cI aA hb hg_ lD;clear hg_ lD;(first|rw[←aD.out]at aA|(simp only [Int.reduceToNat]at aA;rw[←aD.out]at aA));have ac:=dm (kR (lI aA (kZ (jX ai.out))) (kM (jT HB.out)));replace ai:=lV ai aA hb;replace BK:=jU BK hb;replace HB:=kg HB hb;clear hb aA;refine hK.out _ _ (jS BK 0) (fun hHeld=>?_);clear hK K;refine kK 49 ?_;exact mU (by simp only [nH,Act.put,List.setIfInBounds_toArray,List.set_cons_zero,List.set_cons_succ]) (oP (aH,aT) _ ⟨hHeld,((yu)),((w_)),(jZ BK.out),(jT HB.out)⟩)
        refine rP (Kd.int .i64) _ 3 ?hg (N:=49) ?hd (xs:=([aa]:List Int)) (inner:=[.int .i64 aa]) (ok:=fun _=>True) (okp:=fun _=>True) ?hr ?hp (fun _ hk=>hk) trivial (Below.refl _ _) (Nat.le_refl _) (by simp) ?_;(case hd=>rfl);(case hg=>rfl);(case hr=>first|(go_simp;done)|(go_simp;rfl));(case hp=>exact(kN.one (show Kd.M (Kd.int .i64) _ _ _ aa [.int .i64 aa] from rfl) (kN.none _ _)));intro aT cy aI hb hg_ lD;clear hg_ lD;(first|rw[←aD.out]at aI|(simp only [Int.reduceToNat]at aI;rw[←aD.out]at aI));have ac:=dm (kR aI (kM (jT HB.out)));replace BK:=jU BK hb;replace HB:=kg HB hb;clear hb aI;refine hK.out _ _ (jS BK 0) (fun hHeld=>?_);clear hK K;refine kK 49 ?_;refine lv 2 47 31 (fun K hK=>?_);refine mi Try.func103 (qH.calls (kz (kW am.out HB.out)) aw.out bQ.out) ?_;rintro e cJ ⟨aH,rfl,ak,hb⟩;refine⟨_,rfl,?_⟩;have ai:=dm (kR (lI ak (kZ (jX ac.out))) (kM (jT HB.out)));replace ac:=lV ac ak hb;replace BK:=jU BK hb;replace HB:=kg HB hb;(try clear hb ak);refine hK.out _ _ (jS BK 0) (fun hHeld=>?_);clear hK K;refine kK 47 ?_;exact mU (by simp only [nH,Act.put,List.setIfInBounds_toArray,List.set_cons_zero,List.set_cons_succ]) (oP (aH,aT) _ ⟨hHeld,((yu)),((w_)),(jZ BK.out),(jT HB.out)⟩)
       rintro⟨aH,aT⟩ cL ⟨hHeld,bR,bS,bT,bU⟩;clear BK HB;have ai:=dm bR;have ac:=dm bS;have BK:=dm bT;have HB:=dm bU;clear bR bS bT bU;obtain⟨cg,ch,ci⟩:=kL ac.out;subst ci;refine mU (a':= ?_) ?_ ?_;rotate_left
       ·simp only [nH,Act.put,List.setIfInBounds_toArray,List.set_cons_zero,List.set_cons_succ];rfl
       refine lv 5 50 63 (fun K hK=>?_);refine zB (Kd.int .i64) (w0:=wr) wr.heap.size (by rfl) (.tmp 47) (.tmp 49) 45 3 (.int .i64 0) 8 rfl Try.underlying45 info3 rfl (by decide) (by omega) aH ae ah _ _ _ (fun k_=>some k_≠(.slice cg ah.length ch:Value).ownBlock) (fun _=>False) rfl rfl ?aO ?aR (fun _ _ h=>h) (fun _ h=>h.elim) ?aF ?aB ?aS ?aL ?_;(case aR=>exact kz (ku ac.out).2.2);(case aB=>exact(jT HB.out));(case aF=>exact(fun k_ hk=>Kd.fresh' (kZ (jX ac.out)) k_ hk));(case aO=>exact(jX ai.out));(case aS=>exact(kM (jT HB.out)));(case aL=>have:=bF.out;omega);intro cF cM ho hb hg hat;rw[←bG.out]at ho;have n0:=lZ BK hg (lU ai.out BK.out (by decide));clear BK ac HB ai;have BK:=n0;have HB:=dm hb;have aU:=dm ho;clear n0 ho hb hg hat;obtain⟨cj,ck,cl⟩:=kL aU.out;subst cl;refine hK.out _ _ (jS BK 0) (fun hHeld=>?_);clear hK K;refine kK 50 ?_;refine lv 6 51 127 (fun K hK=>?_);have ax:=dm (oU.below HX.out (jT HB.out));have bV:=dm (qb HQ.out (jT HB.out));have bW:=dm (World.grownBy.trans HG.out (uj (jT HB.out) (some gB)));refine IB (f:=102) (x:=.tmp 45) (first:= #[]) (cap:= #[.pointer (some ⟨gR,0,none⟩),.pointer (some ⟨gB,0,none⟩),.pointer (some ⟨gF,0,none⟩),.pointer (some ⟨gN,0,none⟩),.pointer (some ⟨gW,0,none⟩)]) Try.func102 (#[.slice cj bA.length ck]++ #[.pointer (some ⟨gR,0,none⟩),.pointer (some ⟨gB,0,none⟩),.pointer (some ⟨gF,0,none⟩),.pointer (some ⟨gN,0,none⟩),.pointer (some ⟨gW,0,none⟩)]) rfl rfl (by first|rfl|(simp only [List.map_toArray,List.map_cons,List.map_nil];rfl)) (by kernel_rfl) rfl (by rfl) rfl ?_;refine(ih ap (by have:=aY.out;have:=aG.out;omega) _ _ bA aj ao _ ?mI ax.out cx.out).mono ?_;(case mI=>exact kw (kR aU.out (Nat.zero_le _)) (fun _ _=>trivial));rintro e bX ⟨rfl,hx_,hg_⟩;refine⟨_,rfl,?_⟩;have n1:=dm (oU.way ax.out bV.out hg_);have n2:=dm (World.grownBy.trans bW.out hg_);have n3:=dm hx_;have n4:=dm (Below.refl bX.heap.size bX);have n5:=dm hx_.hW;clear HQ HX HG bV ax bW HB BK aU hx_ hg_ am;have HQ:=n1;have HG:=n2;have HX:=n3;have HB:=n4;have BK:=n5;clear n1 n2 n3 n4 n5;refine hK.out _ _ (jS BK 0) (fun hHeld=>?_);clear hK K;refine kK 51 ?_;refine mq (mF HT_.out (by kernel_rfl)) ?_;try go_wp2
       go_roundg ap
       case measure=>have:=aY.out;have:=aG.out;omega
       case rel=>exact⟨(ao),(wrap64 (aa+1)),(kD),H',⟨by have:=aY.out;have:=aG.out;omega⟩,⟨jX HQ.out⟩,⟨oU.below HX.out (jT HB.out)⟩,⟨World.grownBy.trans HG.out (uj (jT HB.out) _)⟩⟩
      replace ba:=Bool.eq_false_iff.mpr ba;subst ba;replace H:(nk.l0 ap l0 l1 aj (rd l0 (ab)) n (wrap64 (aa+1)) n l3)=some r:=by rw[if_neg (show¬ (false=true) by decide)]at H;exact H
      have H':=dm H;clear H
      go_wp2
      go_roundg ap
      case measure=>have:=aY.out;have:=aG.out;omega
      case rel=>exact⟨(aj),(wrap64 (aa+1)),(kD),H',⟨by have:=aY.out;have:=aG.out;omega⟩,⟨qb HQ.out (jT HB.out)⟩,⟨oU.below HX.out (jT HB.out)⟩,⟨World.grownBy.trans HG.out (uj (jT HB.out) _)⟩⟩
   obtain rfl:=Option.some.inj H
   go_wp2
   first|go_end0|refine bodyPost_ret (results_none rfl _ _ _) rfl ?_
   exact⟨rfl,oU.below HX.out (jT HB.out),World.grownBy.trans HG.out (uj (jT HB.out) _)⟩
def tC.f (k:Nat) (av:Int) (al:List (S59)) (a1:Int) (l2:List Bool):Option (List Int):=nk.f k [a1] l2 [] av al
theorem tC.calls {k:Nat}{av:Int}{aV:Option Addr}{aW:Nat}{al:List (S59)}{a1:Int}{A2:Option Addr}{c2:Nat}{l2:List Bool}{r:List Int}{w:World}(bf:Kd.C k59 w aV al.length al)(bh:al.length<=aW)(hr2:Kd.C Kd.bool w A2 l2.length l2)(bY:l2.length<=c2)(h:tC.f k av al a1 l2=some r):
  Calls Try.prog 67 #[.agg #[.int .i64 av,.slice aV al.length aW],.int .i64 a1,.slice A2 l2.length c2] w fun e w'=>∃bZ:Value,e=.returned (bZ)/\Kd.R (Kd.int .i64) 3 w' w.heap.size (fun _=>True) bZ r/\Below w.heap.size w w':=by
 obtain⟨y0,bB⟩:∃y_:List Int,y_=(([]:List Int)):=⟨_,rfl⟩;obtain⟨y1,bC⟩:∃y_:List Int,y_=(([a1]:List Int)):=⟨_,rfl⟩;have H:nk.f k y1 l2 y0 av al=some r:=by rw[bB,bC];exact h
 have b3:=dm bB;have b4:=dm bC;have A1:=dm H;clear bB bC H h;have am:=dm bf;have cz:=dm hr2;clear bf hr2;have aw:=dm bh;have cA:=dm bY;clear bh bY;have hmf:∀ (fn:Fn) (first cap:Array Value) (w:World),(Instr.makeFunc fn first cap).run Try.prog w=.ok (.func fn first cap) w:=fun _ _ _ _=>rfl
 go_enter Try.func67,Try.ntmps67
 go_wp2_with (first
  |((with_reducible refine kE 3 rfl ?_);refine ll #[.int .i64 av,.slice aV al.length aW] 31 ?_;intro gN hg w1 hN hb;have BN:=dm hN;have HB:=dm hb;clear hN hg hb)
  |((with_reducible refine kE 5 rfl ?_);refine ll #[.slice A2 l2.length c2] 54 ?_;intro gR hg w2 hR hb;have BR:=dm hR;have n1:=jU BN hb;have n2:=kg HB hb;clear BN HB hb hg hR;have BN:=n1;have HB:=n2;clear n1 n2)
  |((with_reducible refine kE 10 rfl ?_);refine oW (Kd.int .i64) rfl 3 ([]:List Int) [] (kN.none _ _) ?_;intro v0 w3 ho hb hg_ lD;clear hg_ lD;(first|rw[←b3.out]at ho|(simp only [Int.reduceToNat]at ho;rw[←b3.out]at ho));have n0:=dm (kR ho (kM (jT HB.out)));have n1:=jU BN hb;have n2:=jU BR hb;have n3:=kg HB hb;clear BN BR HB hb ho;have HO:=n0;have BN:=n1;have BR:=n2;have HB:=n3;clear n0 n1 n2 n3;obtain⟨Ao,co,eo⟩:=kL HO.out;subst eo)
  |((with_reducible refine kE 7 rfl ?_);refine ll #[.slice none 0 0] 45 ?_;intro gB hg w4 hbB hb;have GE:=dm (show w.heap.size<=gB by rw[hg];exact(kM (jT HB.out)));have BB:=dm hbB;have n0:=kH HO hb;have n1:=jU BN hb;have n2:=jU BR hb;have n3:=kg HB hb;clear HO BN BR HB hb hg hbB;have HO:=n0;have BN:=n1;have BR:=n2;have HB:=n3;clear n0 n1 n2 n3;have hzB:w4.cell? ⟨gB,0,none⟩=some (.slice none 0 0):=(mr BB.out 0).trans rfl;have hfB:=l7 BB.out 0)
  |((with_reducible refine kE 8 rfl ?_);have n0:=dm (xX HO.out BB.out (by decide) 0 (.slice Ao y0.length co));have n1:=dm (pO BN.out (p:=⟨gB,0,none⟩) (rV BN.out BB.out (by decide)) (.slice Ao y0.length co));have n2:=dm (pO BR.out (p:=⟨gB,0,none⟩) (rV BR.out BB.out (by decide)) (.slice Ao y0.length co));have n3:=dm (nQ (j:=0) (v:=.slice Ao y0.length co) HB.out GE.out);have n4:=dm (vo BB.out 0 (.slice Ao y0.length co) (cs':= #[.slice Ao y0.length co]) rfl);clear HO BN BR HB BB hzB hfB;have HO:=n0;have BN:=n1;have BR:=n2;have HB:=n3;have BB:=n4;clear n0 n1 n2 n3 n4;refine pU 8 #[.nilFunc] 73 ?_;intro gF hg w5 hbF hb;have GF:=dm (show w.heap.size<=gF by rw[hg];exact(kM (jT HB.out)));have BF:=dm hbF;have n0:=dm (qb HO.out hb);have n1:=dm (nY BN.out hb);have n2:=dm (nY BR.out hb);have n3:=dm (lY HB.out hb);have n4:=dm (nY BB.out hb);clear HO BN BR HB BB hb hg hbF;have HO:=n0;have BN:=n1;have BR:=n2;have HB:=n3;have BB:=n4;clear n0 n1 n2 n3 n4;have hzF:w5.cell? ⟨gF,0,none⟩=some .nilFunc:=(mr BF.out 0).trans rfl;have hfF:=l7 BF.out 0)
  |((with_reducible refine kE 9 rfl ?_);have n0:=dm (xX HO.out BF.out (by decide) 0 (.func (.func 100) #[] #[]));have n1:=dm (pO BN.out (p:=⟨gF,0,none⟩) (rV BN.out BF.out (by decide)) (.func (.func 100) #[] #[]));have n2:=dm (pO BR.out (p:=⟨gF,0,none⟩) (rV BR.out BF.out (by decide)) (.func (.func 100) #[] #[]));have n3:=dm (nQ (j:=0) (v:=.func (.func 100) #[] #[]) HB.out GF.out);have n4:=dm (pO BB.out (p:=⟨gF,0,none⟩) (rV BB.out BF.out (by decide)) (.func (.func 100) #[] #[]));have n5:=dm (vo BF.out 0 (.func (.func 100) #[] #[]) (cs':= #[.func (.func 100) #[] #[]]) rfl);clear HO BN BR HB BB BF hzF hfF;have HO:=n0;have BN:=n1;have BR:=n2;have HB:=n3;have BB:=n4;have BF:=n5;clear n0 n1 n2 n3 n4 n5;refine pU 9 #[.nilFunc] 108 ?_;intro gW hg w6 hbW hb;have GW:=dm (show w.heap.size<=gW by rw[hg];exact(kM (jT HB.out)));have BW:=dm hbW;have n0:=dm (qb HO.out hb);have n1:=dm (nY BN.out hb);have n2:=dm (nY BR.out hb);have n3:=dm (lY HB.out hb);have n4:=dm (nY BB.out hb);have n5:=dm (nY BF.out hb);clear HO BN BR HB BB BF hb hg hbW;have HO:=n0;have BN:=n1;have BR:=n2;have HB:=n3;have BB:=n4;have BF:=n5;clear n0 n1 n2 n3 n4 n5;have hzW:w6.cell? ⟨gW,0,none⟩=some .nilFunc:=(mr BW.out 0).trans rfl;have hfW:=l7 BW.out 0)
  |((with_reducible refine kE 14 rfl ?_);have HX:=dm (show oU w gR gB gF gN gW A2 c2 l2 av aV aW al y0 (w6.setCell ⟨gW,0,none⟩ (.func (.func 102) #[] #[.pointer (some ⟨gR,0,none⟩),.pointer (some ⟨gB,0,none⟩),.pointer (some ⟨gF,0,none⟩),.pointer (some ⟨gN,0,none⟩),.pointer (some ⟨gW,0,none⟩)])) from⟨nQ HB.out GW.out,GE.out,pO BR.out (rV BR.out BW.out (by decide)) _,pO BN.out (rV BN.out BW.out (by decide)) _,pO BF.out (rV BF.out BW.out (by decide)) _,vo BW.out 0 (.func (.func 102) #[] #[.pointer (some ⟨gR,0,none⟩),.pointer (some ⟨gB,0,none⟩),.pointer (some ⟨gF,0,none⟩),.pointer (some ⟨gN,0,none⟩),.pointer (some ⟨gW,0,none⟩)]) rfl,Ao,co,pO BB.out (rV BB.out BW.out (by decide)) _,xX HO.out BW.out (by decide) 0 _⟩);clear HO BN BR HB BB BF BW hzW hfW;refine oW (Kd.int .i64) rfl 3 ([a1]:List Int) [.int .i64 a1] (kN.one (show Kd.M (Kd.int .i64) _ _ _ a1 [.int .i64 a1] from rfl) (kN.none _ _)) ?_;intro v1 w7 ho hb hg_ lD;clear hg_ lD;(first|rw[←b4.out]at ho|(simp only [Int.reduceToNat]at ho;rw[←b4.out]at ho));have n0:=dm (kR ho (Nat.zero_le _));have n1:=dm (oU.below HX.out hb);clear HX hb ho;have HX:=n1;have HO:=n0;clear n0 n1;obtain⟨Ap,cp,ep⟩:=kL HO.out;subst ep)
  |((with_reducible refine kE 15 rfl ?_);refine IA (some 15) rfl rfl (f:=102) (x:=.tmp 12) (first:= #[]) (cap:= #[.pointer (some ⟨gR,0,none⟩),.pointer (some ⟨gB,0,none⟩),.pointer (some ⟨gF,0,none⟩),.pointer (some ⟨gN,0,none⟩),.pointer (some ⟨gW,0,none⟩)]) Try.func102 (#[.slice Ap y1.length cp]++ #[.pointer (some ⟨gR,0,none⟩),.pointer (some ⟨gB,0,none⟩),.pointer (some ⟨gF,0,none⟩),.pointer (some ⟨gN,0,none⟩),.pointer (some ⟨gW,0,none⟩)]) rfl rfl (by first|rfl|(simp only [List.map_toArray,List.map_cons,List.map_nil];rfl)) (by kernel_rfl) rfl ?_;refine(nk.calls cz.out cA.out am.out aw.out k _ _ y1 y0 r _ HO.out HX.out A1.out).mono ?_;rintro e w8 ⟨rfl,hx_,hg_⟩;refine⟨_,rfl,?_⟩;obtain⟨Ar,cr,hbr,hrr⟩:=hx_.hB;have HRR:=dm hrr;have HBB:=dm hx_.b;have hzR:w8.cell? ⟨gB,0,none⟩=some (.slice Ar r.length cr):=(mr hbr 0).trans rfl;clear HX hx_ hg_ hbr hrr))
 go_ret
 exact⟨_,rfl,HRR.out,HBB.out⟩
end Go.Proofs.Ytgeonpciodepgaa.P
