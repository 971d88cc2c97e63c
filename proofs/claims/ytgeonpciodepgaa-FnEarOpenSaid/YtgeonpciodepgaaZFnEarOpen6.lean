/- The proof's parts ahead of the row: of no condition of their own. -/
import Derived.Test.YtgeonpciodepgaaZFnEarOpen5
import Derived.Shelf.SlSortCmp.Whole1
import Derived.Ground.SlsfProg
import Derived.Shelf.SlSortCmp.NoneTotal
set_option linter.unusedVariables false
set_option linter.unusedSimpArgs false
namespace Go.Proofs
open Go.Shelf
def Try.Pg:Go.Shelf.Ren:=⟨fun|6=>131|15=>108|14=>138|28=>127|29=>128|20=>140|21=>141|22=>142|23=>143|24=>144|25=>145|26=>146|27=>147|46=>148|47=>134|48=>135|49=>149|50=>150|57=>151|n=>n,fun|22=>25|24=>45|25=>107|3=>3|39=>116|0=>0|53=>131|55=>133|4=>4|46=>124|45=>123|50=>128|5=>5|9=>9|66=>136|70=>140|76=>143|77=>144|n=>n,fun|n=>n⟩
theorem Try.JS:Go.Proofs.SlLaysF.n6 Try.prog Try.Pg:={
 mixed:=by kernel_rfl
 f6:=⟨Try.f131.name,by decide,Try.func131.trans (congrArg some (by kernel_rfl))⟩
 f14:=⟨Try.f138.name,by decide,Try.func138.trans (congrArg some (by kernel_rfl))⟩
 f15:=Try.func108.trans (congrArg some (by kernel_rfl))
 f20:=⟨Try.f140.name,by decide,Try.func140.trans (congrArg some (by kernel_rfl))⟩
 f21:=⟨Try.f141.name,by decide,Try.func141.trans (congrArg some (by kernel_rfl))⟩
 f22:=⟨Try.f142.name,by decide,Try.func142.trans (congrArg some (by kernel_rfl))⟩
 f23:=⟨Try.f143.name,by decide,Try.func143.trans (congrArg some (by kernel_rfl))⟩
 f24:=⟨Try.f144.name,by decide,Try.func144.trans (congrArg some (by kernel_rfl))⟩
 f25:=⟨Try.f145.name,by decide,Try.func145.trans (congrArg some (by kernel_rfl))⟩
 f26:=⟨Try.f146.name,by decide,Try.func146.trans (congrArg some (by kernel_rfl))⟩
 f27:=⟨Try.f147.name,by decide,Try.func147.trans (congrArg some (by kernel_rfl))⟩
 f28:=Try.func127.trans (congrArg some (by kernel_rfl))
 f29:=Try.func128.trans (congrArg some (by kernel_rfl))
 f46:=⟨Try.f148.name,by decide,Try.func148.trans (congrArg some (by kernel_rfl))⟩
 f47:=Try.func134.trans (congrArg some (by kernel_rfl))
 f48:=Try.func135.trans (congrArg some (by kernel_rfl))
 f49:=⟨Try.f149.name,by decide,Try.func149.trans (congrArg some (by kernel_rfl))⟩
 f50:=⟨Try.f150.name,by decide,Try.func150.trans (congrArg some (by kernel_rfl))⟩
 f57:=⟨Try.f151.name,by decide,Try.func151.trans (congrArg some (by kernel_rfl))⟩
 t0:=Try.underlying0
 a0:=Try.isAgg0
 z0:=Try.sizeOf0
 v0:=Try.zeroValue0
 t3:=Try.underlying3
 a3:=Try.isAgg3
 z3:=Try.sizeOf3
 v3:=Try.zeroValue3
 t4:=Try.underlying4
 a4:=Try.isAgg4
 z4:=Try.sizeOf4
 v4:=Try.zeroValue4
 t5:=Try.underlying5
 a5:=Try.isAgg5
 z5:=Try.sizeOf5
 v5:=Try.zeroValue5
 t9:=Try.underlying9
 a9:=Try.isAgg9
 z9:=Try.sizeOf9
 v9:=Try.zeroValue9
 t22:=Try.underlying25
 a22:=Try.isAgg25
 z22:=Try.sizeOf25
 v22:=Try.zeroValue25
 a24:=Try.isAgg45
 z24:=Try.sizeOf45
 t25:=Try.underlying107
 a25:=Try.isAgg107
 z25:=Try.sizeOf107
 v25:=Try.zeroValue107
 t39:=Try.underlying116
 a39:=Try.isAgg116
 z39:=Try.sizeOf116
 v39:=Try.zeroValue116
 t45:=Try.underlying123
 a45:=Try.isAgg123
 z45:=Try.sizeOf123
 v45:=Try.zeroValue123
 t46:=Try.underlying124
 a46:=Try.isAgg124
 z46:=Try.sizeOf124
 v46:=Try.zeroValue124
 t50:=Try.underlying128
 a50:=Try.isAgg128
 z50:=Try.sizeOf128
 v50:=Try.zeroValue128
 t53:=Try.underlying131
 a53:=Try.isAgg131
 z53:=Try.sizeOf131
 v53:=Try.zeroValue131
 t55:=Try.underlying133
 a55:=Try.isAgg133
 z55:=Try.sizeOf133
 v55:=Try.zeroValue133
 t66:=Try.underlying136
 a66:=Try.isAgg136
 z66:=Try.sizeOf136
 v66:=Try.zeroValue136
 t70:=Try.underlying140
 a70:=Try.isAgg140
 z70:=Try.sizeOf140
 v70:=Try.zeroValue140
 t76:=Try.underlying143
 a76:=Try.isAgg143
 z76:=Try.sizeOf143
 v76:=Try.zeroValue143
 t77:=Try.underlying144
 a77:=Try.isAgg144
 z77:=Try.sizeOf144
 v77:=Try.zeroValue144}
end Go.Proofs
namespace Go.Proofs.Ytgeonpciodepgaa.P
open Go.RowKit Go.Lib Go.Sort Go.Proofs.YtgeonpciodepgaaW.PrintWords Go.Proofs.YtgeonpciodepgaaW.PrintLast Go.Proofs.YtgeonpciodepgaaW.PrintMore Go.Proofs.Ytgeonpciodepgaa.G Go.Proofs.YtgeonpciodepgaaW.PrintWords.Kd Go.Proofs.YtgeonpciodepgaaW.PrintMore.Kd
def cfI (xs:List (List Int)) (i j:Nat):Int:=cfW (xs.getD i []) (xs.getD j [])
theorem Di (xs:List (List Int)) (i j:Nat):ltOf (cfI xs) i j=decide (wlt (xs.getD i []) (xs.getD j [])):=by
 unfold ltOf cfI
 exact decide_eq_decide.2 (LV _ _)
theorem Pq (xs:List (List Int)):SWO (ltOf (cfI xs)) where
 irrefl x:=by rw[Di];exact decide_eq_false (DU _)
 trans x y z h1 h2:=by
  rw[Di,decide_eq_true_eq]at*
  exact BH h1 h2
 ntrans x y z h1 h2:=by
  rw[Di,decide_eq_false_iff_not]at*
  intro h
  rcases BI (xs.getD x []) (xs.getD y []) with a|a|a
  ·exact h1 a
  ·rw[a]at h;exact h2 h
  exact h2 (BH a h)
theorem Oy {n:Nat}{d:List Nat}(h:d.Perm (List.range n)) {α:Type}(xs:List α) (z:α) (hx:xs.length=n):(d.map fun i=>xs.getD i z).Perm xs:=by
 refine(h.map _).trans (List.Perm.of_eq ?_)
 apply List.ext_getElem
 ·simp[hx]
 intro i h1 h2
 simp[List.getD_eq_getElem?_getD,h2]
theorem Ph {w:World}{base:Nat}{A:Option Addr}{c:Nat}{xs:List (List Int)}(HS:Kd.S (Kd.slice 3 (Kd.int .i64)) 45 w base (fun _=>True) (.slice A xs.length c) xs) (hl:xs.length<4611686018427387904):
  Calls Try.prog 131 #[.slice A xs.length c,.func (.func 132) #[] #[]] w fun e w'=>
   e=.returned (.tuple #[])/\Kd.S (Kd.slice 3 (Kd.int .i64)) 45 w' base (fun _=>True) (.slice A xs.length c) (xJ xs)/\w.grownBy w' (Value.slice A xs.length c).ownBlock/\Below base w w':=by
 rcases Nat.eq_zero_or_pos xs.length with h0|h0
 ·obtain rfl:=List.eq_nil_of_length_eq_zero h0
  refine(AnyF.slices_SortFunc_none {Try.JS with} A c (.func (.func 132) #[] #[]) w).mono ?_
  rintro e w' ⟨rfl,rfl⟩
  have e0:xJ ([]:List (List Int))=[]:=by unfold xJ;simp
  exact⟨rfl,by rw[e0];exact HS,World.grownBy.refl _ _,Below.refl _ _⟩
 obtain⟨f,hok,inner,⟨hlen,hown⟩,hr⟩:=HS
 rw[List.length_zipIdx]at hlen hown
 have hr0:=hr.1
 rw[List.length_zipIdx]at hr0
 rcases hown with⟨hv,hn⟩|⟨g,cap,cur,hv,hg,hh,hnc,hm,hsz,ht⟩
 ·exact absurd hn (by omega)
 injection hv with hA hn hc
 subst hA;subst hc
 have hsz1:∀f,(Kd.tag f (Kd.slice 3 (Kd.int .i64))).sz=1:=fun _=>rfl
 rw[hsz1]at hlen hsz ht hr hr0
 rw[Nat.mul_one]at hlen hsz ht hr0
 have hblk:g<w.heap.size:=(Array.getElem?_eq_some_iff.1 hh).1
 have hfr:∀q,(Value.slice (some ⟨g,0,none⟩) xs.length c).ownBlock=some q↔q=g:=fun q=>by simp[Value.ownBlock,eq_comm]
 -- each element: a row of its own
 have hel:∀j,j<xs.length->∃v,inner[j]? =some v/\Kd.R (Kd.int .i64) 3 w base (fun k=>k≠g/\f k=j) v (xs.getD j []):=by
  intro j hj
  have h1:=hr.2 j (xs.getD j [],j) (by rw[List.getElem?_zipIdx,Nat.zero_add,List.getElem?_eq_getElem hj];simp[List.getD_eq_getElem?_getD,hj])
  rw[Nat.mul_one]at h1
  have hj':j<inner.length:=by omega
  obtain⟨v,e,hv⟩:=h1
  have e2:(inner.drop j).take 1=[inner[j]]:=by rw[List.drop_eq_getElem_cons hj'];rfl
  rw[e2]at e
  injection e with e
  refine⟨v,by rw[List.getElem?_eq_getElem hj',e],nK hv (fun k hk=>⟨fun e=>hk.1.2 (by simp[Value.ownBlock,e]),hk.2⟩)⟩
 let enc:Nat->Value:=fun i=>inner.getD i (.slice none 0 0)
 have encAt:∀j v,inner[j]? =some v->enc j=v:=fun j v h=>by simp[enc,List.getD_eq_getElem?_getD,h]
 have hel2:∀j,∃v,enc j=v/\Kd.R (Kd.int .i64) 3 w base (fun k=>k≠g/\(j<xs.length->f k=j)) v (xs.getD j []):=by
  intro j
  by_cases hj:j<xs.length
  ·obtain⟨v,e,h⟩:=hel j hj
   exact⟨v,encAt j v e,nK h (fun k hk=>⟨hk.1,fun _=>hk.2⟩)⟩
  refine⟨.slice none 0 0,?_,?_⟩
  ·simp[enc,List.getD_eq_getElem?_getD,List.getElem?_eq_none (show inner.length<=j by omega)]
  rw[show xs.getD j []=[] from by simp[List.getD_eq_getElem?_getD,List.getElem?_eq_none (show xs.length<=j by omega)]];exact wQ _ _ _ _ _
 have h1c:OneCell enc:=fun i=>by
  obtain⟨v,e,h⟩:=hel2 i
  rw[e];exact(K3 h).2
 have eg:∀args w,(callFunc 132 args).run Try.prog w=.ok (.enter 132 args) w:=enters_of Try.func132 (by kernel_rfl) rfl
 have hH:Holds enc w g 0 (List.range xs.length).toArray:=by
  intro j hj
  have hj:j<xs.length:=by simpa using hj
  have hj2:j<inner.length:=by omega
  have e1:(List.range xs.length).toArray[j]! =j:=by rw[getElem!_pos _ _ (by simpa using hj)];simp
  rw[e1]
  obtain⟨v,e,_⟩:=hel j hj
  refine⟨?_,by simp[World.frozen?,hh]⟩
  rw[encAt j v e]
  have h1:(cur.toList.take xs.length)[j]? =inner[j]? :=by rw[ht]
  rw[List.getElem?_take_of_lt hj]at h1
  simp only [World.cell?,hh,Nat.zero_add,Option.isSome_none,Bool.false_eq_true,if_false]
  rw[←Array.getElem?_toList,h1,e]
 have grw:∀ (m:Nat) (os:Array Obj) (dk:Array Nat),w.grownBy (sortWorld enc w g 0 m dk os) (some g):=by
  intro m os dk
  unfold sortWorld
  refine⟨rfl,rfl,rfl,by simp,fun k hk hne=>?_⟩
  rw[heap_grow_old _ _ (by simpa using hk)]
  have:g≠k:=fun e=>hne (by rw[e])
  simp[putRow,mapBlock,Sort.ahead,Array.getElem?_modify,this]
 have hcmp:CmpLays1 Try.prog 132 #[] enc (cfI xs) g 0 (List.range xs.length).toArray.size w:=by
  intro m os dk _ x y
  obtain⟨vx,ex,hx⟩:=hel2 x
  obtain⟨vy,ey,hy⟩:=hel2 y
  rw[ex,ey]
  have hx2:=za hx (grw m os dk) (fun k hk e=>by injection e with e;exact hk.1 e)
  have hy2:=za hy (grw m os dk) (fun k hk e=>by injection e with e;exact hk.1 e)
  obtain⟨Ax,cx,e1,l1,r1⟩:=AP hx2
  obtain⟨Ay,cy,e2,l2,r2⟩:=AP hy2
  subst e1;subst e2
  exact PN Ax cx (xs.getD x []) Ay cy (xs.getD y []) _ r1 l1 r2 l2
 have hcon:=Any.slices_SortFunc Try.JS enc h1c (cfI xs) (Pq xs) 132 #[] g 0 c (List.range xs.length).toArray w eg hcmp hH hblk (by simpa using hl)
 change Calls Try.prog 131 _ _ _ at hcon
 rw[List.size_toArray,List.length_range]at hcon
 refine hcon.mono ?_
 rintro e w' ⟨rfl,d',m,os,hp,hsd,rfl⟩
 obtain⟨ps,_,pp⟩:=hp
 have ls:d'.toList.length=xs.length:=by simpa using ps
 have perm:d'.toList.Perm (List.range xs.length):=by
  have a:(d'.extract 0 (List.range xs.length).toArray.size)=d':=by rw[←ps];simp
  have b:(d'.extract 0 xs.length)=d':=by simpa using a
  have c:((List.range xs.length).toArray.extract 0 xs.length).toList=List.range xs.length:=by simp
  simpa [b,c] using pp
 have nd:d'.toList.Nodup:=perm.nodup_iff.2 List.nodup_range
 have rng:∀j (h:j<d'.toList.length),d'.toList[j]<xs.length:=fun j h=>List.mem_range.1 (perm.mem_iff.1 (List.getElem_mem h))
 have ex:xJ xs=d'.toList.map (fun i=>xs.getD i []):=by
  have pm:=Oy perm xs [] rfl
  refine JU ((Ap xs).trans pm.symm) (JR xs) ?_
  rw[List.pairwise_map,List.pairwise_iff_getElem]
  intro i j hi hj hij
  have:=hsd i j (Nat.zero_le _) hij (by simpa [ls] using hj)
  rw[Di,decide_eq_false_iff_not]at this
  have gi:d'[i]! =d'.toList[i]:=by simp[getElem!_pos d' i (by simpa using hi)]
  have gj:d'[j]! =d'.toList[j]:=by simp[getElem!_pos d' j (by simpa using hj)]
  rw[gi,gj]at this
  exact this
 have sl:(xJ xs).length=xs.length:=(Ap xs).length_eq
 have hblk2:(sortWorld enc w g 0 m d' os).heap[g]? =some (.cells (putCells enc 0 d' cur) 45 (0,0)):=by
  unfold sortWorld
  rw[heap_grow_old _ _ (by simpa using hblk)]
  simp[putRow,mapBlock,Sort.ahead,Array.getElem?_modify,hh,onCells]
 have dsz:d'.size=xs.length:=by simpa using ls
 have hcs:(putCells enc 0 d' cur).toList.take xs.length=d'.toList.map enc:=by
  apply List.ext_getElem?
  intro j
  by_cases hj:j<xs.length
  ·rw[List.getElem?_take_of_lt hj,Array.getElem?_toList]
   have hj2:j<cur.size:=by omega
   have hj3:j<d'.size:=by omega
   simp[putCells,hj2,hj3]
  rw[List.getElem?_take_eq_none (by omega),List.getElem?_eq_none (by simp;omega)]
 refine⟨rfl,⟨fun k=>d'.toList.idxOf (f k),fun k hk=>trivial,d'.toList.map enc,⟨?_,.inr ⟨g,c,putCells enc 0 d' cur,?_,hg,hblk2,?_,?_,?_,?_⟩⟩,?_,fun j p hj=>?_⟩,?_,?_⟩
 ·rw[List.length_zipIdx,sl,hsz1];simp[dsz]
 ·rw[List.length_zipIdx,sl]
 ·rw[List.length_zipIdx,sl];exact hnc
 ·exact hm
 ·rw[hsz1,Nat.mul_one];simp[putCells];exact hsz
 ·rw[List.length_zipIdx,sl,hsz1,Nat.mul_one];exact hcs
 ·rw[List.length_zipIdx,sl,hsz1];simp[dsz]
 ·rw[hsz1,Nat.mul_one]
  rw[List.getElem?_zipIdx,Nat.zero_add]at hj
  obtain⟨x,hx,rfl⟩:=Option.map_eq_some_iff.1 hj
  have hj2:j<xs.length:=by
   have:=(List.getElem?_eq_some_iff.1 hx).1
   omega
  have hj3:j<d'.toList.length:=by omega
  rw[ex,List.getElem?_map,List.getElem?_eq_getElem hj3]at hx
  have hx:xs.getD d'.toList[j] []=x:=by simpa using hx
  obtain⟨v,ev,hv⟩:=hel2 d'.toList[j]
  have hv2:=za hv (grw m os d') (fun k hk e=>by injection e with e;exact hk.1 e)
  rw[hx]at hv2
  have e2:((d'.toList.map enc).drop j).take 1=[v]:=by
   rw[List.drop_eq_getElem_cons (by simpa using hj3)]
   simp[ev]at ev⊢
  rw[e2]
  refine⟨v,rfl,nK hv2 (fun k hk=>⟨⟨trivial,fun e=>?_⟩,?_⟩)⟩
  ·have:k=g:=by simpa [Value.ownBlock] using e
   exact hk.1 this
  show d'.toList.idxOf (f k)=j
  rw[hk.2 (rng j hj3)]
  exact List.Nodup.idxOf_getElem nd j hj3
 ·have:=grw m os d'
  simpa [Value.ownBlock] using this
 have hgr:=grw m os d'
 exact⟨hgr.os,hgr.tape,hgr.output,hgr.size,fun k hk=>hgr.block k (Nat.lt_trans (Nat.lt_of_lt_of_le hk hg) hblk) (fun e=>by injection e with e;omega)⟩
def Cb (k:Nat) (n:Int) (E:List S59) (a b:Int):Option (List (List Int)):=(qJ.f k n E [a] b []).bind fun t=>if t.length<4611686018427387904 then some (xJ t) else none
set_option maxHeartbeats 8000000 in
set_option maxRecDepth 100000 in
theorem Li (k:Nat) (a0_0:Int) (A0_1:Option Addr) (c0_1:Nat) (l0_1:List (S59)) (a1:Int) (a2:Int) (r:List (List Int)) (w:World) (hr0_1:Kd.C k59 w A0_1 l0_1.length l0_1) (hc0_1:l0_1.length<=c0_1) (h:Cb k a0_0 l0_1 a1 a2=some r):
  Calls Try.prog 112 #[.agg #[.int .i64 a0_0,.slice A0_1 l0_1.length c0_1],.int .i64 a1,.int .i64 a2] w fun e w'=>∃v0_:Value,e=.returned (v0_)/\Kd.S (Kd.slice 3 (Kd.int .i64)) 45 w' w.heap.size (fun _=>True) v0_ r/\Below w.heap.size w w':=by
 unfold Cb at h
 obtain⟨y1,hy1⟩:∃y_:List Int,y_=[a1]:=⟨_,rfl⟩
 obtain⟨y2,hy2⟩:∃y_:List (List Int),y_=[]:=⟨_,rfl⟩
 rw[←hy1,←hy2]at h
 obtain⟨t,ht,h⟩:=Option.bind_eq_some_iff.mp h
 by_cases c:t.length<4611686018427387904;rotate_left
 ·rw[if_neg c]at h
  exact absurd h (by simp)
 rw[if_pos c]at h
 obtain rfl:=Option.some.inj h
 have hu:=Try.underlying31
 have HR:=lm.mk hr0_1
 have HC:=lm.mk hc0_1
 have HT:=lm.mk ht
 have HL:=lm.mk c
 have N1:=lm.mk hy1
 have N2:=lm.mk hy2
 clear hr0_1 hc0_1 ht c hy1 hy2 h
 have HB:=lm.mk (Below.refl w.heap.size w)
 go_enter Try.func112,Try.ntmps112
 go_wp2_with (first
  |((with_reducible refine C_ (N:=3) rfl ?_);refine vI 3 #[.int .i64 a0_0,.slice A0_1 l0_1.length c0_1] 31 ?_;intro gb hg w1 nu hb;have n0_:=lm.mk (o6 (ny HB.out) hb);have n1_:=lm.mk nu;clear HB;revert n0_ n1_;intro HB BK;clear hb nu hg;have hcza_0:w1.cell? ⟨gb,0,none⟩=some (.int .i64 a0_0):=(qZ BK.out 0).trans rfl;have hcza_1:w1.cell? ⟨gb,1,none⟩=some (.slice A0_1 l0_1.length c0_1):=(qZ BK.out 1).trans rfl;have hfza_0:=qI BK.out 0;have hfza_1:=qI BK.out 1)
  |((with_reducible refine C_ (N:=10) rfl ?_);refine AJ (Kd.int .i64) _ 3 ?hg (N:=10) ?hd (xs:=([a1]:List Int)) (inner:=[.int .i64 a1]) (ok:=fun _=>True) (okp:=fun _=>True) ?hr ?hp (fun _ hk=>hk) trivial (Below.refl _ _) (Nat.le_refl _) (by simp) ?_;(case hd=>rfl);(case hg=>rfl);(case hr=>first|(go_simp;done)|(go_simp;rfl));(case hp=>exact(oF.one (show Kd.M (Kd.int .i64) _ _ _ a1 [.int .i64 a1] from rfl) (oF.none _ _)));intro v10 w2 ho hb hg_ pE;clear hg_ pE;rw[←N1.out]at ho;have n0_:=lm.mk (oJ ho (ou (ny HB.out)));have n1_:=lm.mk (o6 (ny HB.out) hb);clear HB;revert n0_ n1_;intro HO10 HB;clear hb ho;obtain⟨Ao,co,eo⟩:=nY HO10.out;subst eo)
  |((with_reducible refine C_ (N:=12) rfl ?_);refine Eg (Kd.slice 3 (Kd.int .i64)) _ 45 ?hg (N:=12) ?hd (xs:=([]:List (List Int))) (inner:=[]) (ok:=fun _=>True) (okp:=fun _=>True) ?hr ?hp (fun _ hk=>hk) trivial (Below.refl _ _) (Nat.le_refl _) (by simp) ?_;(case hd=>rfl);(case hg=>rfl);(case hr=>first|(go_simp;done)|(go_simp;rfl));(case hp=>exact(oF.none _ _));intro v12 w3 ho hb hg_ pE;clear hg_ pE;rw[←N2.out]at ho;have n0_:=lm.mk (AQ ho (ou (ny HB.out)));have n1_:=lm.mk (o6 (ny HB.out) hb);have n2_:=lm.mk (sW HO10.out hb);clear HB HO10;revert n0_ n1_ n2_;intro HO12 HB HO10;clear hb ho)
  |((with_reducible refine xg (f:=130) rfl ?_);refine wC (some 13) rfl rfl Try.func130 (by kernel_rfl) rfl #[.agg #[.int .i64 a0_0,.slice A0_1 l0_1.length c0_1],.slice Ao y1.length co,.int .i64 a2,v12] rfl (wS) ?_;(with_reducible refine(@qJ.calls k a0_0 A0_1 c0_1 l0_1 Ao co y1 a2 v12 y2 t w _ ?o7 ?o8 ?uZ ?u_ HT.out).mono ?_);(case o7=>exact HR.out);(case o8=>exact HC.out);(case uZ=>exact(ny HB.out));(case u_=>exact⟨HO10.out,HO12.out⟩);rintro e w5 ⟨v13,rfl,ho,hb,hg_,hat_⟩;refine⟨_,rfl,?_⟩;have n0_:=lm.mk ho;have n1_:=lm.mk hb;clear HB HO10 HO12;revert n0_ n1_;intro HO13 HB;clear hb ho hg_ hat_;obtain⟨As,cs,es⟩:=El HO13.out;subst es)
  |(go_at_call 131;(with_reducible refine(Ph HO13.out HL.out).mono ?_);rintro e w6 ⟨rfl,ho,hg,hb⟩;have n0_:=lm.mk ho;have n1_:=lm.mk (Below.trans HB.out hb);clear HB HO13;revert n0_ n1_;intro HO13 HB;clear ho hg hb))
 go_ret
 exact⟨_,by first|rfl|(simp[rz,rA]<;>rfl),HO13.out,HB.out⟩
end Go.Proofs.Ytgeonpciodepgaa.P
namespace Go.Proofs.Ytgeonpciodepgaa.P
set_option maxHeartbeats 8000000
set_option maxRecDepth 100000
open Go.RowKit Go.Proofs.YtgeonpciodepgaaW.PrintWords Go.Proofs.YtgeonpciodepgaaW.PrintLast Go.Proofs.YtgeonpciodepgaaW.PrintMore Go.Proofs.YtgeonpciodepgaaW.PrintWords.Kd Go.Proofs.YtgeonpciodepgaaW.PrintMore.Kd
attribute [local go_sem] wH wM wK wP wJ wO wI wN
def zB.f (k:Nat) (ab:Int) (aa:List (S59)) (a1:Int) (a2:Int):Option (List (List Int)):=Cb k ab aa a1 a2
theorem zB.calls {k:Nat}{ab:Int}{ac:Option Addr}{ae:Nat}{aa:List (S59)}{a1:Int}{a2:Int}{r:List (List Int)}{w:World}(af:Kd.C k59 w ac aa.length aa)(ag:aa.length<=ae)(h:zB.f k ab aa a1 a2=some r):
 Calls Try.prog 112 #[.agg #[.int .i64 ab,.slice ac aa.length ae],.int .i64 a1,.int .i64 a2] w fun e w'=>∃ah:Value,e=.returned (ah)/\Kd.S (Kd.slice 3 (Kd.int .i64)) 45 w' w.heap.size (fun _=>True) ah r/\Below w.heap.size w w':=Li k ab ac ae aa a1 a2 r w af ag h
end Go.Proofs.Ytgeonpciodepgaa.P
namespace Go.Proofs.Ytgeonpciodepgaa.P
open Go.RowKit Go.Proofs.YtgeonpciodepgaaW.PrintWords Go.Proofs.YtgeonpciodepgaaW.PrintLast Go.Proofs.Ytgeonpciodepgaa.G Go.Proofs.YtgeonpciodepgaaW.PrintWords.Kd
def vF (l:List G.Tie) (t:G.Tie):List G.Tie:=if rM l t.f0 t.f1=true then l else l++[t]
theorem Jf (w:World) (a b:Int):∀ (l:List G.Tie) (i j:Nat),rM l a b=true->
  ∃n,(Instr.findAsking 59 (.agg #[.int .i64 a,.int .i64 b]) (su i l) j).run Try.prog w=.ok (some (n,.bool true)) w/\j<=n/\l[n - j]? =some ⟨a,b⟩
 |[],i,j,h=>by simp[rM]at h
 |t::r,i,j,h=>by
  simp only [su,Instr.findAsking]
  have e:(Op.equal 59 (.agg #[.int .i64 a,.int .i64 b]) (yN t i).key).run Try.prog w=.ok (a==t.f0&&(b==t.f1)) w:=Jj w a t.f0 b t.f1
  cases c:(a==t.f0&&b==t.f1)
  ·rw[c]at e
   have h1:rM r a b=true:=by simpa [rM,c] using h
   obtain⟨n,hn,h2,h3⟩:=Jf w a b r (i+1) (j+1) h1
   refine⟨n,by simp[Sem.run_bind,e,Result.andThen,hn],by omega,?_⟩
   rw[show n - j=(n - (j+1))+1 by omega,List.getElem?_cons_succ]
   exact h3
  rw[c]at e
  simp only [Bool.and_eq_true,beq_iff_eq]at c
  refine⟨j,by simp[Sem.run_bind,e,Result.andThen];rfl,Nat.le_refl _,?_⟩
  rw[Nat.sub_self,c.1,c.2];rfl
theorem NG (w:World) (a b:Int) (l:List G.Tie) (h:rM l a b=true):
  ∃n,(Instr.findKey 59 (.agg #[.int .i64 a,.int .i64 b]) (su 0 l)).run Try.prog w=.ok (some (n,.bool true)) w/\l[n]? =some ⟨a,b⟩:=by
 obtain⟨n,hn,_,h3⟩:=Jf w a b l 0 0 h
 rw[Nat.sub_zero]at h3
 unfold Instr.findKey
 cases l with
 |nil=>simp[rM]at h
 |cons t r=>
  refine⟨n,?_,h3⟩
  simp[Sem.run_bind,run_underlying Try.underlying59,Result.andThen,Instr.findNow,su,Instr.sameNow]
  simpa [su] using hn
theorem Jg (t:G.Tie):∀ (l:List G.Tie) (i n:Nat),l[n]? =some t->(su i l)[n]? =some (yN t (i+n))
 |[],i,n,h=>by simp at h
 |x::r,i,0,h=>by simp at h;subst h;rfl
 |x::r,i,n+1,h=>by
  rw[List.getElem?_cons_succ]at h
  show(su (i+1) r)[n]? =_
  rw[Jg t r (i+1) n h]
  congr 2;omega
theorem NT {α:Type}(xs:Array α) (n:Nat) (f:α->α) (h:∀x,xs[n]? =some x->f x=x):xs.modify n f=xs:=by
 apply Array.ext
 ·simp
 intro i h1 h2
 rw[Array.getElem_modify]
 by_cases c:n=i
 ·subst c
  rw[if_pos rfl]
  exact h _ (by rw[Array.getElem?_eq_getElem h2])
 rw[if_neg c]
theorem Fv {w:World}{g:Nat}{l:List G.Tie}(hb:w.heap[g]? =some (qo l)) (t:G.Tie):
  ∃w1,(Instr.mapUpdate 69 (.map (some g)) (.agg #[.int .i64 t.f0,.int .i64 t.f1]) (.bool true)).run Try.prog w=.ok () w1/\w1.heap[g]? =some (qo (vF l t))/\w.grownBy w1 (some g):=by
 unfold vF
 by_cases h:rM l t.f0 t.f1=true;rotate_left
 ·have h':rM l t.f0 t.f1=false:=by simpa using h
  rw[if_neg h]
  exact Jl hb t h'
 rw[if_pos h]
 obtain⟨n,hf,hn⟩:=NG w t.f0 t.f1 l h
 have hg:=Jg t l 0 n hn
 refine⟨ChangeMaps.setBlock w g (qo l),?_,ChangeMaps.heap_setBlock_same hb _,⟨rfl,rfl,rfl,by simp[ChangeMaps.setBlock],fun i _ hi=>ChangeMaps.heap_setBlock_other hb _ (fun e=>hi (by rw[e]))⟩⟩
 have hsb:Instr.sameBits 10000 (.agg #[.int .i64 t.f0,.int .i64 t.f1]) (.agg #[.int .i64 t.f0,.int .i64 t.f1])=true:=by
  show Instr.sameBits (9999+1) (.agg #[.int .i64 t.f0,.int .i64 t.f1]) (.agg #[.int .i64 t.f0,.int .i64 t.f1])=true
  simp[Instr.sameBits]
 have hk:∀w,(Instr.keyThatStays (.agg #[.int .i64 t.f0,.int .i64 t.f1]) (.agg #[.int .i64 t.f0,.int .i64 t.f1])).run Try.prog w=.ok (.agg #[.int .i64 t.f0,.int .i64 t.f1]) w:=fun w=>by
  unfold Instr.keyThatStays
  rw[if_pos hsb];rfl
 have hm:(su 0 l).toArray.modify n (fun e=>{e with key:=.agg #[.int .i64 t.f0,.int .i64 t.f1],val:=.bool true})=(su 0 l).toArray:=NT _ _ _ (fun x hx=>by
  rw[List.getElem?_toArray,hg]at hx
  rw[←Option.some.inj hx]
  unfold yN;rfl)
 have hkey:(((su 0 l).toArray[n]?).map (·.key)).getD (.agg #[.int .i64 t.f0,.int .i64 t.f1])=.agg #[.int .i64 t.f0,.int .i64 t.f1]:=by
  rw[List.getElem?_toArray,hg];rfl
 have hb':w.heap[g]? =some (.map (su 0 l).toArray l.length):=hb
 show(Instr.mapUpdate 69 (.map (some g)) (.agg #[.int .i64 t.f0,.int .i64 t.f1]) (.bool true)).run Try.prog w=.ok () (ChangeMaps.setBlock w g (.map (su 0 l).toArray l.length))
 unfold Instr.mapUpdate
 simp only [Sem.run_bind,run_underlying Try.underlying69,Result.andThen_ok,MapKept.run_getObj_map hb',Dl,hf,hkey,hk,hm,MapKept.run_setObj_map _ hb']
 rfl
theorem NN {α:Type}{d:Kd α}{e base:Nat}{ok:Nat->Prop}{w:World}{v:Value}{xs:List α}{g:Nat}{l:List G.Tie}(h:Kd.S d e w base ok v xs) (hb:w.heap[g]? =some (qo l)):Kd.S d e w base (fun k=>ok k/\k≠g) v xs:=by
 obtain⟨f,h⟩:=h
 exact⟨f,Dm h hb⟩
section
variable {ops:Array Oper}{rest:List Oper}{o:Oper}{a:Act}{Q:Exit->Act->World->Prop}{W:World}{g:Nat}{l:List G.Tie}{x0 x1:Int}
theorem M0 {t:TypeId}{m k x:Operand}(_ho:o.op=.insert t m k x) (h:wpList Try.prog ops Q (o::rest) a W):wpList Try.prog ops Q (o::rest) a W:=h
theorem M3 {t:TypeId}{m k x:Operand}(_ho:o.op=.mapUpdate t m k x) (h:wpList Try.prog ops Q (o::rest) a W):wpList Try.prog ops Q (o::rest) a W:=h
theorem NH {m x v:Operand}(hop:o.op=.insert 69 m x v) (hb:W.heap[g]? =some (qo l))
  (h:∀w1,w1.heap[g]? =some (qo (vF l ⟨x0,x1⟩))->W.grownBy w1 (some g)->wpList Try.prog ops Q rest (a.put o.dst undef) w1)
  (hg:o.guard=none:=by rfl)
  (hm:a.eval m=.map (some g):=by rfl) (hx:a.eval x=.agg #[.int .i64 x0,.int .i64 x1]:=by rfl) (hv:a.eval v=.bool true:=by rfl):wpList Try.prog ops Q (o::rest) a W:=by
 refine wpList_plain hg fun K' hK'=>?_
 obtain⟨w1,hr,h1,h2⟩:=Fv hb ⟨x0,x1⟩
 unfold Oper.wp
 simp[execOp,hop,hm,hx,hv,hr,Result.andThen]
 exact hK' _ _ (h _ h1 h2)
theorem NL {Kc:Act->World->Prop}{m x v:Operand}(hop:o.op=.mapUpdate 69 m x v) (hb:W.heap[g]? =some (qo l)) (hw:Region.wanted o (yielded ops a.tmps)=true) (hN:o.dst=none)
  (hm:a.eval m=.map (some g)) (hx:a.eval x=.agg #[.int .i64 x0,.int .i64 x1]) (hv:a.eval v=.bool true)
  (h:∀w1,w1.heap[g]? =some (qo (vF l ⟨x0,x1⟩))->W.grownBy w1 (some g)->Kc a w1):if Region.wanted o (yielded ops a.tmps)=true then Oper.wp Try.prog o a W Kc Q else Kc (a.put none undef) W:=by
 obtain⟨w1,hr,h1,h2⟩:=Fv hb ⟨x0,x1⟩
 refine tF (w1:=w1) hw hN ?_ (h _ h1 h2)
 simp[execOp,hop,hm,hx,hv,hr,Result.andThen]
end
end Go.Proofs.Ytgeonpciodepgaa.P
namespace Go.Proofs.Ytgeonpciodepgaa.P
set_option maxHeartbeats 8000000
set_option maxRecDepth 100000
open Go.RowKit Go.Proofs.YtgeonpciodepgaaW.PrintWords Go.Proofs.YtgeonpciodepgaaW.PrintLast Go.Proofs.YtgeonpciodepgaaW.PrintMore Go.Proofs.YtgeonpciodepgaaW.PrintWords.Kd Go.Proofs.YtgeonpciodepgaaW.PrintMore.Kd
attribute [local go_sem] wH wM wK wP wJ wO wI wN
variable {p:Prop}
theorem Ii(h:p:=by exact pg a4.out):p:=h
theorem EX(h:p:=by exact uz (uz ac.out av.out _) av.out _):p:=h
theorem Ij(h:p:=by rw[hg];exact Nat.ne_of_lt (oU (g:=aq) (o:=.cells #[.int .i64 ao,.slice (some bu) ae.length ax] 31 (0,0)) (nE aa.out))):p:=h
theorem Ik(h:p:=by rw[hg];exact Nat.ne_of_gt (oU (g:=aq) (o:=.cells #[.int .i64 ao,.slice (some bu) ae.length ax] 31 (0,0)) (nE aa.out))):p:=h
theorem Il(h:p:=by rw[hg];exact Nat.ne_of_lt (oU (g:=aq) (o:=.cells #[.int .i64 ao,.slice aG ae.length ax] 31 (0,0)) (nE aa.out))):p:=h
theorem Im(h:p:=by rw[hg];exact Nat.ne_of_gt (oU (g:=aq) (o:=.cells #[.int .i64 ao,.slice aG ae.length ax] 31 (0,0)) (nE aa.out))):p:=h
theorem EY(h:p:=by rw[hg];exact Nat.ne_of_lt (oU (g:=am) (o:=.cells #[.int .i64 ai,.int .i64 aj] 59 (0,0)) (nE ab.out))):p:=h
theorem EW(h:p:=by rw[hg];exact Nat.ne_of_gt (oU (g:=am) (o:=.cells #[.int .i64 ai,.int .i64 aj] 59 (0,0)) (nE ab.out))):p:=h
theorem Be(h:p:=by(with_reducible repeat(first|apply ww|apply wy|apply vz));exact aw.out):p:=h
mutual
def qy.l0:Nat->List (List Int)->Int->Int->List (S59)->Int->List (S59)->Option ((List (S59)))
 |0,_,_,_,_,_,_=>none
 |k+1,bD,bU,bm,a_,a5,aH=>if bm<bU then(if 0<=bm then(if bm<(bD.length:Int) then(qy.l1 k (nL bD bm) 1 bD bU bm a_ a5 aH) else(none)) else(none)) else(qy.l2 k (([]:List (S59))) aH (aH.length:Int) 0 a_)
def qy.l1:Nat->List Int->Int->List (List Int)->Int->Int->List (S59)->Int->List (S59)->Option ((List (S59)))
 |0,_,_,_,_,_,_,_,_=>none
 |k+1,x7,x8,bD,bU,bm,a_,a5,aH=>if x8<(x7.length:Int) then(if 0<=(wrap64 (x8 - 1)) then(if(wrap64 (x8 - 1))<(x7.length:Int) then(if 0<=x8 then((vS.f (rd x7 (wrap64 (x8 - 1))) (rd x7 x8)).bind fun ba=>(qy.l1 k x7 (wrap64 (x8+1)) bD bU bm (vF a_ ⟨ba.1,ba.2⟩) a5 aH)) else(none)) else(none)) else(none)) else(qy.l0 k bD bU (wrap64 (bm+1)) a_ a5 aH)
def qy.l2:Nat->List (S59)->List (S59)->Int->Int->List (S59)->Option ((List (S59)))
 |0,_,_,_,_,_=>none
 |k+1,x9,bx,cF,bd,a_=>if bd<cF then(if 0<=bd then(if bd<(bx.length:Int) then(if rM a_ (nk bx bd).f0 (nk bx bd).f1=true then(if x9.length<8796093022208 then(qy.l2 k (x9++[(⟨(nk bx bd).f0,(nk bx bd).f1⟩:S59)]) bx cF (wrap64 (bd+1)) a_) else(none)) else(qy.l2 k x9 bx cF (wrap64 (bd+1)) a_)) else(none)) else(none)) else(some x9)
end
def qy.f (k:Nat) (ao:Int) (ae:List (S59)) (ai:Int) (aj:Int):Option ((List (S59))):=(uF.f k ao ae (([(⟨ai,aj⟩:S59)]:List (S59)))).bind fun aM=>((zB.f k aM.1 aM.2 ai aj).bind fun af=>(qy.l0 k af (af.length:Int) 0 (vF [] ⟨ai,aj⟩) ao ae))
def qy.T2:Bool×List (List Nat×List Nat):=(true,[([],[]),([],[]),([1],[1]),([0,2],[0,2]),([],[]),([4],[4]),([],[]),([6],[6]),([3,5,7,3],[3,5,7]),([8],[8]),([],[])])
def qy.B2:List Nat:=[0,0,2,7,0,16,0,64,255,511,0]
theorem qy.DI:qj .any (opsOf Try.f82 2)=qy.T2:=by kernel_rfl
theorem qy.Cg:qV qy.T2.2 qy.B2=true:=by kernel_rfl
def qy.T8:Bool×List (List Nat×List Nat):=(true,[([],[]),([],[]),([],[]),([2],[2]),([1,3],[1,3]),([4],[4]),([],[]),([],[]),([6,7],[6,7]),([8],[8]),([5,9],[5,9]),([0,10,10,0,1,2,3,4,5,6,7,8,9,10],[0,10])])
def qy.B8:List Nat:=[0,0,0,4,14,30,0,0,192,448,1022,2047]
theorem qy.vV:qj .any (opsOf Try.f82 8)=qy.T8:=by kernel_rfl
theorem qy.vP:qV qy.T8.2 qy.B8=true:=by kernel_rfl
theorem qy.calls {k:Nat}{ao:Int}{aG:Option Addr}{ax:Nat}{ae:List (S59)}{ai:Int}{aj:Int}{r:List (S59)}{w:World}(ce:Kd.C k59 w aG ae.length ae)(cf:ae.length<=ax)(h:qy.f k ao ae ai aj=some r):
  Calls Try.prog 82 #[.agg #[.int .i64 ao,.slice aG ae.length ax],.agg #[.int .i64 ai,.int .i64 aj]] w fun e w'=>∃dk:Value,e=.returned (dk)/\Kd.R k59 59 w' w.heap.size (fun _=>True) dk r/\Below w.heap.size w w':=by
 have el:=Try.underlying31;have em:=Try.underlying59;have bN:=dm ce;have cX:=dm cf;clear ce cf;have HB:=dm (Below.refl w.heap.size w);unfold qy.f at h;have H:=h;clear h;obtain⟨b7,bf⟩:∃y_:List (S59),y_=(([(⟨ai,aj⟩:S59)]:List (S59))):=⟨_,rfl⟩;replace H:((uF.f k ao ae b7).bind fun aM=>((zB.f k aM.1 aM.2 ai aj).bind fun af=>(qy.l0 k af (af.length:Int) 0 (vF [] ⟨ai,aj⟩) ao ae)))=some r:=pG bf H
 have cg:=dm bf;clear bf;obtain⟨⟨bO,bP⟩,A3,H⟩:=ow H;(try dsimp only at H);obtain⟨af,A4,H⟩:=ow H;(try dsimp only at H);have H':=dm H;clear H
 go_enter Try.func82,Try.ntmps82;try go_wp2_with (first|((with_reducible refine nU 2 rfl ?_);refine oI #[.int .i64 ao,.slice aG ae.length ax] 31 ?_;intro aq hg w5 nu hb;have aa:=dm (nu);have dO:=dm (nO:w.heap.size<=aq);have dP:=dm (nO:w.heap.size<=aq);replace HB:=nI HB hb;clear hb nu hg)|((with_reducible refine nU 3 rfl ?_);refine oI #[.int .i64 ai,.int .i64 aj] 59 ?_;intro am hg w6 nu hb;have ab:=dm (nu);have dQ:=dm (nO:w.heap.size<=am);have dR:=dm (nO:w.heap.size<=am);replace HB:=nI HB hb;have bn:=dm (Il:aq≠am);have bo:=dm (Im:am≠aq);replace aa:=nA aa hb;clear hb nu hg)|((with_reducible refine nU 12 rfl ?_);refine Fu 12 ?_;intro ak hg w7 nu hb;have ac:=dm (nu);have dS:=dm (nO:w.heap.size<=ak);have ch:=dm (nO:w.heap.size<=ak);replace HB:=nI HB hb;have aV:=dm (Il:aq≠ak);have bY:=dm (Im:ak≠aq);replace aa:=nA aa hb;have aW:=dm (EY:am≠ak);have bZ:=dm (EW:ak≠am);replace ab:=nA ab hb;clear hb nu hg;have en:=bo.out;have eo:=bn.out;have ep:=aW.out;have eq:=bZ.out;have⟨cu,cv,cw,cx⟩:=nJ (w:=w7) ab)|((with_reducible refine M0 (t:=69) (m:=.tmp 12) (k:=.tmp 13) (x:=.const (.bool true)) rfl ?_);refine NH (g:=ak) (l:=[]) (x0:=ai) (x1:=aj) rfl ac.out ?_;intro wm_ hm_ hgm_;replace aa:=dm (uY (g:=aq) (o:=.cells #[.int .i64 ao,.slice aG ae.length ax] 31 (0,0)) aa.out hgm_ (fun e_=>aV.out (Option.some.inj e_)));replace ab:=dm (uY (g:=am) (o:=.cells #[.int .i64 ai,.int .i64 aj] 59 (0,0)) ab.out hgm_ (fun e_=>aW.out (Option.some.inj e_)));replace ac:=dm hm_;replace HB:=dm (Dk (ny HB.out) hgm_ ch.out);clear hm_ hgm_))
 replace aa:=dm (oq aa.out);replace ab:=dm (oq ab.out);replace ac:=dm (oq ac.out);replace HB:=dm (pI HB.out);refine qc 11 (S:=fun w'=>w'.cell? ⟨aq,0,none⟩=some (.int .i64 ao)/\w'.cell? ⟨aq,1,none⟩=some (.slice aG ae.length ax)/\w'.cell? ⟨am,0,none⟩=some (.int .i64 ai)/\w'.cell? ⟨am,1,none⟩=some (.int .i64 aj)) [] ⟨nz aa 0,nz aa 1,nz ab 0,nz ab 1⟩ qy.DI qy.Cg (fun hHeld HT_ HW_=>?_);generalize wm_.drew=ex at aa ab ac HB hHeld⊢;refine lq 4 19 16 ?_;refine lq 6 21 80 ?_;refine lq 10 25 1104 ?_;refine nT 0 15 1105 ?_;refine nT 1 16 1107 ?_;refine nT 5 20 1139 ?_;refine nT 7 22 1267 ?_;refine oN 2 17 1271 (fun K hK=>?_);refine zR k59 _ 59 ?hg (N:=17) ?hd (xs:=([(⟨ai,aj⟩:S59)]:List (S59))) (inner:=[.int .i64 ai,.int .i64 aj]) (ok:=fun _=>True) (okp:=fun _=>True) ?hr ?hp (fun _ hk=>hk) trivial (Below.refl _ _) (Nat.le_refl _) (by simp) ?_;(case hd=>rfl);(case hg=>rfl);(case hr=>first|(go_simp;done)|(go_simp;rfl));(case hp=>exact(oF.c2 (show Kd.M k59 _ _ _ (⟨ai,aj⟩:S59) [.int .i64 ai,.int .i64 aj] from(uH _ _ _ (⟨ai,aj⟩:S59))) (oF.none _ _)));intro es ey bz hb hg_ pE;clear hg_ pE;(first|rw[←cg.out]at bz|(simp only [Int.reduceToNat]at bz;rw[←cg.out]at bz));have aC:=dm (oJ (yC (yC bz (g:=am) (o:=.cells #[.int .i64 ai,.int .i64 aj] 59 (0,0)) (nE ab.out)) (g:=ak) (o:=qo _) (nE ac.out)) (ou (ny HB.out)));replace aa:=nA aa hb;replace ab:=nA ab hb;replace ac:=nA ac hb;replace HB:=nI HB hb;clear hb bz;obtain⟨dl,dn,cG⟩:=nY aC.out;(first|subst cG|(injection cG with bp b3 bq;have b4:=bp.symm;have b5:=bq.symm;clear bp b3 bq;subst b4;subst b5));refine hK.out _ _ ⟨nz aa 0,nz aa 1,nz ab 0,nz ab 1⟩ (fun hHeld=>?_);clear hK K;refine nX 17 ?_;refine oN 3 18 1279 (fun K hK=>?_);refine qd Try.func66 (uF.calls (nS (oG bN.out HB.out)) cX.out (nS (nM aC.out).2.2) ((nM aC.out).2.1) A3.out) ?_;rintro e ez ⟨et,rfl,bE,hb⟩;refine⟨_,rfl,?_⟩;have a6:=dm (oJ (yC (yC (qf bE (oZ (nH aC.out))) (g:=am) (o:=.cells #[.int .i64 ai,.int .i64 aj] 59 (0,0)) (nE ab.out)) (g:=ak) (o:=qo _) (nE ac.out)) (ou (ny HB.out)));replace aC:=qD aC bE hb;replace aa:=nA aa hb;replace ab:=nA ab hb;replace ac:=nA ac hb;replace HB:=nI HB hb;(try clear hb bE);obtain⟨dq,dr,cH⟩:=nY a6.out;(first|subst cH|(injection cH with bp b3 bq;have b4:=bp.symm;have b5:=bq.symm;clear bp b3 bq;subst b4;subst b5));refine hK.out _ _ ⟨nz aa 0,nz aa 1,nz ab 0,nz ab 1⟩ (fun hHeld=>?_);clear hK K;refine nX 18 ?_;refine oN 8 23 1535 (fun K hK=>?_);refine qd Try.func112 (zB.calls (nS (nM a6.out).2.2) ((nM a6.out).2.1) A4.out) ?_;rintro e eA ⟨eu,rfl,bE,hb⟩;refine⟨_,rfl,?_⟩;replace aC:=oh aC hb;replace a6:=oh a6 hb;have ci:=dm (AQ bE (ou (ny HB.out)));replace aa:=nA aa hb;replace ab:=nA ab hb;replace ac:=nA ac hb;replace HB:=nI HB hb;(try clear hb bE);obtain⟨dt,cI,cJ⟩:=El ci.out;(first|subst cJ|(injection cJ with bp b3 bq;have b4:=bp.symm;have b5:=bq.symm;clear bp b3 bq;subst b4;subst b5));refine hK.out _ _ ⟨nz aa 0,nz aa 1,nz ab 0,nz ab 1⟩ (fun hHeld=>?_);clear hK K;refine nX 23 ?_;refine lq 9 24 2047 ?_;refine pY (p8 HT_.out (by kernel_rfl)) ?_;try go_wp2
 go_loopg [25] k (fun kq dH w'=>∃ (ah:Int) (az:List (S59)),dH=.int .i64 ah/\lm (qy.l0 kq af (af.length:Int) ah az ao ae=some r)/\lm (kq<=k)/\lm (Kd.S (Kd.slice 3 (Kd.int .i64)) 45 w' w.heap.size (fun _=>True) (.slice dt af.length cI) af)/\lm (w'.heap[aq]? =some (.cells #[.int .i64 ao,(.slice aG ae.length ax)] 31 (0,0)))/\lm (w'.heap[am]? =some (.cells #[.int .i64 ai,.int .i64 aj] 59 (0,0)))/\lm (w'.heap[ak]? =some (qo az))/\lm (Below w.heap.size w w'))
 case atStart=>exact⟨(0),(vF [] ⟨ai,aj⟩),(nQ),H',⟨Nat.le_refl _⟩,⟨by(with_reducible repeat(first|apply ww|apply wy|apply vz));exact ci.out⟩,⟨nE aa.out⟩,⟨nE ab.out⟩,⟨nE ac.out⟩,⟨ny HB.out⟩⟩
 case round=>
  clear H';(try clear cu cv cw cx);obtain⟨ah,az,rfl,HA,br,aw,aa,ab,ac,HB⟩:=hrel;cases gk with
  |zero=>exact absurd HA.out (by simp[qy.l0])
  |succ k1=>
   have H:=HA.out;clear HA;simp only [qy.l0]at H
   replace H:=pU H;rcases H with⟨bQ,H⟩|⟨bQ,H⟩
   ·skip
    obtain⟨cY,H⟩:=oC H
    obtain⟨cZ,H⟩:=oC H;have H':=dm H;clear H;have bA:0<=(ah:Int):=nC;have bB:ah<(af.length:Int):=nC;obtain⟨c_,cL,cM,du,bG,bH,bI⟩:=sK (Ej aw.out).2.2 ah bA bB;cases du;obtain⟨dT,cN,cO,b6⟩:=K7 aw.out [] ah bA (by first|exact bB|exact of_decide_eq_true (wz)|(have e_:=(Ej aw.out).1;omega));obtain⟨dx,rfl,bl⟩:=cO;have aQ:=b6 0 _ rfl;rw[Nat.add_zero,show((Kd.slice 3 (Kd.int .i64))).sz=1 from rfl,Nat.mul_one]at aQ;replace aQ:=Option.some.inj (aQ.symm.trans bG);rw[aQ]at bl;have cy:=dm (show Kd.R (Kd.int .i64) 3 _ _ _ _ (nL af ah) from bl);clear aQ bl;clear b6 cN;have ap:=dm bI;have dy:=dm bH;clear bI bH;replace bA:=eq_true bA;replace bB:=eq_true bB
    go_wp2
    go_loopg [8] k1 (fun kq v8 w'=>∃ (au:Int) (aN:List (S59)),v8=.int .i64 au/\lm (qy.l1 kq (nL af ah) au af (af.length:Int) ah aN ao ae=some r)/\lm (kq<=k1)/\lm (Kd.S (Kd.slice 3 (Kd.int .i64)) 45 w' w.heap.size (fun _=>True) (.slice (some c_) af.length cI) af)/\lm (w'.heap[aq]? =some (.cells #[.int .i64 ao,(.slice aG ae.length ax)] 31 (0,0)))/\lm (w'.heap[am]? =some (.cells #[.int .i64 ai,.int .i64 aj] 59 (0,0)))/\lm (w'.heap[ak]? =some (qo aN))/\lm (Kd.R (Kd.int .i64) 3 w' w.heap.size (fun _=>True) (.slice cL (nL af ah).length cM) (nL af ah))/\lm (Below w.heap.size w w'))
    case atStart=>exact⟨(1),(az),(nQ),H',⟨Nat.le_refl _⟩,⟨Be⟩,⟨nE aa.out⟩,⟨nE ab.out⟩,⟨nE ac.out⟩,⟨nK cy.out (fun _ _=>trivial)⟩,⟨ny HB.out⟩⟩
    case round=>
     clear H';(try clear bQ cY cZ bG bA bB);obtain⟨au,aN,rfl,HA,bh,aw,aa,ab,ac,ap,HB⟩:=hrel;cases gk with
     |zero=>exact absurd HA.out (by simp[qy.l1])
     |succ k2=>
      have H:=HA.out;clear HA;simp only [qy.l1]at H
      replace H:=pU H;rcases H with⟨db,H⟩|⟨db,H⟩
      ·obtain⟨ay,bv⟩:∃j_:Int,(wrap64 (au - 1))=j_:=⟨_,rfl⟩;replace H:(if 0<=(ay) then(if(ay)<((nL af ah).length:Int) then(if 0<=au then((vS.f (rd (nL af ah) (ay)) (rd (nL af ah) au)).bind fun ba=>(qy.l1 k2 (nL af ah) (wrap64 (au+1)) af (af.length:Int) ah (vF aN ⟨ba.1,ba.2⟩) ao ae)) else(none)) else(none)) else(none))=some r:=by first|(rw[bv]at H;exact H)|(simp only [bv]at H⊢;exact H)
       have dI:(IntKind.i64.wrap (au - 1))=ay:=(qP _).trans bv
       obtain⟨dU,H⟩:=oC H
       obtain⟨dV,H⟩:=oC H
       obtain⟨dW,H⟩:=oC H;obtain⟨⟨bR,bS⟩,dJ,H⟩:=ow H;(try dsimp only at H);have H':=dm H;clear H;try go_wp2
       replace aw:=dm (vz aw.out);replace aa:=dm (oq aa.out);replace ab:=dm (oq ab.out);replace ac:=dm (oq ac.out);replace ap:=dm (nP ap.out);replace HB:=dm (pI HB.out);have b8:0<=((ay):Int):=nC;have b9:(ay)<((nL af ah).length:Int):=nC;obtain⟨bT,dv,bK⟩:=oL (nM ap.out).2.2 (ay) b8 b9;have aI:=bK;cases dv;replace b8:=eq_true b8;replace b9:=eq_true b9;have b_:0<=(au:Int):=nC;have ca:au<((nL af ah).length:Int):=nC;obtain⟨dc,dw,bL⟩:=oL (nM ap.out).2.2 au b_ ca;have aK:=bL;obtain rfl:bT=dc:=(by injection dw);replace b_:=eq_true b_;replace ca:=eq_true ca;refine qc 12 (S:=fun w'=>w'.cell? (bT.add ((ay)).toNat)=some (.int .i64 (rd (nL af ah) (ay)))/\w'.cell? (bT.add (au).toNat)=some (.int .i64 (rd (nL af ah) au))) [11] ⟨aI,aK⟩ qy.vV qy.vP (fun hHeld HT_ HW_=>?_);generalize wr.drew=eB at aw aa ab ac ap HB bK bL aI aK hHeld⊢;refine lq 0 35 1 ?_;refine lq 1 36 3 ?_;refine lq 2 37 7 ?_;refine lq 3 38 15 ?_;refine lq 4 39 31 ?_;refine lq 6 41 95 ?_;refine lq 7 42 223 ?_;refine lq 8 43 479 ?_;refine nT 5 40 511 ?_;refine nT 9 44 1023 ?_;refine oN 10 45 2047 (fun K hK=>?_);refine uw Try.func53 (by kernel_rfl) rfl #[.int .i64 (rd (nL af ah) (ay)),.int .i64 (rd (nL af ah) au)] (by rfl) rfl rfl (by(try simp only [List.map_toArray,List.map_cons,List.map_nil]);first|done|(simp only [bv];rfl)|rfl|(simp only [List.length_drop,List.length_take];rfl)) ?_;refine(vS.calls dJ.out).mono ?_;rintro e eC ⟨rfl,hb⟩;replace aI:=(hb.cell (World.block_lt_of_cell? _ _ aI)).trans aI;replace aK:=(hb.cell (World.block_lt_of_cell? _ _ aK)).trans aK;refine⟨_,rfl,?_⟩;replace aw:=dm (ut (Be) hb);replace aa:=nA aa hb;replace ab:=nA ab hb;replace ac:=nA ac hb;replace ap:=dm (sW (nH ap.out) hb);replace HB:=nI HB hb;(try clear hb);refine hK.out _ _ ⟨aI,aK⟩ (fun hHeld=>?_);clear hK K;refine nX 45 ?_;refine uT 11 (none) (pQ 12 4095) (fun K hK=>?_);refine NL (g:=ak) (l:=aN) (x0:=bR) (x1:=bS) rfl ac.out (by rfl) rfl (by rfl) (by rfl) (by rfl) ?_;intro wm_ hm_ hgm_;refine hK.out _ _ ?_;clear hK K;refine pY (p8 HT_.out (by kernel_rfl)) ?_;have n0:=dm (uX (K8 (NN aw.out ac.out) hgm_ (fun k_ hk e_=>hk.2 (Option.some.inj e_))) (fun _ _=>trivial));have n1:=dm (uY (g:=aq) (o:=.cells #[.int .i64 ao,.slice aG ae.length ax] 31 (0,0)) aa.out hgm_ (fun e_=>aV.out (Option.some.inj e_)));have n2:=dm (uY (g:=am) (o:=.cells #[.int .i64 ai,.int .i64 aj] 59 (0,0)) ab.out hgm_ (fun e_=>aW.out (Option.some.inj e_)));have n3:=dm hm_;have n4:=dm (nK (za (Dm ap.out ac.out) hgm_ (fun k_ hk e_=>hk.2 (Option.some.inj e_))) (fun _ _=>trivial));have n5:=dm (Dk (ny HB.out) hgm_ ch.out);clear aw aa ab ac ap HB hm_ hgm_;revert n0 n1 n2 n3 n4 n5;intro aw aa ab ac ap HB;try go_wp2
       go_roundg k2
       case measure=>have:=br.out;have:=bh.out;omega
       case rel=>exact⟨(wrap64 (au+1)),(vF aN ⟨bR,bS⟩),(nQ),H',⟨by have:=br.out;have:=bh.out;omega⟩,⟨Be⟩,⟨nE aa.out⟩,⟨nE ab.out⟩,⟨nE ac.out⟩,⟨nH ap.out⟩,⟨ny HB.out⟩⟩
      have H':=dm H;clear H
      go_wp2
      go_roundg k2
      case measure=>have:=br.out;have:=bh.out;omega
      case rel=>exact⟨(wrap64 (ah+1)),(aN),(nQ),H',⟨by have:=br.out;have:=bh.out;omega⟩,⟨Be⟩,⟨nE aa.out⟩,⟨nE ab.out⟩,⟨nE ac.out⟩,⟨ny HB.out⟩⟩
   obtain⟨cP,bj⟩:∃y_:List (S59),y_=(([]:List (S59))):=⟨_,rfl⟩;replace H:(qy.l2 k1 cP ae (ae.length:Int) 0 az)=some r:=pG bj H
   have co:=dm bj;clear bj;have H':=dm H;clear H
   go_wp2_with (first|((with_reducible refine nU 47 rfl ?_);refine rZ k59 rfl 59 ([]:List (S59)) [] (oF.none _ _) ?_;intro ev dK bC hb hg_ pE;clear hg_ pE;(first|rw[←co.out]at bC|(simp only [Int.reduceToNat]at bC;rw[←co.out]at bC));replace aw:=dm (ut (Be) hb);have dd:=dm (oJ (yC (yC bC (g:=am) (o:=.cells #[.int .i64 ai,.int .i64 aj] 59 (0,0)) (nE ab.out)) (g:=ak) (o:=qo _) (nE ac.out)) (ou (ny HB.out)));replace aa:=nA aa hb;replace ab:=nA ab hb;replace ac:=nA ac hb;replace HB:=nI HB hb;clear hb bC;have dX:=bn.out;have dY:=bo.out;have dZ:=aV.out;have d7:=bY.out;have⟨cz,cA,cD,cE⟩:=nJ (w:=dK) aa))
   go_loopg [9,51] k1 (fun kq v9 dL w'=>∃ (a7:List (S59)) (ag:Int),dL=.int .i64 ag/\lm (qy.l2 kq a7 ae (ae.length:Int) ag az=some r)/\lm (kq<=k1)/\lm (Kd.R k59 59 w' w.heap.size (fun k_=>k_≠am/\k_≠ak) v9 a7)/\lm (w'.heap[aq]? =some (.cells #[.int .i64 ao,(.slice aG ae.length ax)] 31 (0,0)))/\lm (w'.heap[am]? =some (.cells #[.int .i64 ai,.int .i64 aj] 59 (0,0)))/\lm (w'.heap[ak]? =some (qo az))/\lm (Below w.heap.size w w'))
   case atStart=>exact⟨(cP),(0),(nQ),H',⟨Nat.le_refl _⟩,⟨by(with_reducible repeat(first|apply ol|apply om|apply nP));exact nK dd.out (fun _ hk=>⟨hk.1.2,hk.2⟩)⟩,⟨nE aa.out⟩,⟨nE ab.out⟩,⟨nE ac.out⟩,⟨ny HB.out⟩⟩
   case round=>
    clear H';(try clear bQ cz cA cD cE);obtain⟨a7,ag,rfl,HA,bh,aA,aa,ab,ac,HB⟩:=hrel;cases gk with
    |zero=>exact absurd HA.out (by simp[qy.l2])
    |succ k2=>
     have H:=HA.out;clear HA;simp only [qy.l2]at H
     replace H:=pU H;rcases H with⟨de,H⟩|⟨de,H⟩
     ·skip
      obtain⟨d8,H⟩:=oC H
      obtain⟨d9,H⟩:=oC H
      by_cases cr:rM az (nk ae ag).f0 (nk ae ag).f1=true
      ·rw[if_pos cr]at H
       obtain⟨ct,H⟩:=qh H;have df:=dm ct;clear ct;obtain⟨cQ,bk⟩:∃y_:List (S59),y_=(a7++[(⟨(nk ae ag).f0,(nk ae ag).f1⟩:S59)]):=⟨_,rfl⟩;replace H:(qy.l2 k2 cQ ae (ae.length:Int) (wrap64 (ag+1)) az)=some r:=pG bk H
       have dg:=dm bk;clear bk;have H':=dm H;clear H;have a8:0<=(ag:Int):=nC;have a9:ag<(ae.length:Int):=nC;obtain⟨bu,cd,aR,aT⟩:=qA bN.out ag a8 a9;cases cd;replace aR:=nG HB aR;replace aT:=nG HB aT;replace a8:=eq_true a8;replace a9:=eq_true a9
       go_wp2_with (first|((with_reducible refine nU 57 rfl ?_);refine Ag 57 (g:=ak) (l:=az) (x0:=(nk ae ag).f0) (x1:=(nk ae ag).f1) (b:=true) (uz (uz ac.out av.out _) av.out _) cr ?_)|((with_reducible refine nU 11 rfl ?_);refine oI #[.int .i64 0,.int .i64 0] 59 ?_;intro al hg dM nu hb;have n0:=dm (sW (yB (nH aA.out) al (Nat.le_of_eq hg.symm)) hb);have n1:=nA aa hb;have n2:=nA ab hb;have n3:=nA ac hb;have n4:=nI HB hb;have n5:=dm (nu);have n6:=dm (nO:w.heap.size<=al);have n7:=dm (nO:w.heap.size<=al);have n8:=dm (Ij:aq≠al);have n9:=dm (Ik:al≠aq);have cS:=dm (EY:am≠al);have cT:=dm (EW:al≠am);have cU:=dm ((by rw[hg];exact Nat.ne_of_lt (oU (g:=ak) (o:=qo _) (nE ac.out)):ak≠al));have cW:=dm ((by rw[hg];exact Nat.ne_of_gt (oU (g:=ak) (o:=qo _) (nE ac.out)):al≠ak));clear aA aa ab ac HB;revert n0 n1 n2 n3 n4 n5 n6 n7 n8 n9 cS cT cU cW;intro aA aa ab ac HB a4 dh di aE aX aD aY av aZ;clear hb nu hg;have d_:=aX.out;have ea:=aE.out;have eb:=aY.out;have ec:=aD.out;have ed:=aZ.out;have ee:=av.out;have⟨dz,dA,dB,dC⟩:=nJ (w:=dM) a4)|((with_reducible refine rR (b:=.append) (xs:= #[.tmp 58,.tmp 60]) rfl ?_);at_builtin;refine sU k59 (w0:=w) w.heap.size rfl (.tmp 58) (.tmp 60) 29 59 (.agg #[(.int .i64 0),(.int .i64 0)]) 16 rfl Try.underlying29 uS rfl (by decide) (by omega) u9 a7 (⟨(nk ae ag).f0,(nk ae ag).f1⟩:S59) [.int .i64 ((nk ae ag).f0),.int .i64 ((nk ae ag).f1)] (fun k_=>k_≠am/\k_≠ak/\k_≠al) (fun _=>False) rfl (by first|(go_simp;done)|(go_simp;rfl)) ?aP (fun _ hk=>hk.elim) ?aF ?aO ?aB ?aS ?aL ?_;(case aP=>exact uH _ _ _ (⟨(nk ae ag).f0,(nk ae ag).f1⟩:S59));(case aB=>exact(ny HB.out));(case aF=>exact(fun k_ hk=>⟨rG (g:=am) (o:=.cells #[.int .i64 ai,.int .i64 aj] 59 (0,0)) (zl) k_ hk,rG (g:=ak) (o:=qo _) (EX) k_ hk,rG (g:=al) (o:=.cells #[.int .i64 ((nk ae ag).f0),.int .i64 ((nk ae ag).f1)] 59 (0,0)) (Ii) k_ hk⟩));(case aO=>exact(by(with_reducible repeat(first|apply ol|apply om|apply nP));exact nK (nR (p:=⟨al,1,none⟩) (nR (p:=⟨al,0,none⟩) (nK aA.out (fun k_ hk=>(⟨hk,hk.2⟩:_/\k_≠al))) (fun _ hk=>hk.2) (.int .i64 ((nk ae ag).f0))) (fun _ hk=>hk.2) (.int .i64 ((nk ae ag).f1))) (fun _ hk=>⟨hk.1.1.1,⟨hk.1.1.2,hk.1.2⟩⟩)));(case aS=>exact(ou (ny HB.out)));(case aL=>have:=df.out;omega);intro ew eD ho hb hg hat;rw[←dg.out]at ho;have n0:=dm (uY (g:=aq) (o:=.cells #[.int .i64 ao,.slice (some bu) ae.length ax] 31 (0,0)) (rq) hg (pM aA.out aa.out (by decide)));have n1:=dm (uY (g:=am) (o:=.cells #[.int .i64 ai,.int .i64 aj] 59 (0,0)) (zl) hg (xM aA.out (fun _ hk=>hk.1.1)));have n2:=dm (uY (g:=ak) (o:=qo _) (EX) hg (xM aA.out (fun _ hk=>hk.1.2)));have n3:=dm (uY (g:=al) (o:=.cells #[.int .i64 ((nk ae ag).f0),.int .i64 ((nk ae ag).f1)] 59 (0,0)) (Ii) hg (xM aA.out (fun _ hk=>hk.2)));have n4:=dm (hb);have n5:=dm (ho);clear aa ab ac a4 HB aA;revert n0 n1 n2 n3 n4 n5;intro aa ab ac a4 HB dj;clear ho hb hg hat))
       go_roundg k2
       case measure=>have:=br.out;have:=bh.out;omega
       case rel=>exact⟨(cQ),(wrap64 (ag+1)),(nQ),H',⟨by have:=br.out;have:=bh.out;omega⟩,⟨by(with_reducible repeat(first|apply ol|apply om|apply nP));exact nK dj.out (fun _ hk=>⟨hk.1,hk.2.1⟩)⟩,⟨nE aa.out⟩,⟨nE ab.out⟩,⟨nE ac.out⟩,⟨ny HB.out⟩⟩
      rw[if_neg cr]at H;have H':=dm H;clear H;have a8:0<=(ag:Int):=nC;have a9:ag<(ae.length:Int):=nC;obtain⟨bu,cd,aR,aT⟩:=qA bN.out ag a8 a9;cases cd;replace aR:=nG HB aR;replace aT:=nG HB aT;replace a8:=eq_true a8;replace a9:=eq_true a9
      go_wp2_with (first|((with_reducible refine nU 57 rfl ?_);refine Ag 57 (g:=ak) (l:=az) (x0:=(nk ae ag).f0) (x1:=(nk ae ag).f1) (b:=false) (uz (uz ac.out av.out _) av.out _) (Bool.eq_false_iff.mpr cr) ?_)|((with_reducible refine nU 11 rfl ?_);refine oI #[.int .i64 0,.int .i64 0] 59 ?_;intro al hg dN nu hb;have n0:=dm (sW (yB (nH aA.out) al (Nat.le_of_eq hg.symm)) hb);have n1:=nA aa hb;have n2:=nA ab hb;have n3:=nA ac hb;have n4:=nI HB hb;have n5:=dm (nu);have n6:=dm (nO:w.heap.size<=al);have n7:=dm (nO:w.heap.size<=al);have n8:=dm (Ij:aq≠al);have n9:=dm (Ik:al≠aq);have cS:=dm (EY:am≠al);have cT:=dm (EW:al≠am);have cU:=dm ((by rw[hg];exact Nat.ne_of_lt (oU (g:=ak) (o:=qo _) (nE ac.out)):ak≠al));have cW:=dm ((by rw[hg];exact Nat.ne_of_gt (oU (g:=ak) (o:=qo _) (nE ac.out)):al≠ak));clear aA aa ab ac HB;revert n0 n1 n2 n3 n4 n5 n6 n7 n8 n9 cS cT cU cW;intro aA aa ab ac HB a4 dh di aE aX aD aY av aZ;clear hb nu hg;have ef:=aX.out;have eg:=aE.out;have eh:=aY.out;have ei:=aD.out;have ej:=aZ.out;have ek:=av.out;have⟨dD,dE,dF,dG⟩:=nJ (w:=dN) a4))
      go_roundg k2
      case measure=>have:=br.out;have:=bh.out;omega
      case rel=>exact⟨(a7),(wrap64 (ag+1)),(nQ),H',⟨by have:=br.out;have:=bh.out;omega⟩,⟨by(with_reducible repeat(first|apply ol|apply om|apply nP));exact nK (nR (p:=⟨al,1,none⟩) (nR (p:=⟨al,0,none⟩) (nK aA.out (fun k_ hk=>(⟨hk,hk.2⟩:_/\k_≠al))) (fun _ hk=>hk.2) (.int .i64 ((nk ae ag).f0))) (fun _ hk=>hk.2) (.int .i64 ((nk ae ag).f1))) (fun _ hk=>⟨hk.1.1.1,hk.1.1.2⟩)⟩,⟨rq⟩,⟨zl⟩,⟨EX⟩,⟨ny HB.out⟩⟩
     obtain rfl:=Option.some.inj H
     go_wp2
     go_ret
     exact⟨_,qC,by(with_reducible repeat(first|apply ol|apply om|apply nP));exact nK aA.out (fun _ hk=>trivial),ny HB.out⟩
end Go.Proofs.Ytgeonpciodepgaa.P
namespace Go.Proofs.Ytgeonpciodepgaa.P
open Go.RowKit Go.Proofs.YtgeonpciodepgaaW.PrintWords Go.Proofs.YtgeonpciodepgaaW.PrintLast Go.Proofs.Ytgeonpciodepgaa.G Go.Proofs.YtgeonpciodepgaaW.PrintWords.Kd
section
variable {ops:Array Oper}{rest:List Oper}{o:Oper}{a:Act}{Q:Exit->Act->World->Prop}{W:World}{g:Nat}{l:List G.Tie}{x0 x1:Int}
theorem NP {m x v:Operand}(hop:o.op=.mapUpdate 69 m x v) (hb:W.heap[g]? =some (qo l))
  (h:∀w1,w1.heap[g]? =some (qo (vF l ⟨x0,x1⟩))->W.grownBy w1 (some g)->wpList Try.prog ops Q rest (a.put o.dst undef) w1)
  (hg:o.guard=none:=by rfl)
  (hm:a.eval m=.map (some g):=by rfl) (hx:a.eval x=.agg #[.int .i64 x0,.int .i64 x1]:=by rfl) (hv:a.eval v=.bool true:=by rfl):wpList Try.prog ops Q (o::rest) a W:=by
 refine wpList_plain hg fun K' hK'=>?_
 obtain⟨w1,hr,h1,h2⟩:=Fv hb ⟨x0,x1⟩
 unfold Oper.wp
 simp[execOp,hop,hm,hx,hv,hr,Result.andThen]
 exact hK' _ _ (h _ h1 h2)
end
def kv:Kd Int where
 sz:=1
 E:=[]
 K:=fun _ _ cs=>∃v:Value,cs=[v]/\v.oneCell'=true
 M:=fun _ _ _ _ cs=>∃v:Value,cs=[v]/\v.oneCell'=true
 K_len:=by rintro _ _ _ ⟨v,rfl,_⟩;rfl
 K_one:=by
  rintro _ _ _ ⟨v,rfl,h⟩ u hu
  rw[List.mem_singleton.1 hu];exact h
 K_below:=fun _ h=>h
 K_of_M:=fun h=>h
 M_mono:=fun _ h=>h
 M_bound:=fun h=>h
 M_move:=fun _ h=>h
 M_lower:=fun _ h=>h
theorem kvS {e base:Nat}{ok:Nat->Prop}{w:World}{v:Value}{xs:List Int}(h:kv.R e w base ok v xs):Kd.S kv e w base ok v xs:=by
 obtain⟨h0,inner,ho,hr⟩:=h
 refine⟨fun _=>0,h0,inner,by rw[List.length_zipIdx];exact ho,by rw[List.length_zipIdx];exact hr.1,fun j p hj=>?_⟩
 rw[List.getElem?_zipIdx]at hj
 obtain⟨x,hx,rfl⟩:=Option.map_eq_some_iff.1 hj
 exact hr.2 j x hx
end Go.Proofs.Ytgeonpciodepgaa.P
namespace Go.Proofs.Ytgeonpciodepgaa.P
set_option maxHeartbeats 8000000
set_option maxRecDepth 100000
open Go.RowKit Go.Proofs.YtgeonpciodepgaaW.PrintWords Go.Proofs.YtgeonpciodepgaaW.PrintLast Go.Proofs.YtgeonpciodepgaaW.PrintMore Go.Proofs.YtgeonpciodepgaaW.PrintWords.Kd Go.Proofs.YtgeonpciodepgaaW.PrintMore.Kd
attribute [local go_sem] wH wM wK wP wJ wO wI wN
variable {p:Prop}
theorem EZ(h:p:=by exact uz (uz ae.out ao.out _) ao.out _):p:=h
theorem E5(h:p:=by rw[hg];exact Nat.ne_of_lt (oU (g:=aj) (o:=.cells #[.int .i64 ag,.slice (some aI) aa.length au] 31 (0,0)) (nE ab.out))):p:=h
theorem E8(h:p:=by rw[hg];exact Nat.ne_of_gt (oU (g:=aj) (o:=.cells #[.int .i64 ag,.slice (some aI) aa.length au] 31 (0,0)) (nE ab.out))):p:=h
theorem E9(h:p:=by rw[hg];exact Nat.ne_of_lt (oU (g:=ak) (o:=qo _) (nE ae.out))):p:=h
theorem E_(h:p:=by rw[hg];exact Nat.ne_of_gt (oU (g:=ak) (o:=qo _) (nE ae.out))):p:=h
mutual
def sO.l0:Nat->List Int->List (S59)->Int->Int->List (S59)->Int->List (S59)->Option (List Int)
 |0,_,_,_,_,_,_,_=>none
 |k+1,x3,aY,a8,aN,a9,aA,aC=>if aN<a8 then(if 0<=aN then(if aN<(aY.length:Int) then(if rM a9 (nk aY aN).f0 (nk aY aN).f1=true then(sO.l0 k x3 aY a8 (wrap64 (aN+1)) a9 aA aC) else((qy.f k aA aC ((nk aY aN).f0) ((nk aY aN).f1)).bind fun am=>(sO.l1 k x3 aY a8 aN am (am.length:Int) 0 a9 aA aC))) else(none)) else(none)) else(some x3)
def sO.l1:Nat->List Int->List (S59)->Int->Int->List (S59)->Int->Int->List (S59)->Int->List (S59)->Option (List Int)
 |0,_,_,_,_,_,_,_,_,_,_=>none
 |k+1,x3,aY,a8,aN,bx,ci,a_,a9,aA,aC=>if a_<ci then(if 0<=a_ then(if a_<(bx.length:Int) then(sO.l1 k x3 aY a8 aN bx ci (wrap64 (a_+1)) (vF a9 ⟨(nk bx a_).f0,(nk bx a_).f1⟩) aA aC) else(none)) else(none)) else(if x3.length<5864062014805 then(sO.l0 k (x3++[55]) aY a8 (wrap64 (aN+1)) a9 aA aC) else(none))
end
def sO.f (k:Nat) (ag:Int) (aa:List (S59)):Option (List Int):=(some (([]:List Int):List Int)).bind fun aw=>((qL.f k ag aa).bind fun aQ=>(if aQ=true then(sO.l0 k aw aa (aa.length:Int) 0 ([]:List (S59)) ag aa) else(some aw)))
theorem sO.calls {k:Nat}{ag:Int}{aK:Option Addr}{au:Nat}{aa:List (S59)}{r:List Int}{w:World}(bz:Kd.C k59 w aK aa.length aa)(bA:aa.length<=au)(h:sO.f k ag aa=some r):
  Calls Try.prog 42 #[.agg #[.int .i64 ag,.slice aK aa.length au]] w fun e w'=>∃cj:Value,e=.returned (cj)/\Kd.S kv 29 w' w.heap.size (fun _=>True) cj r/\Below w.heap.size w w':=by
 have dv:=Try.underlying31;have dw:=Try.underlying59;have aZ:=dm bz;have bh:=dm bA;clear bz bA;have HB:=dm (Below.refl w.heap.size w);unfold sO.f at h;have H:=h;clear h;obtain⟨aw,a2⟩:∃y_:List Int,y_=(([]:List Int)):=⟨_,rfl⟩;replace H:((qL.f k ag aa).bind fun aQ=>(if aQ=true then(sO.l0 k aw aa (aa.length:Int) 0 ([]:List (S59)) ag aa) else(some aw)))=some r:=pG a2 H
 have a5:=dm a2;clear a2;obtain⟨aQ,A2,H⟩:=ow H;(try dsimp only at H)
 rcases pW H with⟨h_,H_⟩|⟨h_,H_⟩<;> (subst h_;clear H;have H:=H_;clear H_)
 ·have H':=dm H;clear H
  go_enter Try.func42,Try.ntmps42
  go_wp2_with (first|((with_reducible refine nU 1 rfl ?_);refine oI #[.int .i64 ag,.slice aK aa.length au] 31 ?_;intro aj hg w4 nu hb;have ab:=dm (nu);have b6:=dm (nO:w.heap.size<=aj);have b7:=dm (nO:w.heap.size<=aj);replace HB:=nI HB hb;clear hb nu hg)|((with_reducible refine nU 10 rfl ?_);refine rZ kv rfl 29 ([]:List Int) [] (oF.none _ _) ?_;intro cm w5 bl hb hg_ pE;clear hg_ pE;(first|rw[←a5.out]at bl|(simp only [Int.reduceToNat]at bl;rw[←a5.out]at bl));have aq:=dm (oJ bl (ou (ny HB.out)));replace ab:=nA ab hb;replace HB:=nI HB hb;clear hb bl;have⟨bW,bX,bY,bZ⟩:=nJ (w:=w5) ab)|((with_reducible refine og 50 rfl ?_);refine rH 12 rfl Try.func50 (qL.calls (nS (oG aZ.out HB.out)) bh.out A2.out) ?_;intro w8 hb;replace aq:=oh aq hb;replace ab:=nA ab hb;replace HB:=nI HB hb;(try clear hb))|((with_reducible refine nU 15 rfl ?_);refine Fu 15 ?_;intro ak hg w9 nu hb;replace aq:=oh aq hb;have ae:=dm (nu);have cS:=dm (nO:w.heap.size<=ak);have b8:=dm (nO:w.heap.size<=ak);replace HB:=nI HB hb;have aR:=dm ((by rw[hg];exact Nat.ne_of_lt (oU (g:=aj) (o:=.cells #[.int .i64 ag,.slice aK aa.length au] 31 (0,0)) (nE ab.out)):aj≠ak));have a4:=dm ((by rw[hg];exact Nat.ne_of_gt (oU (g:=aj) (o:=.cells #[.int .i64 ag,.slice aK aa.length au] 31 (0,0)) (nE ab.out)):ak≠aj));replace ab:=nA ab hb;clear hb nu hg;have cT:=aR.out;have cU:=a4.out;have⟨bK,bL,bM,bN⟩:=nJ (w:=w9) ab))
  go_loopg [3,19] k (fun kq v3 cG w'=>∃ (aH:List Int) (ac:Int) (az:List (S59)),cG=.int .i64 ac/\lm (sO.l0 kq aH aa (aa.length:Int) ac az ag aa=some r)/\lm (kq<=k)/\lm (Kd.R kv 29 w' w.heap.size (fun _=>True) v3 aH)/\lm (w'.heap[aj]? =some (.cells #[.int .i64 ag,(.slice aK aa.length au)] 31 (0,0)))/\lm (w'.heap[ak]? =some (qo az))/\lm (Below w.heap.size w w'))
  case atStart=>exact⟨(aw),(0),([]),(nQ),H',⟨Nat.le_refl _⟩,⟨nH aq.out⟩,⟨nE ab.out⟩,⟨nE ae.out⟩,⟨ny HB.out⟩⟩
  case round=>
   clear H';(try clear c3 bK bL bW bX bM bN bY bZ);obtain⟨aH,ac,az,rfl,HA,ba,al,ab,ae,HB⟩:=hrel;cases gk with
   |zero=>exact absurd HA.out (by simp[sO.l0])
   |succ k1=>
    have H:=HA.out;clear HA;simp only [sO.l0]at H
    replace H:=pU H;rcases H with⟨bB,H⟩|⟨bB,H⟩
    ·skip
     obtain⟨b9,H⟩:=oC H
     obtain⟨b_,H⟩:=oC H
     by_cases bm:rM az (nk aa ac).f0 (nk aa ac).f1=true
     ·rw[if_pos bm]at H;have H':=dm H;clear H;have aT:0<=(ac:Int):=nC;have aU:ac<(aa.length:Int):=nC;obtain⟨aI,br,aD,aE⟩:=qA aZ.out ac aT aU;cases br;replace aD:=nG HB aD;replace aE:=nG HB aE;replace aT:=eq_true aT;replace aU:=eq_true aU
      go_wp2_with (first|((with_reducible refine nU 25 rfl ?_);refine Ag 25 (g:=ak) (l:=az) (x0:=(nk aa ac).f0) (x1:=(nk aa ac).f1) (b:=true) (uz (uz ae.out ao.out _) ao.out _) bm ?_)|((with_reducible refine nU 6 rfl ?_);refine oI #[.int .i64 0,.int .i64 0] 59 ?_;intro af hg cH nu hb;have n0:=oh al hb;have n1:=nA ab hb;have n2:=nA ae hb;have n3:=nI HB hb;have n4:=dm (nu);have n5:=dm (nO:w.heap.size<=af);have n6:=dm (nO:w.heap.size<=af);have n7:=dm (E5:aj≠af);have n8:=dm (E8:af≠aj);have n9:=dm (E9:ak≠af);have bn:=dm (E_:af≠ak);clear al ab ae HB;revert n0 n1 n2 n3 n4 n5 n6 n7 n8 n9 bn;intro al ab ae HB ah ca cd ax aV ao aG;clear hb nu hg;have cW:=aV.out;have cX:=ax.out;have cY:=aG.out;have cZ:=ao.out;have⟨cp,cq,cr,ct⟩:=nJ (w:=cH) ah))
      go_roundg k1
      case measure=>have:=ba.out;omega
      case rel=>exact⟨(aH),(wrap64 (ac+1)),(az),(nQ),H',⟨by have:=ba.out;omega⟩,⟨by(with_reducible repeat(first|apply ol|apply om|apply nP));exact nK (nR (p:=⟨af,1,none⟩) (nR (p:=⟨af,0,none⟩) (oO al.out ah.out (by decide)) (fun _ hk=>hk.2) (.int .i64 ((nk aa ac).f0))) (fun _ hk=>hk.2) (.int .i64 ((nk aa ac).f1))) (fun _ hk=>trivial)⟩,⟨zl⟩,⟨EZ⟩,⟨ny HB.out⟩⟩
     rw[if_neg bm]at H;obtain⟨am,cI,H⟩:=ow H;(try dsimp only at H);have H':=dm H;clear H;have aT:0<=(ac:Int):=nC;have aU:ac<(aa.length:Int):=nC;obtain⟨aI,br,aD,aE⟩:=qA aZ.out ac aT aU;cases br;replace aD:=nG HB aD;replace aE:=nG HB aE;replace aT:=eq_true aT;replace aU:=eq_true aU
     go_wp2_with (first|((with_reducible refine nU 25 rfl ?_);refine Ag 25 (g:=ak) (l:=az) (x0:=(nk aa ac).f0) (x1:=(nk aa ac).f1) (b:=false) (uz (uz ae.out ao.out _) ao.out _) (Bool.eq_false_iff.mpr bm) ?_)|((with_reducible refine nU 6 rfl ?_);refine oI #[.int .i64 0,.int .i64 0] 59 ?_;intro af hg ck nu hb;have n0:=oh al hb;have n1:=nA ab hb;have n2:=nA ae hb;have n3:=nI HB hb;have n4:=dm (nu);have n5:=dm (nO:w.heap.size<=af);have n6:=dm (nO:w.heap.size<=af);have n7:=dm (E5:aj≠af);have n8:=dm (E8:af≠aj);have n9:=dm (E9:ak≠af);have bn:=dm (E_:af≠ak);clear al ab ae HB;revert n0 n1 n2 n3 n4 n5 n6 n7 n8 n9 bn;intro al ab ae HB ah ca cd ax aV ao aG;clear hb nu hg;have c_:=aV.out;have db:=ax.out;have dc:=aG.out;have dd:=ao.out;have⟨bO,bP,bQ,bR⟩:=nJ (w:=ck) ah;have de:=aR.out;have df:=a4.out;have⟨bS,bT,bU,bV⟩:=nJ (w:=ck) ab)|((with_reducible refine og 82 rfl ?_);refine oV 28 rfl Try.func82 (qy.calls (oG aZ.out (ny HB.out)) bh.out cI.out) ?_;rintro e dz ⟨dx,rfl,cl,hb⟩;refine⟨_,rfl,?_⟩;replace al:=dm (sW (by(with_reducible repeat(first|apply ol|apply om|apply nP));exact(nK (nR (p:=⟨af,1,none⟩) (nR (p:=⟨af,0,none⟩) (oO al.out ah.out (by decide)) (fun _ hk=>hk.2) (.int .i64 ((nk aa ac).f0))) (fun _ hk=>hk.2) (.int .i64 ((nk aa ac).f1))) (fun _ h_=>h_.1))) hb);have bE:=dm (oJ (yC (yC cl (g:=ak) (o:=qo _) (EZ)) (g:=af) (o:=.cells #[.int .i64 ((nk aa ac).f0),.int .i64 ((nk aa ac).f1)] 59 (0,0)) (uk)) (ou (ny HB.out)));replace ab:=dm (rF (g:=aj) (o:=.cells #[.int .i64 ag,.slice (some aI) aa.length au] 31 (0,0)) (zl) hb);replace ae:=dm (rF (g:=ak) (o:=qo _) (EZ) hb);replace ah:=dm (rF (g:=af) (o:=.cells #[.int .i64 ((nk aa ac).f0),.int .i64 ((nk aa ac).f1)] 59 (0,0)) (uk) hb);replace HB:=nI HB hb;(try clear hb cl);obtain⟨b3,b4,cn⟩:=nY bE.out;subst cn))
     go_loopg [31] k1 (fun kq cJ w'=>∃ (ai:Int) (aM:List (S59)),cJ=.int .i64 ai/\lm (sO.l1 kq aH aa (aa.length:Int) ac am (am.length:Int) ai aM ag aa=some r)/\lm (kq<=k1)/\lm (Kd.R kv 29 w' w.heap.size (fun _=>True) u3 aH)/\lm (Kd.R k59 59 w' w.heap.size (fun k_=>k_≠ak/\k_≠af) (.slice b3 am.length b4) am)/\lm (w'.heap[aj]? =some (.cells #[.int .i64 ag,(.slice (some aI) aa.length au)] 31 (0,0)))/\lm (w'.heap[ak]? =some (qo aM))/\lm (w'.heap[af]? =some (.cells #[.int .i64 ((nk aa ac).f0),.int .i64 ((nk aa ac).f1)] 59 (0,0)))/\lm (Below w.heap.size w w'))
     case atStart=>exact⟨(0),(az),(nQ),H',⟨Nat.le_refl _⟩,⟨nH al.out⟩,⟨by(with_reducible repeat(first|apply ol|apply om|apply nP));exact nK bE.out (fun _ hk=>⟨hk.1.2,hk.2⟩)⟩,⟨nE ab.out⟩,⟨nE ae.out⟩,⟨nE ah.out⟩,⟨ny HB.out⟩⟩
     case round=>
      clear H';(try clear bB b9 b_ bm bO bP bS bT bQ bR bU bV aD aE aT aU);obtain⟨ai,aM,rfl,HA,bF,al,av,ab,ae,ah,HB⟩:=hrel;cases gk with
      |zero=>exact absurd HA.out (by simp[sO.l1])
      |succ k2=>
       have H:=HA.out;clear HA;simp only [sO.l1]at H
       replace H:=pU H;rcases H with⟨ce,H⟩|⟨ce,H⟩
       ·skip
        obtain⟨dg,H⟩:=oC H
        obtain⟨dh,H⟩:=oC H;have H':=dm H;clear H;have bu:0<=(ai:Int):=nC;have bv:ai<(am.length:Int):=nC;obtain⟨di,co,cu,cv⟩:=qA (nM av.out).2.2 ai bu bv;cases co;replace bu:=eq_true bu;replace bv:=eq_true bv
        go_wp2_with (first|((with_reducible refine nU 9 rfl ?_);refine oI #[.int .i64 0,.int .i64 0] 59 ?_;intro ap hg cL nu hb;have n0:=oh al hb;have n1:=dm (sW (yB (nH av.out) ap (Nat.le_of_eq hg.symm)) hb);have n2:=nA ab hb;have n3:=nA ae hb;have n4:=nA ah hb;have n5:=nI HB hb;have n6:=dm (nu);have n7:=dm (nO:w.heap.size<=ap);have n8:=dm (nO:w.heap.size<=ap);have n9:=dm (E5:aj≠ap);have bn:=dm (E8:ap≠aj);have cM:=dm (E9:ak≠ap);have cN:=dm (E_:ap≠ak);have cO:=dm ((by rw[hg];exact Nat.ne_of_lt (oU (g:=af) (o:=.cells #[.int .i64 ((nk aa ac).f0),.int .i64 ((nk aa ac).f1)] 59 (0,0)) (nE ah.out)):af≠ap));have cP:=dm ((by rw[hg];exact Nat.ne_of_gt (oU (g:=af) (o:=.cells #[.int .i64 ((nk aa ac).f0),.int .i64 ((nk aa ac).f1)] 59 (0,0)) (nE ah.out)):ap≠af));clear al av ab ae ah HB;revert n0 n1 n2 n3 n4 n5 n6 n7 n8 n9 bn cM cN cO cP;intro al av ab ae ah HB bI dj dk aW bo ay bp aX bq;clear hb nu hg;have dl:=bo.out;have dn:=aW.out;have dq:=bp.out;have dr:=ay.out;have dt:=bq.out;have du:=aX.out;have⟨cw,cx,cy,cz⟩:=nJ (w:=cL) bI)|((with_reducible refine M3 (t:=69) (m:=.tmp 35) (k:=.tmp 36) (x:=.const (.bool true)) rfl ?_);refine NP (g:=ak) (l:=aM) (x0:=(nk am ai).f0) (x1:=(nk am ai).f1) rfl (uz (uz ae.out ay.out _) ay.out _) ?_;intro wm_ hm_ hgm_;replace al:=dm (nK (za (Dm (by(with_reducible repeat(first|apply ol|apply om|apply nP));exact nK (nR (p:=⟨ap,1,none⟩) (nR (p:=⟨ap,0,none⟩) (oO al.out bI.out (by decide)) (fun _ hk=>hk.2) (.int .i64 ((nk am ai).f0))) (fun _ hk=>hk.2) (.int .i64 ((nk am ai).f1))) (fun _ hk=>trivial)) (uz (uz ae.out ay.out _) ay.out _)) hgm_ (fun k_ hk e_=>hk.2 (Option.some.inj e_))) (fun _ _=>trivial));replace av:=dm (za (ok:=fun k_=>k_≠ak/\k_≠af) (by(with_reducible repeat(first|apply ol|apply om|apply nP));exact nK (nR (p:=⟨ap,1,none⟩) (nR (p:=⟨ap,0,none⟩) (nK av.out (fun k_ hk=>(⟨hk,hk.2⟩:_/\k_≠ap))) (fun _ hk=>hk.2) (.int .i64 ((nk am ai).f0))) (fun _ hk=>hk.2) (.int .i64 ((nk am ai).f1))) (fun _ hk=>⟨hk.1.1.1,hk.1.1.2⟩)) hgm_ (fun k_ hk e_=>hk.1 (Option.some.inj e_)));replace ab:=dm (uY (g:=aj) (o:=.cells #[.int .i64 ag,.slice (some aI) aa.length au] 31 (0,0)) (pg ab.out) hgm_ (fun e_=>aR.out (Option.some.inj e_)));replace ae:=dm hm_;replace ah:=dm (uY (g:=af) (o:=.cells #[.int .i64 ((nk aa ac).f0),.int .i64 ((nk aa ac).f1)] 59 (0,0)) (pg ah.out) hgm_ (fun e_=>aG.out (Option.some.inj e_)));replace HB:=dm (Dk (ny HB.out) hgm_ b8.out);clear hm_ hgm_))
        go_roundg k2
        case measure=>have:=ba.out;have:=bF.out;omega
        case rel=>exact⟨(wrap64 (ai+1)),(vF aM ⟨(nk am ai).f0,(nk am ai).f1⟩),(nQ),H',⟨by have:=ba.out;have:=bF.out;omega⟩,⟨nH al.out⟩,⟨nH av.out⟩,⟨nE ab.out⟩,⟨nE ae.out⟩,⟨nE ah.out⟩,⟨ny HB.out⟩⟩
       skip
       obtain⟨bJ,H⟩:=qh H;have cf:=dm bJ;clear bJ;obtain⟨b5,a3⟩:∃y_:List Int,y_=(aH++[55]):=⟨_,rfl⟩;replace H:(sO.l0 k2 b5 aa (aa.length:Int) (wrap64 (ac+1)) aM ag aa)=some r:=pG a3 H
       have cg:=dm a3;clear a3;have H':=dm H;clear H
       go_wp2_with (first|((with_reducible refine rR (b:=.append) (xs:= #[.tmp 38,.tmp 40]) rfl ?_);at_builtin;refine sU kv (w0:=w) w.heap.size rfl (.tmp 38) (.tmp 40) 62 29 (.slice none 0 0) 24 rfl Try.underlying62 Na rfl (by decide) (by omega) u3 aH 55 [.slice b3 am.length b4] (fun _=>True) (fun _=>False) rfl rfl ?aP (fun _ hk=>hk.elim) ?aF ?aO ?aB ?aS ?aL ?_;(case aP=>exact Exists.intro _ (And.intro rfl rfl));(case aB=>exact(ny HB.out));(case aF=>exact(fun _ _=>trivial));(case aO=>exact(nH al.out));(case aS=>exact(ou (ny HB.out)));(case aL=>have:=cf.out;omega);intro dy dA ho hb hg hat;rw[←cg.out]at ho;have n0:=dm (sI (nH av.out) (sJ (nH al.out)) (by decide) hg);have n1:=pF ab hg (pM al.out ab.out (by decide));have n2:=pF ae hg (mNe al.out ae.out);have n3:=pF ah hg (pM al.out ah.out (by decide));have n4:=dm (hb);have n5:=dm (ho);clear av ab ae ah HB al;revert n0 n1 n2 n3 n4 n5;intro av ab ae ah HB ch;clear ho hb hg hat))
       go_roundg k2
       case measure=>have:=ba.out;have:=bF.out;omega
       case rel=>exact⟨(b5),(wrap64 (ac+1)),(aM),(nQ),H',⟨by have:=ba.out;have:=bF.out;omega⟩,⟨nH ch.out⟩,⟨nE ab.out⟩,⟨nE ae.out⟩,⟨ny HB.out⟩⟩
    obtain rfl:=Option.some.inj H
    go_wp2
    go_ret
    exact⟨_,qC,kvS (nH al.out),ny HB.out⟩
 obtain rfl:=Option.some.inj H
 go_enter Try.func42,Try.ntmps42
 go_wp2_with (first|((with_reducible refine nU 1 rfl ?_);refine oI #[.int .i64 ag,.slice aK aa.length au] 31 ?_;intro aj hg dB nu hb;have ab:=dm (nu);have b6:=dm (nO:w.heap.size<=aj);have b7:=dm (nO:w.heap.size<=aj);replace HB:=nI HB hb;clear hb nu hg)|((with_reducible refine nU 10 rfl ?_);refine rZ kv rfl 29 ([]:List Int) [] (oF.none _ _) ?_;intro cm cQ a7 hb hg_ pE;clear hg_ pE;(first|rw[←a5.out]at a7|(simp only [Int.reduceToNat]at a7;rw[←a5.out]at a7));have aq:=dm (oJ a7 (ou (ny HB.out)));replace ab:=nA ab hb;replace HB:=nI HB hb;clear hb a7;have⟨cA,cD,cE,cF⟩:=nJ (w:=cQ) ab)|((with_reducible refine og 50 rfl ?_);refine rH 12 rfl Try.func50 (qL.calls (nS (oG aZ.out HB.out)) bh.out A2.out) ?_;intro dC hb;replace aq:=oh aq hb;replace ab:=nA ab hb;replace HB:=nI HB hb;(try clear hb)))
 go_ret
 exact⟨_,qC,kvS (nH aq.out),ny HB.out⟩
theorem Hz(h:p:=by(with_reducible repeat(first|apply uL|apply uM|apply uD));exact(qG (vv (p:=⟨aq,1,none⟩) (vv (p:=⟨aq,0,none⟩) (qG aj.out (fun k_ hk=>(⟨hk,hk.2⟩:_/\k_≠aq))) (fun _ hk=>hk.2) (.int .i64 ah)) (fun _ hk=>hk.2) (.slice ap ac.length ao)) (fun _ h_=>h_.1))):p:=h
theorem HV(h:p:=by(with_reducible repeat(first|apply ol|apply om|apply nP));exact(nK (nR (p:=⟨aq,1,none⟩) (nR (p:=⟨aq,0,none⟩) (oO ak.out ag.out (by decide)) (fun _ hk=>hk.2) (.int .i64 ah)) (fun _ hk=>hk.2) (.slice ap ac.length ao)) (fun _ h_=>h_.1))):p:=h
theorem z_(h:p:=by(with_reducible repeat(first|apply uL|apply uM|apply uD));exact au.out):p:=h
def vD.j0:Nat->List (List Int)->Bool->Bool->Bool->Int->List (S59)->Option (Bool)
 |0,_,_,_,_,_,_=>none
 |k+1,x4,x5,x6,b_,aI,aK=>if b_=true then((pV.f k aI aK x4).bind fun av=>(if(x5==av)=true then((uC.f k x4).bind fun aC=>(some (x6==aC))) else(some false))) else((rX.f k aI aK).bind fun aw=>(if(aw.length:Int)=0 then((sO.f k aI aK).bind fun aD=>(some ((aD.length:Int)==1))) else(some false)))
def vD.f (k:Nat) (l0:List Int):Option (Bool):=if(l0.length:Int)>1048576 then(some true) else((zI.f k l0).bind fun ai=>((Ae.f k ai.1 ai.2.1 ai.2.2).bind fun aa=>((uE.f k ai.2.2).bind fun ab=>((pV.f k ai.1 ai.2.1 ai.2.2).bind fun am=>(if(aa !=am)=true then(vD.j0 k ai.2.2 aa ab true ai.1 ai.2.1) else((uC.f k ai.2.2).bind fun al=>(if(ab !=al)=true then(vD.j0 k ai.2.2 aa ab true ai.1 ai.2.1) else(if aa=true then(vD.j0 k ai.2.2 aa ab (!ab) ai.1 ai.2.1) else(vD.j0 k ai.2.2 aa ab true ai.1 ai.2.1)))))))))
theorem vD.calls (k:Nat) (A0:Option Addr) (c0:Nat) (l0:List Int) (r:Bool) (w:World) (bd:Kd.C (Kd.int .u8) w A0 l0.length l0) (bf:l0.length<=c0) (h:vD.f k l0=some r):
  Calls Try.prog 13 #[.slice A0 l0.length c0] w fun e w'=>e=.returned (.bool r)/\Below w.heap.size w w':=by
 have co:=Try.underlying31;have ca:=dm bd;have cd:=dm bf;clear bd bf;have HB:=dm (Below.refl w.heap.size w);unfold vD.f at h;have H:=h;clear h
 by_cases c2:(l0.length:Int)>1048576
 ·rw[if_pos c2]at H;have aS:=decide_eq_true c2;have aT:decide (1048576<l0.length)=true:=decide_eq_true (by omega);clear c2;obtain rfl:=Option.some.inj H
  go_enter Try.func13,Try.ntmps13
  go_wp2
  go_ret
  exact⟨qM,ny HB.out⟩
 rw[if_neg c2]at H;have aS:=decide_eq_false c2;have aT:decide (1048576<l0.length)=false:=decide_eq_false (by omega);clear c2;obtain⟨⟨ah,ac,ae⟩,A3,H⟩:=ow H;(try dsimp only at H);obtain⟨aa,A4,H⟩:=ow H;(try dsimp only at H);obtain⟨ab,A5,H⟩:=ow H;(try dsimp only at H);have aU:=dm H;clear H
 go_enter Try.func13,Try.ntmps13
 go_upto_region 6 with(first|((with_reducible refine og 27 rfl ?_);refine oV 12 rfl Try.func27 (zI.calls (nS ca.out) cd.out A3.out) ?_;rintro e w7 ⟨bk,cp,rfl,ay,ho1,hb⟩;refine⟨_,rfl,?_⟩;have ak:=dm (oJ (nK (ok':=fun k_=>True) ay (fun _ hk_=>trivial)) (ou (ny HB.out)));have aj:=dm (xw (qG (ok':=fun k_=>some k_≠(bk:Value).ownBlock) ho1 (fun k_ hk_=>hk_.2)) (ou (ny HB.out)));replace HB:=nI HB hb;(try clear hb ay ho1))|((with_reducible refine nU 3 rfl ?_);(try(refine rT (by rfl) ?_;dsimp only));refine vI 3 #[.int .i64 0,.slice none 0 0] 31 ?_;intro aq hg w8 nu hb;replace ak:=oh ak hb;replace aj:=dm (wZ (KM (sM) aq (Nat.le_of_eq hg.symm)) hb);have ag:=dm (nu);have ci:=dm ((by rw[hg];exact(ou (ny HB.out)):w.heap.size<=aq));have cj:=dm ((by rw[hg];exact(ou (ny HB.out)):w.heap.size<=aq));replace HB:=nI HB hb;clear hb nu hg;have⟨aV,aW,aX,aY⟩:=nJ (w:=w8) ag;obtain⟨ap,ao,bl⟩:=nY ak.out;subst bl;obtain⟨az,ax,bm⟩:=xX aj.out;subst bm)|((with_reducible refine og 19 rfl ?_);refine vY 17 Try.func19 #[.agg #[.int .i64 ah,.slice ap ac.length ao],.slice az ae.length ax] ?_;(with_reducible refine(Ae.calls ?o7 ?o8 ?uZ ?u_ A4.out).mono ?_);(case o7=>refine(nM (e:=59) (base:=w.heap.size) (ok:=fun k_=>True) (n:=ac.length) (c:=ao) ?_).2.2;exact(HV));(case o8=>exact(nM ak.out).2.1);(case uZ=>refine(rf (e:=45) (base:=w.heap.size) (ok:=fun k_=>(some k_≠(.slice ap ac.length ao:Value).ownBlock/\k_≠aq)) (n:=ae.length) (c:=ax) ?_).2.2;exact(Hz));(case u_=>exact(rf aj.out).2.1);rintro e aO ⟨rfl,hb⟩;refine⟨_,rfl,?_⟩;replace ak:=dm (sW (HV) hb);replace aj:=dm (wZ (Hz) hb);replace ag:=dm (rF (g:=aq) (o:=.cells #[.int .i64 ah,.slice ap ac.length ao] 31 (0,0)) (pg ag.out) hb);replace HB:=nI HB hb;(try clear hb))|((with_reducible refine og 29 rfl ?_);refine vY 19 Try.func29 #[.slice az ae.length ax] ?_;(with_reducible refine(uE.calls ?o7 ?o8 A5.out).mono ?_);(case o7=>repeat(first|exact(rf aj.out).2.2|(with_reducible refine uh ?_ _)|(with_reducible refine uj ?_ _)|(with_reducible refine ui ?_)));(case o8=>exact(rf aj.out).2.1);rintro e w' ⟨rfl,⟨nd,rfl⟩⟩;refine⟨_,rfl,?_⟩))
 (try simp only [Act.put,List.setIfInBounds_toArray,List.set_cons_zero,List.set_cons_succ])
 go_cut [38] (fun ce wc=>∃ (kq:Nat) (aM:Bool),ce=.bool aM/\lm (vD.j0 kq ae aa ab aM ah ac=some r)/\lm (kq<=k)/\lm (Kd.N (Kd.slice 3 (Kd.int .i64)) 45 wc w.heap.size (fun k_=>some k_≠((.slice ap ac.length ao):Value).ownBlock/\k_≠aq) (.slice az ae.length ax) ae)/\lm (Kd.R k59 59 wc w.heap.size (fun _=>True) (.slice ap ac.length ao) ac)/\lm (wc.heap[aq]? =some (.cells #[.int .i64 ah,(.slice ap ac.length ao)] 31 (0,0)))/\lm (Below w.heap.size w wc))
 case first=>
  have H:=aU.out;clear aU;obtain⟨am,aP,H⟩:=ow H;(try dsimp only at H)
  by_cases aE:(aa !=am)=true
  ·rw[if_pos aE]at H;have aH:(aa !=am)=true:=aE;(try(have a1:decide (aa=am)=false:=by simpa using aE));(try(have a2:(aa==am)=false:=by simpa using aE));(try(have ck:¬ (aa=am):=by simpa using aE));clear aE;(first|rw[aH]|(simp only [qP,si];rw[aH])|skip);have H':=dm H;clear H;have⟨bv,bx,bz,bA⟩:=nJ (w:=aO) ag
   go_wp2_with (first|((with_reducible refine og 16 rfl ?_);refine vY 23 Try.func16 #[.agg #[.int .i64 ah,.slice ap ac.length ao],.slice az ae.length ax] ?_;(with_reducible refine(pV.calls ?o7 ?o8 ?uZ ?u_ aP.out).mono ?_);(case o7=>exact nS (nM ak.out).2.2);(case o8=>exact(nM ak.out).2.1);(case uZ=>repeat(first|exact(rf aj.out).2.2|(with_reducible refine uh ?_ _)|(with_reducible refine uj ?_ _)|(with_reducible refine ui ?_)));(case u_=>exact(rf aj.out).2.1);rintro e cw ⟨rfl,hb⟩;refine⟨_,rfl,?_⟩;replace ak:=oh ak hb;replace aj:=dm (wZ (sM) hb);replace ag:=nA ag hb;replace HB:=nI HB hb;(try clear hb)))
   go_meet
   case rel=>exact⟨_,(true),(by first|rfl|(simp;done)|(simp[*];done)),H',⟨by first|omega|exact Nat.le_refl _⟩,⟨sM⟩,⟨nH ak.out⟩,⟨nE ag.out⟩,⟨ny HB.out⟩⟩
  rw[if_neg aE]at H;have aH:(aa !=am)=false:=by simpa using aE
  (try(have a1:decide (aa=am)=true:=by simpa using aE));(try(have a2:(aa==am)=true:=by simpa using aE));clear aE;(first|rw[aH]|(simp only [qP,si];rw[aH])|skip);obtain⟨al,aZ,H⟩:=ow H;(try dsimp only at H)
  by_cases aF:(ab !=al)=true
  ·rw[if_pos aF]at H;have a3:(ab !=al)=true:=aF;(try(have a4:decide (ab=al)=false:=by simpa using aF));(try(have a5:(ab==al)=false:=by simpa using aF));(try(have cl:¬ (ab=al):=by simpa using aF));clear aF;have H':=dm H;clear H;have⟨bB,bC,bD,bE⟩:=nJ (w:=aO) ag
   go_wp2_with (first|((with_reducible refine og 16 rfl ?_);refine vY 23 Try.func16 #[.agg #[.int .i64 ah,.slice ap ac.length ao],.slice az ae.length ax] ?_;(with_reducible refine(pV.calls ?o7 ?o8 ?uZ ?u_ aP.out).mono ?_);(case o7=>exact nS (nM ak.out).2.2);(case o8=>exact(nM ak.out).2.1);(case uZ=>repeat(first|exact(rf aj.out).2.2|(with_reducible refine uh ?_ _)|(with_reducible refine uj ?_ _)|(with_reducible refine ui ?_)));(case u_=>exact(rf aj.out).2.1);rintro e cx ⟨rfl,hb⟩;refine⟨_,rfl,?_⟩;replace ak:=oh ak hb;replace aj:=dm (wZ (sM) hb);replace ag:=nA ag hb;replace HB:=nI HB hb;(try clear hb))|(go_at_call 40;(with_reducible refine(uC.calls ?o7 ?o8 aZ.out).mono ?_);(case o7=>repeat(first|exact(rf aj.out).2.2|(with_reducible refine uh ?_ _)|(with_reducible refine uj ?_ _)|(with_reducible refine ui ?_)));(case o8=>exact(rf aj.out).2.1);rintro e w' ⟨rfl,⟨nd,rfl⟩⟩))
   go_meet
   case rel=>exact⟨_,(true),(by first|rfl|(simp;done)|(simp[*];done)),H',⟨by first|omega|exact Nat.le_refl _⟩,⟨sM⟩,⟨nH ak.out⟩,⟨nE ag.out⟩,⟨ny HB.out⟩⟩
  rw[if_neg aF]at H;have a3:(ab !=al)=false:=by simpa using aF
  (try(have a4:decide (ab=al)=true:=by simpa using aF));(try(have a5:(ab==al)=true:=by simpa using aF));clear aF
  rcases pW H with⟨h_,H_⟩|⟨h_,H_⟩<;> (subst h_;clear H;have H:=H_;clear H_)
  ·have H':=dm H;clear H;have⟨bF,bG,bH,bI⟩:=nJ (w:=aO) ag
   go_wp2_with (first|((with_reducible refine og 16 rfl ?_);refine vY 23 Try.func16 #[.agg #[.int .i64 ah,.slice ap ac.length ao],.slice az ae.length ax] ?_;(with_reducible refine(pV.calls ?o7 ?o8 ?uZ ?u_ aP.out).mono ?_);(case o7=>exact nS (nM ak.out).2.2);(case o8=>exact(nM ak.out).2.1);(case uZ=>repeat(first|exact(rf aj.out).2.2|(with_reducible refine uh ?_ _)|(with_reducible refine uj ?_ _)|(with_reducible refine ui ?_)));(case u_=>exact(rf aj.out).2.1);rintro e cy ⟨rfl,hb⟩;refine⟨_,rfl,?_⟩;replace ak:=oh ak hb;replace aj:=dm (wZ (sM) hb);replace ag:=nA ag hb;replace HB:=nI HB hb;(try clear hb))|(go_at_call 40;(with_reducible refine(uC.calls ?o7 ?o8 aZ.out).mono ?_);(case o7=>repeat(first|exact(rf aj.out).2.2|(with_reducible refine uh ?_ _)|(with_reducible refine uj ?_ _)|(with_reducible refine ui ?_)));(case o8=>exact(rf aj.out).2.1);rintro e w' ⟨rfl,⟨nd,rfl⟩⟩))
   go_meet
   case rel=>exact⟨_,(!ab),(by first|rfl|(simp;done)|(simp[*];done)),H',⟨by first|omega|exact Nat.le_refl _⟩,⟨sM⟩,⟨nH ak.out⟩,⟨nE ag.out⟩,⟨ny HB.out⟩⟩
  have H':=dm H;clear H;have⟨bJ,bK,bL,bM⟩:=nJ (w:=aO) ag
  go_wp2_with (first|((with_reducible refine og 16 rfl ?_);refine vY 23 Try.func16 #[.agg #[.int .i64 ah,.slice ap ac.length ao],.slice az ae.length ax] ?_;(with_reducible refine(pV.calls ?o7 ?o8 ?uZ ?u_ aP.out).mono ?_);(case o7=>exact nS (nM ak.out).2.2);(case o8=>exact(nM ak.out).2.1);(case uZ=>repeat(first|exact(rf aj.out).2.2|(with_reducible refine uh ?_ _)|(with_reducible refine uj ?_ _)|(with_reducible refine ui ?_)));(case u_=>exact(rf aj.out).2.1);rintro e cz ⟨rfl,hb⟩;refine⟨_,rfl,?_⟩;replace ak:=oh ak hb;replace aj:=dm (wZ (sM) hb);replace ag:=nA ag hb;replace HB:=nI HB hb;(try clear hb))|(go_at_call 40;(with_reducible refine(uC.calls ?o7 ?o8 aZ.out).mono ?_);(case o7=>repeat(first|exact(rf aj.out).2.2|(with_reducible refine uh ?_ _)|(with_reducible refine uj ?_ _)|(with_reducible refine ui ?_)));(case o8=>exact(rf aj.out).2.1);rintro e w' ⟨rfl,⟨nd,rfl⟩⟩))
  go_meet
  case rel=>exact⟨_,(true),(by first|rfl|(simp;done)|(simp[*];done)),H',⟨by first|omega|exact Nat.le_refl _⟩,⟨sM⟩,⟨nH ak.out⟩,⟨nE ag.out⟩,⟨ny HB.out⟩⟩
 case rest=>
  clear aU;(try clear aS aT aV aW aX aY);obtain⟨kq,aM,rfl,HA,cA,au,af,ag,HB⟩:=hcut;cases kq with
  |zero=>exact absurd HA.out (by simp[vD.j0])
  |succ aB=>
   have H:=HA.out;clear HA;simp only [vD.j0]at H
   rcases pW H with⟨h_,H_⟩|⟨h_,H_⟩<;> (subst h_;clear H;have H:=H_;clear H_)
   ·obtain⟨av,bh,H⟩:=ow H;(try dsimp only at H)
    by_cases aG:(aa==av)=true
    ·rw[if_pos aG]at H;have a6:(aa==av)=true:=aG;(try(have a7:decide (aa=av)=true:=by simpa using aG));(try(have a8:(aa==av)=true:=by simpa using aG));clear aG;obtain⟨aC,cf,H⟩:=ow H;(try dsimp only at H);obtain rfl:=Option.some.inj H;have⟨bN,bO,bP,bQ⟩:=nJ (w:=wc) ag
     go_wp2_with (first|((with_reducible refine og 16 rfl ?_);refine vY 42 Try.func16 #[.agg #[.int .i64 ah,.slice ap ac.length ao],.slice az ae.length ax] ?_;(with_reducible refine(pV.calls ?o7 ?o8 ?uZ ?u_ bh.out).mono ?_);(case o7=>exact nS (nM af.out).2.2);(case o8=>exact(nM af.out).2.1);(case uZ=>repeat(first|exact(rf au.out).2.2|(with_reducible refine uh ?_ _)|(with_reducible refine uj ?_ _)|(with_reducible refine ui ?_)));(case u_=>exact(rf au.out).2.1);rintro e cD ⟨rfl,hb⟩;refine⟨_,rfl,?_⟩;replace au:=dm (wZ (z_) hb);replace af:=oh af hb;replace ag:=nA ag hb;replace HB:=nI HB hb;(try clear hb))|(go_at_call 40;(with_reducible refine(uC.calls ?o7 ?o8 cf.out).mono ?_);(case o7=>repeat(first|exact(rf au.out).2.2|(with_reducible refine uh ?_ _)|(with_reducible refine uj ?_ _)|(with_reducible refine ui ?_)));(case o8=>exact(rf au.out).2.1);rintro e w' ⟨rfl,⟨nd,rfl⟩⟩))
     go_ret
     exact⟨qM,ny HB.out⟩
    rw[if_neg aG]at H;have a6:(aa==av)=false:=by simpa using aG
    (try(have a7:decide (aa=av)=false:=by simpa using aG));(try(have a8:(aa==av)=false:=by simpa using aG));(try(have cm:¬ (aa=av):=by simpa using aG));clear aG;obtain rfl:=Option.some.inj H;have⟨bR,bS,bT,bU⟩:=nJ (w:=wc) ag
    go_wp2_with (first|((with_reducible refine og 16 rfl ?_);refine vY 42 Try.func16 #[.agg #[.int .i64 ah,.slice ap ac.length ao],.slice az ae.length ax] ?_;(with_reducible refine(pV.calls ?o7 ?o8 ?uZ ?u_ bh.out).mono ?_);(case o7=>exact nS (nM af.out).2.2);(case o8=>exact(nM af.out).2.1);(case uZ=>repeat(first|exact(rf au.out).2.2|(with_reducible refine uh ?_ _)|(with_reducible refine uj ?_ _)|(with_reducible refine ui ?_)));(case u_=>exact(rf au.out).2.1);rintro e cE ⟨rfl,hb⟩;refine⟨_,rfl,?_⟩;replace au:=dm (wZ (z_) hb);replace af:=oh af hb;replace ag:=nA ag hb;replace HB:=nI HB hb;(try clear hb)))
    go_ret
    exact⟨qM,ny HB.out⟩
   obtain⟨aw,bj,H⟩:=ow H;(try dsimp only at H)
   by_cases aL:(aw.length:Int)=0
   ·rw[if_pos aL]at H;have a9:=beq_iff_eq.mpr aL;have a_:=bne_eq_false_iff_eq.mpr aL;clear aL;obtain⟨aD,cg,H⟩:=ow H;(try dsimp only at H);obtain rfl:=Option.some.inj H;have⟨bV,bW,bX,bY⟩:=nJ (w:=wc) ag
    go_wp2_with (first|((with_reducible refine og 41 rfl ?_);refine oV 51 rfl Try.func41 (rX.calls (nS (nM af.out).2.2) ((nM af.out).2.1) bj.out) ?_;rintro e ch ⟨bn,rfl,ay,hb⟩;refine⟨_,rfl,?_⟩;replace au:=dm (yw (z_) (uN ay) hb);replace af:=oh af hb;have aA:=dm (oJ ay (ou (ny HB.out)));replace ag:=nA ag hb;replace HB:=nI HB hb;(try clear hb ay);obtain⟨bo,bp,bq⟩:=nY aA.out;subst bq;have⟨bZ,b3,b4,b5⟩:=nJ (w:=ch) ag)|(go_at_call 42;refine(sO.calls (nS (nM af.out).2.2) ((nM af.out).2.1) cg.out).mono ?_;rintro e cF ⟨cq,rfl,ay,hb⟩;have ba:=dm (xw (qG (ok':=fun k_=>some k_≠(.slice az ae.length ax:Value).ownBlock/\some k_≠(.slice ap ac.length ao:Value).ownBlock/\some k_≠(.slice bo aw.length bp:Value).ownBlock/\k_≠aq) (Kd.S_N (xN ay)) (fun k_ hk_=>⟨(Kd.fresh' (BN (z_)) k_ hk_.2.1),(Kd.fresh' (oZ (nH af.out)) k_ hk_.2.1),(Kd.fresh' (oZ (nH aA.out)) k_ hk_.2.1),(rG (g:=aq) (o:=.cells #[.int .i64 ah,.slice ap ac.length ao] 31 (0,0)) (nE ag.out) k_ hk_.2.1)⟩)) (ou (ny HB.out)));replace au:=dm (yw (z_) (uN (Kd.S_R ay)) hb);replace af:=oh af hb;replace aA:=oh aA hb;replace ag:=nA ag hb;replace HB:=nI HB hb;(try clear hb ay);obtain⟨cr,ct,br⟩:=xX ba.out;subst br))
    go_ret
    exact⟨qM,ny HB.out⟩
   rw[if_neg aL]at H;have a9:=beq_eq_false_iff_ne.mpr aL;have a_:=bne_iff_ne.mpr aL;have cn:¬ (aw=[]):=fun h_=>aL (by rw[h_];rfl);obtain rfl:=Option.some.inj H;have⟨b6,b7,b8,b9⟩:=nJ (w:=wc) ag
   go_wp2_with (first|((with_reducible refine og 41 rfl ?_);refine oV 51 rfl Try.func41 (rX.calls (nS (nM af.out).2.2) ((nM af.out).2.1) bj.out) ?_;rintro e cG ⟨bn,rfl,ay,hb⟩;refine⟨_,rfl,?_⟩;replace au:=dm (yw (z_) (uN ay) hb);replace af:=oh af hb;have aA:=dm (oJ ay (ou (ny HB.out)));replace ag:=nA ag hb;replace HB:=nI HB hb;(try clear hb ay);obtain⟨cu,cv,bu⟩:=nY aA.out;subst bu))
   go_ret
   exact⟨qM,ny HB.out⟩
end Go.Proofs.Ytgeonpciodepgaa.P
