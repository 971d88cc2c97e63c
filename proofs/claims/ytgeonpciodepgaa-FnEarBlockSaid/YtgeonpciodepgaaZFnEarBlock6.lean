/- The proof's parts ahead of the row: of no condition of their own. -/
import Derived.Test.YtgeonpciodepgaaZFnEarBlock5
import Derived.Shelf.SlSortCmp.Whole1
import Derived.Ground.SlsfProg
import Derived.Shelf.SlSortCmp.NoneTotal
set_option linter.unusedVariables false
set_option linter.unusedSimpArgs false
namespace Go.Proofs
open Go.Shelf
def Try.LD:Go.Shelf.Ren:=⟨fun|6=>131|15=>108|14=>138|28=>127|29=>128|20=>140|21=>141|22=>142|23=>143|24=>144|25=>145|26=>146|27=>147|46=>148|47=>134|48=>135|49=>149|50=>150|57=>151|n=>n,fun|22=>25|24=>45|25=>107|3=>3|39=>116|0=>0|53=>131|55=>133|4=>4|46=>124|45=>123|50=>128|5=>5|9=>9|66=>136|70=>140|76=>143|77=>144|n=>n,fun|n=>n⟩
theorem Try.IB:Go.Proofs.SlLaysF.n6 Try.prog Try.LD:={
 mixed:=by kernel_rfl
 f6:=⟨Try.f131.name,by decide,Try.func131.trans (congrArg some (by kernel_rfl))⟩
 f14:=⟨Try.f138.name,by decide,Try.func138.trans (congrArg some (by kernel_rfl))⟩
 f15:=Try.func108.trans (congrArg some (by kernel_rfl))
 f20:=⟨Try.f140.name,by decide,Try.func140.trans (congrArg some (by kernel_rfl))⟩
 f21:=⟨Try.f141.name,by decide,Try.func141.trans (congrArg some (by kernel_rfl))⟩
 f22:=⟨Try.f142.name,by decide,Try.func142.trans (congrArg some (by kernel_rfl))⟩
 f23:=⟨Try.f143.name,by decide,Try.func143.trans (congrArg some (by kernel_rfl))⟩
 f24:=⟨Try.f144.name,by decide,Try.func144.trans (congrArg some (by kernel_rfl))⟩
 f25:=⟨Try.f145.name,by decide,Try.func145.trans (congrArg some (by kernel_rfl))⟩
 f26:=⟨Try.f146.name,by decide,Try.func146.trans (congrArg some (by kernel_rfl))⟩
 f27:=⟨Try.f147.name,by decide,Try.func147.trans (congrArg some (by kernel_rfl))⟩
 f28:=Try.func127.trans (congrArg some (by kernel_rfl))
 f29:=Try.func128.trans (congrArg some (by kernel_rfl))
 f46:=⟨Try.f148.name,by decide,Try.func148.trans (congrArg some (by kernel_rfl))⟩
 f47:=Try.func134.trans (congrArg some (by kernel_rfl))
 f48:=Try.func135.trans (congrArg some (by kernel_rfl))
 f49:=⟨Try.f149.name,by decide,Try.func149.trans (congrArg some (by kernel_rfl))⟩
 f50:=⟨Try.f150.name,by decide,Try.func150.trans (congrArg some (by kernel_rfl))⟩
 f57:=⟨Try.f151.name,by decide,Try.func151.trans (congrArg some (by kernel_rfl))⟩
 t0:=Try.underlying0
 a0:=Try.isAgg0
 z0:=Try.sizeOf0
 v0:=Try.zeroValue0
 t3:=Try.underlying3
 a3:=Try.isAgg3
 z3:=Try.sizeOf3
 v3:=Try.zeroValue3
 t4:=Try.underlying4
 a4:=Try.isAgg4
 z4:=Try.sizeOf4
 v4:=Try.zeroValue4
 t5:=Try.underlying5
 a5:=Try.isAgg5
 z5:=Try.sizeOf5
 v5:=Try.zeroValue5
 t9:=Try.underlying9
 a9:=Try.isAgg9
 z9:=Try.sizeOf9
 v9:=Try.zeroValue9
 t22:=Try.underlying25
 a22:=Try.isAgg25
 z22:=Try.sizeOf25
 v22:=Try.zeroValue25
 a24:=Try.isAgg45
 z24:=Try.sizeOf45
 t25:=Try.underlying107
 a25:=Try.isAgg107
 z25:=Try.sizeOf107
 v25:=Try.zeroValue107
 t39:=Try.underlying116
 a39:=Try.isAgg116
 z39:=Try.sizeOf116
 v39:=Try.zeroValue116
 t45:=Try.underlying123
 a45:=Try.isAgg123
 z45:=Try.sizeOf123
 v45:=Try.zeroValue123
 t46:=Try.underlying124
 a46:=Try.isAgg124
 z46:=Try.sizeOf124
 v46:=Try.zeroValue124
 t50:=Try.underlying128
 a50:=Try.isAgg128
 z50:=Try.sizeOf128
 v50:=Try.zeroValue128
 t53:=Try.underlying131
 a53:=Try.isAgg131
 z53:=Try.sizeOf131
 v53:=Try.zeroValue131
 t55:=Try.underlying133
 a55:=Try.isAgg133
 z55:=Try.sizeOf133
 v55:=Try.zeroValue133
 t66:=Try.underlying136
 a66:=Try.isAgg136
 z66:=Try.sizeOf136
 v66:=Try.zeroValue136
 t70:=Try.underlying140
 a70:=Try.isAgg140
 z70:=Try.sizeOf140
 v70:=Try.zeroValue140
 t76:=Try.underlying143
 a76:=Try.isAgg143
 z76:=Try.sizeOf143
 v76:=Try.zeroValue143
 t77:=Try.underlying144
 a77:=Try.isAgg144
 z77:=Try.sizeOf144
 v77:=Try.zeroValue144}
end Go.Proofs
namespace Go.Proofs.Ytgeonpciodepgaa.P
open Go.RowKit Go.Lib Go.Sort Go.Proofs.YtgeonpciodepgaaW.PrintWords Go.Proofs.YtgeonpciodepgaaW.PrintLast Go.Proofs.YtgeonpciodepgaaW.PrintMore Go.Proofs.Ytgeonpciodepgaa.G Go.Proofs.YtgeonpciodepgaaW.PrintWords.Kd Go.Proofs.YtgeonpciodepgaaW.PrintMore.Kd
def cfI (xs:List (List Int)) (i j:Nat):Int:=cfW (xs.getD i []) (xs.getD j [])
theorem EK (xs:List (List Int)) (i j:Nat):ltOf (cfI xs) i j=decide (wlt (xs.getD i []) (xs.getD j [])):=by
 unfold ltOf cfI
 exact decide_eq_decide.2 (OL _ _)
theorem Qu (xs:List (List Int)):SWO (ltOf (cfI xs)) where
 irrefl x:=by rw[EK];exact decide_eq_false (C_ _)
 trans x y z h1 h2:=by
  rw[EK,decide_eq_true_eq]at*
  exact BN h1 h2
 ntrans x y z h1 h2:=by
  rw[EK,decide_eq_false_iff_not]at*
  intro h
  rcases Cc (xs.getD x []) (xs.getD y []) with a|a|a
  ·exact h1 a
  ·rw[a]at h;exact h2 h
  ·exact h2 (BN a h)
theorem MF {n:Nat}{d:List Nat}(h:d.Perm (List.range n)) {α:Type}(xs:List α) (z:α) (hx:xs.length=n):(d.map fun i=>xs.getD i z).Perm xs:=by
 refine(h.map _).trans (List.Perm.of_eq ?_)
 apply List.ext_getElem
 ·simp[hx]
 ·intro i h1 h2
  simp[List.getD_eq_getElem?_getD,h2]
theorem PX {w:World}{base:Nat}{A:Option Addr}{c:Nat}{xs:List (List Int)}(HS:Kd.S (Kd.slice 3 (Kd.int .i64)) 45 w base (fun _=>True) (.slice A xs.length c) xs) (hl:xs.length<4611686018427387904):
  Calls Try.prog 131 #[.slice A xs.length c,.func (.func 132) #[] #[]] w fun e w'=>
   e=.returned (.tuple #[])/\Kd.S (Kd.slice 3 (Kd.int .i64)) 45 w' base (fun _=>True) (.slice A xs.length c) (xL xs)/\w.grownBy w' (Value.slice A xs.length c).ownBlock/\Below base w w':=by
 rcases Nat.eq_zero_or_pos xs.length with h0|h0
 ·obtain rfl:=List.eq_nil_of_length_eq_zero h0
  refine(AnyF.slices_SortFunc_none {Try.IB with} A c (.func (.func 132) #[] #[]) w).mono ?_
  rintro e w' ⟨rfl,rfl⟩
  have e0:xL ([]:List (List Int))=[]:=by unfold xL;simp
  exact⟨rfl,by rw[e0];exact HS,World.grownBy.refl _ _,Below.refl _ _⟩
 obtain⟨f,hok,inner,⟨hlen,hown⟩,hr⟩:=HS
 rw[List.length_zipIdx]at hlen hown
 have hr0:=hr.1
 rw[List.length_zipIdx]at hr0
 rcases hown with⟨hv,hn⟩|⟨g,cap,cur,hv,hg,hh,hnc,hm,hsz,ht⟩
 ·exact absurd hn (by omega)
 injection hv with hA hn hc
 subst hA;subst hc
 have hsz1:∀f,(Kd.tag f (Kd.slice 3 (Kd.int .i64))).sz=1:=fun _=>rfl
 rw[hsz1]at hlen hsz ht hr hr0
 rw[Nat.mul_one]at hlen hsz ht hr0
 have hblk:g<w.heap.size:=(Array.getElem?_eq_some_iff.1 hh).1
 have hfr:∀q,(Value.slice (some ⟨g,0,none⟩) xs.length c).ownBlock=some q↔q=g:=fun q=>by simp[Value.ownBlock,eq_comm]
 -- each element: a row of its own
 have hel:∀j,j<xs.length->∃v,inner[j]? =some v/\Kd.R (Kd.int .i64) 3 w base (fun k=>k≠g/\f k=j) v (xs.getD j []):=by
  intro j hj
  have h1:=hr.2 j (xs.getD j [],j) (by rw[List.getElem?_zipIdx,Nat.zero_add,List.getElem?_eq_getElem hj];simp[List.getD_eq_getElem?_getD,hj])
  rw[Nat.mul_one]at h1
  have hj':j<inner.length:=by omega
  obtain⟨v,e,hv⟩:=h1
  have e2:(inner.drop j).take 1=[inner[j]]:=by rw[List.drop_eq_getElem_cons hj'];rfl
  rw[e2]at e
  injection e with e
  refine⟨v,by rw[List.getElem?_eq_getElem hj',e],nL hv (fun k hk=>⟨fun e=>hk.1.2 (by simp[Value.ownBlock,e]),hk.2⟩)⟩
 let enc:Nat->Value:=fun i=>inner.getD i (.slice none 0 0)
 have encAt:∀j v,inner[j]? =some v->enc j=v:=fun j v h=>by simp[enc,List.getD_eq_getElem?_getD,h]
 have hel2:∀j,∃v,enc j=v/\Kd.R (Kd.int .i64) 3 w base (fun k=>k≠g/\(j<xs.length->f k=j)) v (xs.getD j []):=by
  intro j
  by_cases hj:j<xs.length
  ·obtain⟨v,e,h⟩:=hel j hj
   exact⟨v,encAt j v e,nL h (fun k hk=>⟨hk.1,fun _=>hk.2⟩)⟩
  ·refine⟨.slice none 0 0,?_,?_⟩
   ·simp[enc,List.getD_eq_getElem?_getD,List.getElem?_eq_none (show inner.length<=j by omega)]
   ·rw[show xs.getD j []=[] from by simp[List.getD_eq_getElem?_getD,List.getElem?_eq_none (show xs.length<=j by omega)]];exact wX _ _ _ _ _
 have h1c:OneCell enc:=fun i=>by
  obtain⟨v,e,h⟩:=hel2 i
  rw[e];exact(Qs h).2
 have eg:∀args w,(callFunc 132 args).run Try.prog w=.ok (.enter 132 args) w:=enters_of Try.func132 (by kernel_rfl) rfl
 have hH:Holds enc w g 0 (List.range xs.length).toArray:=by
  intro j hj
  have hj:j<xs.length:=by simpa using hj
  have hj2:j<inner.length:=by omega
  have e1:(List.range xs.length).toArray[j]! =j:=by rw[getElem!_pos _ _ (by simpa using hj)];simp
  rw[e1]
  obtain⟨v,e,_⟩:=hel j hj
  refine⟨?_,by simp[World.frozen?,hh]⟩
  rw[encAt j v e]
  have h1:(cur.toList.take xs.length)[j]? =inner[j]? :=by rw[ht]
  rw[List.getElem?_take_of_lt hj]at h1
  simp only [World.cell?,hh,Nat.zero_add,Option.isSome_none,Bool.false_eq_true,if_false]
  rw[←Array.getElem?_toList,h1,e]
 have grw:∀ (m:Nat) (os:Array Obj) (dk:Array Nat),w.grownBy (sortWorld enc w g 0 m dk os) (some g):=by
  intro m os dk
  unfold sortWorld
  refine⟨rfl,rfl,rfl,by simp,fun k hk hne=>?_⟩
  rw[heap_grow_old _ _ (by simpa using hk)]
  have:g≠k:=fun e=>hne (by rw[e])
  simp[putRow,mapBlock,Sort.ahead,Array.getElem?_modify,this]
 have hcmp:CmpLays1 Try.prog 132 #[] enc (cfI xs) g 0 (List.range xs.length).toArray.size w:=by
  intro m os dk _ x y
  obtain⟨vx,ex,hx⟩:=hel2 x
  obtain⟨vy,ey,hy⟩:=hel2 y
  rw[ex,ey]
  have hx2:=Ce hx (grw m os dk) (fun k hk e=>by injection e with e;exact hk.1 e)
  have hy2:=Ce hy (grw m os dk) (fun k hk e=>by injection e with e;exact hk.1 e)
  obtain⟨Ax,cx,e1,l1,r1⟩:=BS hx2
  obtain⟨Ay,cy,e2,l2,r2⟩:=BS hy2
  subst e1;subst e2
  exact Me Ax cx (xs.getD x []) Ay cy (xs.getD y []) _ r1 l1 r2 l2
 have hcon:=Any.slices_SortFunc Try.IB enc h1c (cfI xs) (Qu xs) 132 #[] g 0 c (List.range xs.length).toArray w eg hcmp hH hblk (by simpa using hl)
 change Calls Try.prog 131 _ _ _ at hcon
 rw[List.size_toArray,List.length_range]at hcon
 refine hcon.mono ?_
 rintro e w' ⟨rfl,d',m,os,hp,hsd,rfl⟩
 obtain⟨ps,_,pp⟩:=hp
 have ls:d'.toList.length=xs.length:=by simpa using ps
 have perm:d'.toList.Perm (List.range xs.length):=by
  have a:(d'.extract 0 (List.range xs.length).toArray.size)=d':=by rw[←ps];simp
  have b:(d'.extract 0 xs.length)=d':=by simpa using a
  have c:((List.range xs.length).toArray.extract 0 xs.length).toList=List.range xs.length:=by simp
  simpa [b,c] using pp
 have nd:d'.toList.Nodup:=perm.nodup_iff.2 List.nodup_range
 have rng:∀j (h:j<d'.toList.length),d'.toList[j]<xs.length:=fun j h=>List.mem_range.1 (perm.mem_iff.1 (List.getElem_mem h))
 have ex:xL xs=d'.toList.map (fun i=>xs.getD i []):=by
  have pm:=MF perm xs [] rfl
  refine He ((AY xs).trans pm.symm) (Hl xs) ?_
  rw[List.pairwise_map,List.pairwise_iff_getElem]
  intro i j hi hj hij
  have:=hsd i j (Nat.zero_le _) hij (by simpa [ls] using hj)
  rw[EK,decide_eq_false_iff_not]at this
  have gi:d'[i]! =d'.toList[i]:=by simp[getElem!_pos d' i (by simpa using hi)]
  have gj:d'[j]! =d'.toList[j]:=by simp[getElem!_pos d' j (by simpa using hj)]
  rw[gi,gj]at this
  exact this
 have sl:(xL xs).length=xs.length:=(AY xs).length_eq
 have hblk2:(sortWorld enc w g 0 m d' os).heap[g]? =some (.cells (putCells enc 0 d' cur) 45 (0,0)):=by
  unfold sortWorld
  rw[heap_grow_old _ _ (by simpa using hblk)]
  simp[putRow,mapBlock,Sort.ahead,Array.getElem?_modify,hh,onCells]
 have dsz:d'.size=xs.length:=by simpa using ls
 have hcs:(putCells enc 0 d' cur).toList.take xs.length=d'.toList.map enc:=by
  apply List.ext_getElem?
  intro j
  by_cases hj:j<xs.length
  ·rw[List.getElem?_take_of_lt hj,Array.getElem?_toList]
   have hj2:j<cur.size:=by omega
   have hj3:j<d'.size:=by omega
   simp[putCells,hj2,hj3]
  ·rw[List.getElem?_take_eq_none (by omega),List.getElem?_eq_none (by simp;omega)]
 refine⟨rfl,⟨fun k=>d'.toList.idxOf (f k),fun k hk=>trivial,d'.toList.map enc,⟨?_,.inr ⟨g,c,putCells enc 0 d' cur,?_,hg,hblk2,?_,?_,?_,?_⟩⟩,?_,fun j p hj=>?_⟩,?_,?_⟩
 ·rw[List.length_zipIdx,sl,hsz1];simp[dsz]
 ·rw[List.length_zipIdx,sl]
 ·rw[List.length_zipIdx,sl];exact hnc
 ·exact hm
 ·rw[hsz1,Nat.mul_one];simp[putCells];exact hsz
 ·rw[List.length_zipIdx,sl,hsz1,Nat.mul_one];exact hcs
 ·rw[List.length_zipIdx,sl,hsz1];simp[dsz]
 ·rw[hsz1,Nat.mul_one]
  rw[List.getElem?_zipIdx,Nat.zero_add]at hj
  obtain⟨x,hx,rfl⟩:=Option.map_eq_some_iff.1 hj
  have hj2:j<xs.length:=by
   have:=(List.getElem?_eq_some_iff.1 hx).1
   omega
  have hj3:j<d'.toList.length:=by omega
  rw[ex,List.getElem?_map,List.getElem?_eq_getElem hj3]at hx
  have hx:xs.getD d'.toList[j] []=x:=by simpa using hx
  obtain⟨v,ev,hv⟩:=hel2 d'.toList[j]
  have hv2:=Ce hv (grw m os d') (fun k hk e=>by injection e with e;exact hk.1 e)
  rw[hx]at hv2
  have e2:((d'.toList.map enc).drop j).take 1=[v]:=by
   rw[List.drop_eq_getElem_cons (by simpa using hj3)]
   simp[ev]at ev⊢
  rw[e2]
  refine⟨v,rfl,nL hv2 (fun k hk=>⟨⟨trivial,fun e=>?_⟩,?_⟩)⟩
  ·have:k=g:=by simpa [Value.ownBlock] using e
   exact hk.1 this
  ·show d'.toList.idxOf (f k)=j
   rw[hk.2 (rng j hj3)]
   exact List.Nodup.idxOf_getElem nd j hj3
 ·have:=grw m os d'
  simpa [Value.ownBlock] using this
 ·have hgr:=grw m os d'
  exact⟨hgr.os,hgr.tape,hgr.output,hgr.size,fun k hk=>hgr.block k (Nat.lt_trans (Nat.lt_of_lt_of_le hk hg) hblk) (fun e=>by injection e with e;omega)⟩
def Ej (k:Nat) (n:Int) (E:List S59) (a b:Int):Option (List (List Int)):=(qw.f k n E [a] b []).bind fun t=>if t.length<4611686018427387904 then some (xL t) else none
set_option maxHeartbeats 8000000 in
set_option maxRecDepth 100000 in
theorem Np (k:Nat) (a0_0:Int) (A0_1:Option Addr) (c0_1:Nat) (l0_1:List (S59)) (a1:Int) (a2:Int) (r:List (List Int)) (w:World) (hr0_1:Kd.C k59 w A0_1 l0_1.length l0_1) (hc0_1:l0_1.length<=c0_1) (h:Ej k a0_0 l0_1 a1 a2=some r):
  Calls Try.prog 112 #[.agg #[.int .i64 a0_0,.slice A0_1 l0_1.length c0_1],.int .i64 a1,.int .i64 a2] w fun e w'=>∃v0_:Value,e=.returned (v0_)/\Kd.S (Kd.slice 3 (Kd.int .i64)) 45 w' w.heap.size (fun _=>True) v0_ r/\Below w.heap.size w w':=by
 unfold Ej at h
 obtain⟨y1,hy1⟩:∃y_:List Int,y_=[a1]:=⟨_,rfl⟩
 obtain⟨y2,hy2⟩:∃y_:List (List Int),y_=[]:=⟨_,rfl⟩
 rw[←hy1,←hy2]at h
 obtain⟨t,ht,h⟩:=Option.bind_eq_some_iff.mp h
 by_cases c:t.length<4611686018427387904
 ·rw[if_pos c]at h
  obtain rfl:=Option.some.inj h
  have hu:=Try.underlying31
  have HR:=lm.mk hr0_1
  have HC:=lm.mk hc0_1
  have HT:=lm.mk ht
  have HL:=lm.mk c
  have N1:=lm.mk hy1
  have N2:=lm.mk hy2
  clear hr0_1 hc0_1 ht c hy1 hy2 h
  have HB:=lm.mk (Below.refl w.heap.size w)
  go_enter Try.func112,Try.ntmps112
  go_wp2_with (first
   |((with_reducible refine DC (N:=3) rfl ?_);refine om 3 #[.int .i64 a0_0,.slice A0_1 l0_1.length c0_1] 31 ?_;intro gb hg w1 nu hb;have n0_:=lm.mk (oL (nC HB.out) hb);have n1_:=lm.mk nu;clear HB;revert n0_ n1_;intro HB BK;clear hb nu hg;have hcza_0:w1.cell? ⟨gb,0,none⟩=some (.int .i64 a0_0):=(rP BK.out 0).trans rfl;have hcza_1:w1.cell? ⟨gb,1,none⟩=some (.slice A0_1 l0_1.length c0_1):=(rP BK.out 1).trans rfl;have hfza_0:=qN BK.out 0;have hfza_1:=qN BK.out 1)
   |((with_reducible refine DC (N:=10) rfl ?_);refine rU (Kd.int .i64) _ 3 ?hg (N:=10) ?hd (xs:=([a1]:List Int)) (inner:=[.int .i64 a1]) (ok:=fun _=>True) (okp:=fun _=>True) ?hr ?hp (fun _ hk=>hk) trivial (Below.refl _ _) (Nat.le_refl _) (by simp) ?_;(case hd=>rfl);(case hg=>rfl);(case hr=>first|(go_simp;done)|(go_simp;rfl));(case hp=>exact(oq.one (show Kd.M (Kd.int .i64) _ _ _ a1 [.int .i64 a1] from rfl) (oq.none _ _)));intro v10 w2 ho hb hg_ pq;clear hg_ pq;rw[←N1.out]at ho;have n0_:=lm.mk (oF ho (nX (nC HB.out)));have n1_:=lm.mk (oL (nC HB.out) hb);clear HB;revert n0_ n1_;intro HO10 HB;clear hb ho;obtain⟨Ao,co,eo⟩:=nW HO10.out;subst eo)
   |((with_reducible refine DC (N:=12) rfl ?_);refine Gg (Kd.slice 3 (Kd.int .i64)) _ 45 ?hg (N:=12) ?hd (xs:=([]:List (List Int))) (inner:=[]) (ok:=fun _=>True) (okp:=fun _=>True) ?hr ?hp (fun _ hk=>hk) trivial (Below.refl _ _) (Nat.le_refl _) (by simp) ?_;(case hd=>rfl);(case hg=>rfl);(case hr=>first|(go_simp;done)|(go_simp;rfl));(case hp=>exact(oq.none _ _));intro v12 w3 ho hb hg_ pq;clear hg_ pq;rw[←N2.out]at ho;have n0_:=lm.mk (BZ ho (nX (nC HB.out)));have n1_:=lm.mk (oL (nC HB.out) hb);have n2_:=lm.mk (uf HO10.out hb);clear HB HO10;revert n0_ n1_ n2_;intro HO12 HB HO10;clear hb ho)
   |((with_reducible refine wZ (f:=130) rfl ?_);refine wV (some 13) rfl rfl Try.func130 (by kernel_rfl) rfl #[.agg #[.int .i64 a0_0,.slice A0_1 l0_1.length c0_1],.slice Ao y1.length co,.int .i64 a2,v12] rfl (yS) ?_;(with_reducible refine(qw.calls k a0_0 A0_1 c0_1 l0_1 Ao co y1 a2 v12 y2 t w _ ?ng ?ni ?sF ?sN HT.out).mono ?_);(case ng=>exact HR.out);(case ni=>exact HC.out);(case sF=>exact(nC HB.out));(case sN=>exact⟨HO10.out,HO12.out⟩);rintro e w5 ⟨v13,rfl,ho,hb,hg_,hat_⟩;refine⟨_,rfl,?_⟩;have n0_:=lm.mk ho;have n1_:=lm.mk hb;clear HB HO10 HO12;revert n0_ n1_;intro HO13 HB;clear hb ho hg_ hat_;obtain⟨As,cs,es⟩:=FO HO13.out;subst es)
   |(go_at_call 131;(with_reducible refine(PX HO13.out HL.out).mono ?_);rintro e w6 ⟨rfl,ho,hg,hb⟩;have n0_:=lm.mk ho;have n1_:=lm.mk (Below.trans HB.out hb);clear HB HO13;revert n0_ n1_;intro HO13 HB;clear ho hg hb))
  go_ret
  exact⟨_,by first|rfl|(simp[qa,qb]<;>rfl),HO13.out,HB.out⟩
 ·rw[if_neg c]at h
  exact absurd h (by simp)
end Go.Proofs.Ytgeonpciodepgaa.P
namespace Go.Proofs.Ytgeonpciodepgaa.P
set_option maxHeartbeats 8000000
set_option maxRecDepth 100000
open Go.RowKit Go.Proofs.YtgeonpciodepgaaW.PrintWords Go.Proofs.YtgeonpciodepgaaW.PrintLast Go.Proofs.YtgeonpciodepgaaW.PrintMore Go.Proofs.YtgeonpciodepgaaW.PrintWords.Kd Go.Proofs.YtgeonpciodepgaaW.PrintMore.Kd
attribute [local go_sem] wC wE wJ wG wy ww wB wF
def zL.f (k:Nat) (ab:Int) (aa:List (S59)) (a1:Int) (a2:Int):Option (List (List Int)):=Ej k ab aa a1 a2
theorem zL.calls (k:Nat) (ab:Int) (ac:Option Addr) (ae:Nat) (aa:List (S59)) (a1:Int) (a2:Int) (r:List (List Int)) (w:World) (af:Kd.C k59 w ac aa.length aa) (ag:aa.length<=ae) (h:zL.f k ab aa a1 a2=some r):
 Calls Try.prog 112 #[.agg #[.int .i64 ab,.slice ac aa.length ae],.int .i64 a1,.int .i64 a2] w fun e w'=>∃ah:Value,e=.returned (ah)/\Kd.S (Kd.slice 3 (Kd.int .i64)) 45 w' w.heap.size (fun _=>True) ah r/\Below w.heap.size w w':=Np k ab ac ae aa a1 a2 r w af ag h
end Go.Proofs.Ytgeonpciodepgaa.P
namespace Go.Proofs.Ytgeonpciodepgaa.P
open Go.RowKit Go.Proofs.YtgeonpciodepgaaW.PrintWords Go.Proofs.YtgeonpciodepgaaW.PrintLast Go.Proofs.Ytgeonpciodepgaa.G Go.Proofs.YtgeonpciodepgaaW.PrintWords.Kd
def wP (l:List G.Tie) (t:G.Tie):List G.Tie:=if rZ l t.f0 t.f1=true then l else l++[t]
theorem JS (w:World) (a b:Int):∀ (l:List G.Tie) (i j:Nat),rZ l a b=true->
  ∃n,(Instr.findAsking 59 (.agg #[.int .i64 a,.int .i64 b]) (rY i l) j).run Try.prog w=.ok (some (n,.bool true)) w/\j<=n/\l[n - j]? =some ⟨a,b⟩
 |[],i,j,h=>by simp[rZ]at h
 |t::r,i,j,h=>by
  simp only [rY,Instr.findAsking]
  have e:(Op.equal 59 (.agg #[.int .i64 a,.int .i64 b]) (zA t i).key).run Try.prog w=.ok (a==t.f0&&(b==t.f1)) w:=Jz w a t.f0 b t.f1
  cases c:(a==t.f0&&b==t.f1)
  ·rw[c]at e
   have h1:rZ r a b=true:=by simpa [rZ,c] using h
   obtain⟨n,hn,h2,h3⟩:=JS w a b r (i+1) (j+1) h1
   refine⟨n,by simp[Sem.run_bind,e,Result.andThen,hn],by omega,?_⟩
   rw[show n - j=(n - (j+1))+1 by omega,List.getElem?_cons_succ]
   exact h3
  ·rw[c]at e
   simp only [Bool.and_eq_true,beq_iff_eq]at c
   refine⟨j,by simp[Sem.run_bind,e,Result.andThen];rfl,Nat.le_refl _,?_⟩
   rw[Nat.sub_self,c.1,c.2];rfl
theorem Py (w:World) (a b:Int) (l:List G.Tie) (h:rZ l a b=true):
  ∃n,(Instr.findKey 59 (.agg #[.int .i64 a,.int .i64 b]) (rY 0 l)).run Try.prog w=.ok (some (n,.bool true)) w/\l[n]? =some ⟨a,b⟩:=by
 obtain⟨n,hn,_,h3⟩:=JS w a b l 0 0 h
 rw[Nat.sub_zero]at h3
 unfold Instr.findKey
 cases l with
 |nil=>simp[rZ]at h
 |cons t r=>
  refine⟨n,?_,h3⟩
  simp[Sem.run_bind,run_underlying Try.underlying59,Result.andThen,Instr.findNow,rY,Instr.sameNow]
  simpa [rY] using hn
theorem Il (t:G.Tie):∀ (l:List G.Tie) (i n:Nat),l[n]? =some t->(rY i l)[n]? =some (zA t (i+n))
 |[],i,n,h=>by simp at h
 |x::r,i,0,h=>by simp at h;subst h;rfl
 |x::r,i,n+1,h=>by
  rw[List.getElem?_cons_succ]at h
  show(rY (i+1) r)[n]? =_
  rw[Il t r (i+1) n h]
  congr 2;omega
theorem L8 {α:Type}(xs:Array α) (n:Nat) (f:α->α) (h:∀x,xs[n]? =some x->f x=x):xs.modify n f=xs:=by
 apply Array.ext
 ·simp
 ·intro i h1 h2
  rw[Array.getElem_modify]
  by_cases c:n=i
  ·subst c
   rw[if_pos rfl]
   exact h _ (by rw[Array.getElem?_eq_getElem h2])
  ·rw[if_neg c]
theorem JH {w:World}{g:Nat}{l:List G.Tie}(hb:w.heap[g]? =some (qB l)) (t:G.Tie):
  ∃w1,(Instr.mapUpdate 69 (.map (some g)) (.agg #[.int .i64 t.f0,.int .i64 t.f1]) (.bool true)).run Try.prog w=.ok () w1/\w1.heap[g]? =some (qB (wP l t))/\w.grownBy w1 (some g):=by
 unfold wP
 by_cases h:rZ l t.f0 t.f1=true
 ·rw[if_pos h]
  obtain⟨n,hf,hn⟩:=Py w t.f0 t.f1 l h
  have hg:=Il t l 0 n hn
  refine⟨ChangeMaps.setBlock w g (qB l),?_,ChangeMaps.heap_setBlock_same hb _,⟨rfl,rfl,rfl,by simp[ChangeMaps.setBlock],fun i _ hi=>ChangeMaps.heap_setBlock_other hb _ (fun e=>hi (by rw[e]))⟩⟩
  have hsb:Instr.sameBits 10000 (.agg #[.int .i64 t.f0,.int .i64 t.f1]) (.agg #[.int .i64 t.f0,.int .i64 t.f1])=true:=by
   show Instr.sameBits (9999+1) (.agg #[.int .i64 t.f0,.int .i64 t.f1]) (.agg #[.int .i64 t.f0,.int .i64 t.f1])=true
   simp[Instr.sameBits]
  have hk:∀w,(Instr.keyThatStays (.agg #[.int .i64 t.f0,.int .i64 t.f1]) (.agg #[.int .i64 t.f0,.int .i64 t.f1])).run Try.prog w=.ok (.agg #[.int .i64 t.f0,.int .i64 t.f1]) w:=fun w=>by
   unfold Instr.keyThatStays
   rw[if_pos hsb];rfl
  have hm:(rY 0 l).toArray.modify n (fun e=>{e with key:=.agg #[.int .i64 t.f0,.int .i64 t.f1],val:=.bool true})=(rY 0 l).toArray:=L8 _ _ _ (fun x hx=>by
   rw[List.getElem?_toArray,hg]at hx
   rw[←Option.some.inj hx]
   unfold zA;rfl)
  have hkey:(((rY 0 l).toArray[n]?).map (·.key)).getD (.agg #[.int .i64 t.f0,.int .i64 t.f1])=.agg #[.int .i64 t.f0,.int .i64 t.f1]:=by
   rw[List.getElem?_toArray,hg];rfl
  have hb':w.heap[g]? =some (.map (rY 0 l).toArray l.length):=hb
  show(Instr.mapUpdate 69 (.map (some g)) (.agg #[.int .i64 t.f0,.int .i64 t.f1]) (.bool true)).run Try.prog w=.ok () (ChangeMaps.setBlock w g (.map (rY 0 l).toArray l.length))
  unfold Instr.mapUpdate
  simp only [Sem.run_bind,run_underlying Try.underlying69,Result.andThen_ok,MapKept.run_getObj_map hb',D5,hf,hkey,hk,hm,MapKept.run_setObj_map _ hb']
  rfl
 ·have h':rZ l t.f0 t.f1=false:=by simpa using h
  rw[if_neg h]
  exact Kn hb t h'
theorem Ou {α:Type}{d:Kd α}{e base:Nat}{ok:Nat->Prop}{w:World}{v:Value}{xs:List α}{g:Nat}{l:List G.Tie}(h:Kd.S d e w base ok v xs) (hb:w.heap[g]? =some (qB l)):Kd.S d e w base (fun k=>ok k/\k≠g) v xs:=by
 obtain⟨f,h⟩:=h
 exact⟨f,F7 h hb⟩
section
variable {ops:Array Oper}{rest:List Oper}{o:Oper}{a:Act}{Q:Exit->Act->World->Prop}{W:World}{g:Nat}{l:List G.Tie}{x0 x1:Int}
theorem Qy {t:TypeId}{m k x:Operand}(_ho:o.op=.insert t m k x) (h:wpList Try.prog ops Q (o::rest) a W):wpList Try.prog ops Q (o::rest) a W:=h
theorem Qt {m x v:Operand}(hop:o.op=.insert 69 m x v) (hb:W.heap[g]? =some (qB l))
  (h:∀w1,w1.heap[g]? =some (qB (wP l ⟨x0,x1⟩))->W.grownBy w1 (some g)->wpList Try.prog ops Q rest (a.put o.dst undef) w1)
  (hg:o.guard=none:=by rfl)
  (hm:a.eval m=.map (some g):=by rfl) (hx:a.eval x=.agg #[.int .i64 x0,.int .i64 x1]:=by rfl) (hv:a.eval v=.bool true:=by rfl):wpList Try.prog ops Q (o::rest) a W:=by
 refine wpList_plain hg fun K' hK'=>?_
 obtain⟨w1,hr,h1,h2⟩:=JH hb ⟨x0,x1⟩
 unfold Oper.wp
 simp[execOp,hop,hm,hx,hv,hr,Result.andThen]
 exact hK' _ _ (h _ h1 h2)
theorem Qp {Kc:Act->World->Prop}{m x v:Operand}(hop:o.op=.mapUpdate 69 m x v) (hb:W.heap[g]? =some (qB l)) (hw:Region.wanted o (yielded ops a.tmps)=true) (hN:o.dst=none)
  (hm:a.eval m=.map (some g)) (hx:a.eval x=.agg #[.int .i64 x0,.int .i64 x1]) (hv:a.eval v=.bool true)
  (h:∀w1,w1.heap[g]? =some (qB (wP l ⟨x0,x1⟩))->W.grownBy w1 (some g)->Kc a w1):if Region.wanted o (yielded ops a.tmps)=true then Oper.wp Try.prog o a W Kc Q else Kc (a.put none undef) W:=by
 obtain⟨w1,hr,h1,h2⟩:=JH hb ⟨x0,x1⟩
 refine tT (w1:=w1) hw hN ?_ (h _ h1 h2)
 simp[execOp,hop,hm,hx,hv,hr,Result.andThen]
end
end Go.Proofs.Ytgeonpciodepgaa.P
namespace Go.Proofs.Ytgeonpciodepgaa.P
set_option maxHeartbeats 8000000
set_option maxRecDepth 100000
open Go.RowKit Go.Proofs.YtgeonpciodepgaaW.PrintWords Go.Proofs.YtgeonpciodepgaaW.PrintLast Go.Proofs.YtgeonpciodepgaaW.PrintMore Go.Proofs.YtgeonpciodepgaaW.PrintWords.Kd Go.Proofs.YtgeonpciodepgaaW.PrintMore.Kd
attribute [local go_sem] wC wE wJ wG wy ww wB wF
theorem Ku {p:Prop}(h:p:=by exact oJ a4.out):p:=h
theorem Gp {p:Prop}(h:p:=by exact oJ ab.out):p:=h
theorem G7 {p:Prop}(h:p:=by exact xz (xz ac.out av.out _) av.out _):p:=h
theorem K7 {p:Prop}(h:p:=by exact oJ aa.out):p:=h
theorem KX {p:Prop}(h:p:=by rw[hg];exact Nat.ne_of_lt (oQ (g:=aq) (o:=.cells #[.int .i64 ao,.slice (some bu) ae.length ax] 31 (0,0)) (nG aa.out))):p:=h
theorem Kh {p:Prop}(h:p:=by rw[hg];exact Nat.ne_of_gt (oQ (g:=aq) (o:=.cells #[.int .i64 ao,.slice (some bu) ae.length ax] 31 (0,0)) (nG aa.out))):p:=h
theorem KO {p:Prop}(h:p:=by rw[hg];exact Nat.ne_of_lt (oQ (g:=aq) (o:=.cells #[.int .i64 ao,.slice aG ae.length ax] 31 (0,0)) (nG aa.out))):p:=h
theorem KD {p:Prop}(h:p:=by rw[hg];exact Nat.ne_of_gt (oQ (g:=aq) (o:=.cells #[.int .i64 ao,.slice aG ae.length ax] 31 (0,0)) (nG aa.out))):p:=h
theorem Gw {p:Prop}(h:p:=by rw[hg];exact Nat.ne_of_lt (oQ (g:=am) (o:=.cells #[.int .i64 ai,.int .i64 aj] 59 (0,0)) (nG ab.out))):p:=h
theorem Gb {p:Prop}(h:p:=by rw[hg];exact Nat.ne_of_gt (oQ (g:=am) (o:=.cells #[.int .i64 ai,.int .i64 aj] 59 (0,0)) (nG ab.out))):p:=h
theorem Co {p:Prop}(h:p:=by(with_reducible repeat(first|apply wH|apply wI|apply vC));exact aw.out):p:=h
theorem Ah {p:Prop}(h:p:=by first|rfl|(simp;done)|(simp[*];done)):p:=h
theorem x_ {p:Prop}(h:p:=by rw[hg];exact(nX (nC HB.out))):p:=h
mutual
def qf.l0:Nat->List (List Int)->Int->Int->List (S59)->Int->List (S59)->Option ((List (S59)))
 |0,_,_,_,_,_,_=>none
 |k+1,bD,bU,bm,a_,a5,aH=>if bm<bU then(if 0<=bm then(if bm<(bD.length:Int) then(qf.l1 k (nI bD bm) 1 bD bU bm a_ a5 aH) else(none)) else(none)) else(qf.l2 k (([]:List (S59))) aH (aH.length:Int) 0 a_)
def qf.l1:Nat->List Int->Int->List (List Int)->Int->Int->List (S59)->Int->List (S59)->Option ((List (S59)))
 |0,_,_,_,_,_,_,_,_=>none
 |k+1,x7,x8,bD,bU,bm,a_,a5,aH=>if x8<(x7.length:Int) then(if 0<=(wrap64 (x8 - 1)) then(if(wrap64 (x8 - 1))<(x7.length:Int) then(if 0<=x8 then((vW.f (rd x7 (wrap64 (x8 - 1))) (rd x7 x8)).bind fun ba=>(qf.l1 k x7 (wrap64 (x8+1)) bD bU bm (wP a_ ⟨ba.1,ba.2⟩) a5 aH)) else(none)) else(none)) else(none)) else(qf.l0 k bD bU (wrap64 (bm+1)) a_ a5 aH)
def qf.l2:Nat->List (S59)->List (S59)->Int->Int->List (S59)->Option ((List (S59)))
 |0,_,_,_,_,_=>none
 |k+1,x9,bx,cF,bd,a_=>if bd<cF then(if 0<=bd then(if bd<(bx.length:Int) then(if rZ a_ (ny bx bd).f0 (ny bx bd).f1=true then(if x9.length<8796093022208 then(qf.l2 k (x9++[(⟨(ny bx bd).f0,(ny bx bd).f1⟩:S59)]) bx cF (wrap64 (bd+1)) a_) else(none)) else(qf.l2 k x9 bx cF (wrap64 (bd+1)) a_)) else(none)) else(none)) else(some x9)
end
def qf.f (k:Nat) (ao:Int) (ae:List (S59)) (ai:Int) (aj:Int):Option ((List (S59))):=(uz.f k ao ae (([(⟨ai,aj⟩:S59)]:List (S59)))).bind fun aM=>((zL.f k aM.1 aM.2 ai aj).bind fun af=>(qf.l0 k af (af.length:Int) 0 (wP [] ⟨ai,aj⟩) ao ae))
def qf.T2:Bool×List (List Nat×List Nat):=(true,[([],[]),([],[]),([1],[1]),([0,2],[0,2]),([],[]),([4],[4]),([],[]),([6],[6]),([3,5,7,3],[3,5,7]),([8],[8]),([],[])])
def qf.B2:List Nat:=[0,0,2,7,0,16,0,64,255,511,0]
theorem qf.Es:p_ .any (opsOf Try.f82 2)=qf.T2:=by kernel_rfl
theorem qf.Ed:qQ qf.T2.2 qf.B2=true:=by kernel_rfl
def qf.T8:Bool×List (List Nat×List Nat):=(true,[([],[]),([],[]),([],[]),([2],[2]),([1,3],[1,3]),([4],[4]),([],[]),([],[]),([6,7],[6,7]),([8],[8]),([5,9],[5,9]),([0,10,10,0,1,2,3,4,5,6,7,8,9,10],[0,10])])
def qf.B8:List Nat:=[0,0,0,4,14,30,0,0,192,448,1022,2047]
theorem qf.xw:p_ .any (opsOf Try.f82 8)=qf.T8:=by kernel_rfl
theorem qf.xu:qQ qf.T8.2 qf.B8=true:=by kernel_rfl
theorem qf.calls (k:Nat) (ao:Int) (aG:Option Addr) (ax:Nat) (ae:List (S59)) (ai:Int) (aj:Int) (r:List (S59)) (w:World) (ce:Kd.C k59 w aG ae.length ae) (cf:ae.length<=ax) (h:qf.f k ao ae ai aj=some r):
  Calls Try.prog 82 #[.agg #[.int .i64 ao,.slice aG ae.length ax],.agg #[.int .i64 ai,.int .i64 aj]] w fun e w'=>∃dk:Value,e=.returned (dk)/\Kd.R k59 59 w' w.heap.size (fun _=>True) dk r/\Below w.heap.size w w':=by
 have el:=Try.underlying31;have em:=Try.underlying59;have bN:=dm ce;have cX:=dm cf;clear ce cf;have HB:=dm (Below.refl w.heap.size w);unfold qf.f at h;have H:=h;clear h;obtain⟨b7,bf⟩:∃y_:List (S59),y_=(([(⟨ai,aj⟩:S59)]:List (S59))):=⟨_,rfl⟩;replace H:((uz.f k ao ae b7).bind fun aM=>((zL.f k aM.1 aM.2 ai aj).bind fun af=>(qf.l0 k af (af.length:Int) 0 (wP [] ⟨ai,aj⟩) ao ae)))=some r:=pE bf H
 have cg:=dm bf;clear bf;obtain⟨⟨bO,bP⟩,A3,H⟩:=ol H;(try dsimp only at H);obtain⟨af,A4,H⟩:=ol H;(try dsimp only at H);have H':=dm H;clear H
 go_enter Try.func82,Try.ntmps82;try go_wp2_with (first|((with_reducible refine nP 2 rfl ?_);refine om 2 #[.int .i64 ao,.slice aG ae.length ax] 31 ?_;intro aq hg w5 nu hb;have aa:=dm (nu);have dO:=dm (x_:w.heap.size<=aq);have dP:=dm (x_:w.heap.size<=aq);replace HB:=nJ HB hb;clear hb nu hg)|((with_reducible refine nP 3 rfl ?_);refine om 3 #[.int .i64 ai,.int .i64 aj] 59 ?_;intro am hg w6 nu hb;have ab:=dm (nu);have dQ:=dm (x_:w.heap.size<=am);have dR:=dm (x_:w.heap.size<=am);replace HB:=nJ HB hb;have bn:=dm (KO:aq≠am);have bo:=dm (KD:am≠aq);replace aa:=nA aa hb;clear hb nu hg)|((with_reducible refine nP 12 rfl ?_);refine JK 12 ?_;intro ak hg w7 nu hb;have ac:=dm (nu);have dS:=dm (x_:w.heap.size<=ak);have ch:=dm (x_:w.heap.size<=ak);replace HB:=nJ HB hb;have aV:=dm (KO:aq≠ak);have bY:=dm (KD:ak≠aq);replace aa:=nA aa hb;have aW:=dm (Gw:am≠ak);have bZ:=dm (Gb:ak≠am);replace ab:=nA ab hb;clear hb nu hg;have en:=bo.out;have eo:=bn.out;have ep:=aW.out;have eq:=bZ.out;have⟨cu,cv,cw,cx⟩:=nK (w:=w7) ab)|((with_reducible refine Qy (t:=69) (m:=.tmp 12) (k:=.tmp 13) (x:=.const (.bool true)) rfl ?_);refine Qt (g:=ak) (l:=[]) (x0:=ai) (x1:=aj) rfl ac.out ?_;intro wm_ hm_ hgm_;replace aa:=dm (wT (g:=aq) (o:=.cells #[.int .i64 ao,.slice aG ae.length ax] 31 (0,0)) aa.out hgm_ (fun e_=>aV.out (Option.some.inj e_)));replace ab:=dm (wT (g:=am) (o:=.cells #[.int .i64 ai,.int .i64 aj] 59 (0,0)) ab.out hgm_ (fun e_=>aW.out (Option.some.inj e_)));replace ac:=dm hm_;replace HB:=dm (F5 (nC HB.out) hgm_ ch.out);clear hm_ hgm_))
 replace aa:=dm (nV aa.out);replace ab:=dm (nV ab.out);replace ac:=dm (nV ac.out);replace HB:=dm (o9 HB.out);refine pU 11 (S:=fun w'=>w'.cell? ⟨aq,0,none⟩=some (.int .i64 ao)/\w'.cell? ⟨aq,1,none⟩=some (.slice aG ae.length ax)/\w'.cell? ⟨am,0,none⟩=some (.int .i64 ai)/\w'.cell? ⟨am,1,none⟩=some (.int .i64 aj)) [] ⟨nk aa 0,nk aa 1,nk ab 0,nk ab 1⟩ qf.Es qf.Ed (fun hHeld HT_ HW_=>?_);generalize wm_.drew=ex at aa ab ac HB hHeld⊢;refine lq 4 19 16 ?_;refine lq 6 21 80 ?_;refine lq 10 25 1104 ?_;refine p8 0 15 1105 ?_;refine p8 1 16 1107 ?_;refine p8 5 20 1139 ?_;refine p8 7 22 1267 ?_;refine oD 2 17 1271 (fun K hK=>?_);refine AR k59 _ 59 ?hg (N:=17) ?hd (xs:=([(⟨ai,aj⟩:S59)]:List (S59))) (inner:=[.int .i64 ai,.int .i64 aj]) (ok:=fun _=>True) (okp:=fun _=>True) ?hr ?hp (fun _ hk=>hk) trivial (Below.refl _ _) (Nat.le_refl _) (by simp) ?_;(case hd=>rfl);(case hg=>rfl);(case hr=>first|(go_simp;done)|(go_simp;rfl));(case hp=>exact(oq.c2 (show Kd.M k59 _ _ _ (⟨ai,aj⟩:S59) [.int .i64 ai,.int .i64 aj] from(uJ _ _ _ (⟨ai,aj⟩:S59))) (oq.none _ _)));intro es ey bz hb hg_ pq;clear hg_ pq;(first|rw[←cg.out]at bz|(simp only [Int.reduceToNat]at bz;rw[←cg.out]at bz));have aC:=dm (oF (zg (zg bz (g:=am) (o:=.cells #[.int .i64 ai,.int .i64 aj] 59 (0,0)) (nG ab.out)) (g:=ak) (o:=qB _) (nG ac.out)) (nX (nC HB.out)));replace aa:=nA aa hb;replace ab:=nA ab hb;replace ac:=nA ac hb;replace HB:=nJ HB hb;clear hb bz;obtain⟨dl,dn,cG⟩:=nW aC.out;(first|subst cG|(injection cG with bp b3 bq;have b4:=bp.symm;have b5:=bq.symm;clear bp b3 bq;subst b4;subst b5));refine hK.out _ _ ⟨nk aa 0,nk aa 1,nk ab 0,nk ab 1⟩ (fun hHeld=>?_);clear hK K;refine nQ 17 ?_;refine oD 3 18 1279 (fun K hK=>?_);refine oO Try.func66 #[.agg #[.int .i64 ao,.slice aG ae.length ax],.slice dl b7.length dn] ?_;with_reducible refine(uz.calls k ao _ _ ae _ _ b7 bO bP _ ?ng ?ni ?sF ?sN A3.out).mono ?_
 (case ng=>exact nO (nT bN.out HB.out));(case ni=>exact cX.out);(case sF=>exact nO (nM aC.out).2.2);(case sN=>exact(nM aC.out).2.1);rintro e ez ⟨et,rfl,bE,hb⟩;refine⟨_,rfl,?_⟩;have a6:=dm (oF (zg (zg (pV bE (oN (nH aC.out))) (g:=am) (o:=.cells #[.int .i64 ai,.int .i64 aj] 59 (0,0)) (nG ab.out)) (g:=ak) (o:=qB _) (nG ac.out)) (nX (nC HB.out)));replace aC:=qm aC bE hb;replace aa:=nA aa hb;replace ab:=nA ab hb;replace ac:=nA ac hb;replace HB:=nJ HB hb;(try clear hb bE);obtain⟨dq,dr,cH⟩:=nW a6.out;(first|subst cH|(injection cH with bp b3 bq;have b4:=bp.symm;have b5:=bq.symm;clear bp b3 bq;subst b4;subst b5));refine hK.out _ _ ⟨nk aa 0,nk aa 1,nk ab 0,nk ab 1⟩ (fun hHeld=>?_);clear hK K;refine nQ 18 ?_;refine oD 8 23 1535 (fun K hK=>?_);refine oO Try.func112 #[.agg #[.int .i64 bO,.slice dq bP.length dr],.int .i64 ai,.int .i64 aj] ?_;with_reducible refine(zL.calls k bO _ _ bP ai aj af _ ?ng ?ni A4.out).mono ?_
 (case ng=>exact nO (nM a6.out).2.2);(case ni=>exact(nM a6.out).2.1);rintro e eA ⟨eu,rfl,bE,hb⟩;refine⟨_,rfl,?_⟩;replace aC:=ou aC hb;replace a6:=ou a6 hb;have ci:=dm (BZ bE (nX (nC HB.out)));replace aa:=nA aa hb;replace ab:=nA ab hb;replace ac:=nA ac hb;replace HB:=nJ HB hb;(try clear hb bE);obtain⟨dt,cI,cJ⟩:=FO ci.out;(first|subst cJ|(injection cJ with bp b3 bq;have b4:=bp.symm;have b5:=bq.symm;clear bp b3 bq;subst b4;subst b5));refine hK.out _ _ ⟨nk aa 0,nk aa 1,nk ab 0,nk ab 1⟩ (fun hHeld=>?_);clear hK K;refine nQ 23 ?_;refine lq 9 24 2047 ?_;refine pM (pQ HT_.out (by kernel_rfl)) ?_;try go_wp2
 go_loopg [25] k (fun kq dH w'=>∃ (ah:Int) (az:List (S59)),dH=.int .i64 ah/\lm (qf.l0 kq af (af.length:Int) ah az ao ae=some r)/\lm (kq<=k)/\lm (Kd.S (Kd.slice 3 (Kd.int .i64)) 45 w' w.heap.size (fun _=>True) (.slice dt af.length cI) af)/\lm (w'.heap[aq]? =some (.cells #[.int .i64 ao,(.slice aG ae.length ax)] 31 (0,0)))/\lm (w'.heap[am]? =some (.cells #[.int .i64 ai,.int .i64 aj] 59 (0,0)))/\lm (w'.heap[ak]? =some (qB az))/\lm (Below w.heap.size w w'))
 case atStart=>exact⟨(0),(wP [] ⟨ai,aj⟩),(Ah),H',⟨Nat.le_refl _⟩,⟨by(with_reducible repeat(first|apply wH|apply wI|apply vC));exact ci.out⟩,⟨nG aa.out⟩,⟨nG ab.out⟩,⟨nG ac.out⟩,⟨nC HB.out⟩⟩
 case round=>
  clear H';(try clear cu cv cw cx);obtain⟨ah,az,rfl,HA,br,aw,aa,ab,ac,HB⟩:=hrel;cases gk with
  |zero=>exact absurd HA.out (by simp[qf.l0])
  |succ k1=>
   have H:=HA.out;clear HA;simp only [qf.l0]at H
   by_cases bF:ah<(af.length:Int)
   ·rw[if_pos bF]at H;have bQ:=decide_eq_true bF;clear bF
    obtain⟨cY,H⟩:=oz H
    obtain⟨cZ,H⟩:=oz H;have H':=dm H;clear H;have bA:0<=(ah:Int):=nD;have bB:ah<(af.length:Int):=nD;obtain⟨c_,cL,cM,du,bG,bH,bI⟩:=rH (FC aw.out).2.2 ah bA bB;cases du;obtain⟨dT,cN,cO,b6⟩:=Qc aw.out [] ah bA (by first|exact bB|exact of_decide_eq_true (uh)|(have e_:=(FC aw.out).1;omega));obtain⟨dx,rfl,bl⟩:=cO;have aQ:=b6 0 _ rfl;rw[Nat.add_zero,show((Kd.slice 3 (Kd.int .i64))).sz=1 from rfl,Nat.mul_one]at aQ;replace aQ:=Option.some.inj (aQ.symm.trans bG);rw[aQ]at bl;have cy:=dm (show Kd.R (Kd.int .i64) 3 _ _ _ _ (nI af ah) from bl);clear aQ bl;clear b6 cN;have ap:=dm bI;have dy:=dm bH;clear bI bH;replace bA:=eq_true bA;replace bB:=eq_true bB
    go_wp2
    go_loopg [8] k1 (fun kq v8 w'=>∃ (au:Int) (aN:List (S59)),v8=.int .i64 au/\lm (qf.l1 kq (nI af ah) au af (af.length:Int) ah aN ao ae=some r)/\lm (kq<=k1)/\lm (Kd.S (Kd.slice 3 (Kd.int .i64)) 45 w' w.heap.size (fun _=>True) (.slice (some c_) af.length cI) af)/\lm (w'.heap[aq]? =some (.cells #[.int .i64 ao,(.slice aG ae.length ax)] 31 (0,0)))/\lm (w'.heap[am]? =some (.cells #[.int .i64 ai,.int .i64 aj] 59 (0,0)))/\lm (w'.heap[ak]? =some (qB aN))/\lm (Kd.R (Kd.int .i64) 3 w' w.heap.size (fun _=>True) (.slice cL (nI af ah).length cM) (nI af ah))/\lm (Below w.heap.size w w'))
    case atStart=>exact⟨(1),(az),(Ah),H',⟨Nat.le_refl _⟩,⟨Co⟩,⟨nG aa.out⟩,⟨nG ab.out⟩,⟨nG ac.out⟩,⟨nL cy.out (fun _ _=>trivial)⟩,⟨nC HB.out⟩⟩
    case round=>
     clear H';(try clear bQ cY cZ bG bA bB);obtain⟨au,aN,rfl,HA,bh,aw,aa,ab,ac,ap,HB⟩:=hrel;cases gk with
     |zero=>exact absurd HA.out (by simp[qf.l1])
     |succ k2=>
      have H:=HA.out;clear HA;simp only [qf.l1]at H
      by_cases bJ:au<((nI af ah).length:Int)
      ·rw[if_pos bJ]at H;have db:=decide_eq_true bJ;clear bJ;obtain⟨ay,bv⟩:∃j_:Int,(wrap64 (au - 1))=j_:=⟨_,rfl⟩;replace H:(if 0<=(ay) then(if(ay)<((nI af ah).length:Int) then(if 0<=au then((vW.f (rd (nI af ah) (ay)) (rd (nI af ah) au)).bind fun ba=>(qf.l1 k2 (nI af ah) (wrap64 (au+1)) af (af.length:Int) ah (wP aN ⟨ba.1,ba.2⟩) ao ae)) else(none)) else(none)) else(none))=some r:=by first|(rw[bv]at H;exact H)|(simp only [bv]at H⊢;exact H)
       have dI:(IntKind.i64.wrap (au - 1))=ay:=(qA _).trans bv
       obtain⟨dU,H⟩:=oz H
       obtain⟨dV,H⟩:=oz H
       obtain⟨dW,H⟩:=oz H;obtain⟨⟨bR,bS⟩,dJ,H⟩:=ol H;(try dsimp only at H);have H':=dm H;clear H;try go_wp2
       replace aw:=dm (vC aw.out);replace aa:=dm (nV aa.out);replace ab:=dm (nV ab.out);replace ac:=dm (nV ac.out);replace ap:=dm (nN ap.out);replace HB:=dm (o9 HB.out);have b8:0<=((ay):Int):=nD;have b9:(ay)<((nI af ah).length:Int):=nD;obtain⟨bT,dv,bK⟩:=oG (nM ap.out).2.2 (ay) b8 b9;have aI:=bK;cases dv;replace b8:=eq_true b8;replace b9:=eq_true b9;have b_:0<=(au:Int):=nD;have ca:au<((nI af ah).length:Int):=nD;obtain⟨dc,dw,bL⟩:=oG (nM ap.out).2.2 au b_ ca;have aK:=bL;obtain rfl:bT=dc:=(by injection dw);replace b_:=eq_true b_;replace ca:=eq_true ca;refine pU 12 (S:=fun w'=>w'.cell? (bT.add ((ay)).toNat)=some (.int .i64 (rd (nI af ah) (ay)))/\w'.cell? (bT.add (au).toNat)=some (.int .i64 (rd (nI af ah) au))) [11] ⟨aI,aK⟩ qf.xw qf.xu (fun hHeld HT_ HW_=>?_);generalize wr.drew=eB at aw aa ab ac ap HB bK bL aI aK hHeld⊢;refine lq 0 35 1 ?_;refine lq 1 36 3 ?_;refine lq 2 37 7 ?_;refine lq 3 38 15 ?_;refine lq 4 39 31 ?_;refine lq 6 41 95 ?_;refine lq 7 42 223 ?_;refine lq 8 43 479 ?_;refine qZ 5 40 511 ?_;refine qZ 9 44 1023 ?_;refine oD 10 45 2047 (fun K hK=>?_);refine ug Try.func53 (by kernel_rfl) rfl #[.int .i64 (rd (nI af ah) (ay)),.int .i64 (rd (nI af ah) au)] (by rfl) rfl rfl (by(try simp only [List.map_toArray,List.map_cons,List.map_nil]);first|done|(simp only [bv];rfl)|rfl|(simp only [List.length_drop,List.length_take];rfl)) ?_;with_reducible refine(vW.calls (rd (nI af ah) (ay)) (rd (nI af ah) au) bR bS _ dJ.out).mono ?_
       rintro e eC ⟨rfl,hb⟩;replace aI:=(hb.cell (World.block_lt_of_cell? _ _ aI)).trans aI;replace aK:=(hb.cell (World.block_lt_of_cell? _ _ aK)).trans aK;refine⟨_,rfl,?_⟩;replace aw:=dm (um (Co) hb);replace aa:=nA aa hb;replace ab:=nA ab hb;replace ac:=nA ac hb;replace ap:=dm (uf (nH ap.out) hb);replace HB:=nJ HB hb;(try clear hb);refine hK.out _ _ ⟨aI,aK⟩ (fun hHeld=>?_);clear hK K;refine nQ 45 ?_;refine vz 11 (none) (pg 12 4095) (fun K hK=>?_);refine Qp (g:=ak) (l:=aN) (x0:=bR) (x1:=bS) rfl ac.out (by rfl) rfl (by rfl) (by rfl) (by rfl) ?_;intro wm_ hm_ hgm_;refine hK.out _ _ ?_;clear hK K;refine pM (pQ HT_.out (by kernel_rfl)) ?_;have n0:=dm (uZ (OI (Ou aw.out ac.out) hgm_ (fun k_ hk e_=>hk.2 (Option.some.inj e_))) (fun _ _=>trivial));have n1:=dm (wT (g:=aq) (o:=.cells #[.int .i64 ao,.slice aG ae.length ax] 31 (0,0)) aa.out hgm_ (fun e_=>aV.out (Option.some.inj e_)));have n2:=dm (wT (g:=am) (o:=.cells #[.int .i64 ai,.int .i64 aj] 59 (0,0)) ab.out hgm_ (fun e_=>aW.out (Option.some.inj e_)));have n3:=dm hm_;have n4:=dm (nL (Ce (F7 ap.out ac.out) hgm_ (fun k_ hk e_=>hk.2 (Option.some.inj e_))) (fun _ _=>trivial));have n5:=dm (F5 (nC HB.out) hgm_ ch.out);clear aw aa ab ac ap HB hm_ hgm_;revert n0 n1 n2 n3 n4 n5;intro aw aa ab ac ap HB;try go_wp2
       go_roundg k2
       case measure=>have:=br.out;have:=bh.out;omega
       case rel=>exact⟨(wrap64 (au+1)),(wP aN ⟨bR,bS⟩),(Ah),H',⟨by have:=br.out;have:=bh.out;omega⟩,⟨Co⟩,⟨nG aa.out⟩,⟨nG ab.out⟩,⟨nG ac.out⟩,⟨nH ap.out⟩,⟨nC HB.out⟩⟩
      ·rw[if_neg bJ]at H;have db:=decide_eq_false bJ;clear bJ;have H':=dm H;clear H
       go_wp2
       go_roundg k2
       case measure=>have:=br.out;have:=bh.out;omega
       case rel=>exact⟨(wrap64 (ah+1)),(aN),(Ah),H',⟨by have:=br.out;have:=bh.out;omega⟩,⟨Co⟩,⟨nG aa.out⟩,⟨nG ab.out⟩,⟨nG ac.out⟩,⟨nC HB.out⟩⟩
   ·rw[if_neg bF]at H;have bQ:=decide_eq_false bF;clear bF;obtain⟨cP,bj⟩:∃y_:List (S59),y_=(([]:List (S59))):=⟨_,rfl⟩;replace H:(qf.l2 k1 cP ae (ae.length:Int) 0 az)=some r:=pE bj H
    have co:=dm bj;clear bj;have H':=dm H;clear H
    go_wp2_with (first|((with_reducible refine nP 47 rfl ?_);refine rU k59 _ 59 ?hg (N:=47) ?hd (xs:=([]:List (S59))) (inner:=[]) (ok:=fun _=>True) (okp:=fun _=>True) ?hr ?hp (fun _ hk=>hk) trivial (Below.refl _ _) (Nat.le_refl _) (by simp) ?_;(case hd=>rfl);(case hg=>rfl);(case hr=>first|(go_simp;done)|(go_simp;rfl));(case hp=>exact(oq.none _ _));intro ev dK bC hb hg_ pq;clear hg_ pq;(first|rw[←co.out]at bC|(simp only [Int.reduceToNat]at bC;rw[←co.out]at bC));replace aw:=dm (um (Co) hb);have dd:=dm (oF (zg (zg bC (g:=am) (o:=.cells #[.int .i64 ai,.int .i64 aj] 59 (0,0)) (nG ab.out)) (g:=ak) (o:=qB _) (nG ac.out)) (nX (nC HB.out)));replace aa:=nA aa hb;replace ab:=nA ab hb;replace ac:=nA ac hb;replace HB:=nJ HB hb;clear hb bC;have dX:=bn.out;have dY:=bo.out;have dZ:=aV.out;have d7:=bY.out;have⟨cz,cA,cD,cE⟩:=nK (w:=dK) aa))
    go_loopg [9,51] k1 (fun kq v9 dL w'=>∃ (a7:List (S59)) (ag:Int),dL=.int .i64 ag/\lm (qf.l2 kq a7 ae (ae.length:Int) ag az=some r)/\lm (kq<=k1)/\lm (Kd.R k59 59 w' w.heap.size (fun k_=>k_≠am/\k_≠ak) v9 a7)/\lm (w'.heap[aq]? =some (.cells #[.int .i64 ao,(.slice aG ae.length ax)] 31 (0,0)))/\lm (w'.heap[am]? =some (.cells #[.int .i64 ai,.int .i64 aj] 59 (0,0)))/\lm (w'.heap[ak]? =some (qB az))/\lm (Below w.heap.size w w'))
    case atStart=>exact⟨(cP),(0),(Ah),H',⟨Nat.le_refl _⟩,⟨by(with_reducible repeat(first|apply nY|apply nZ|apply nN));exact nL dd.out (fun _ hk=>⟨hk.1.2,hk.2⟩)⟩,⟨nG aa.out⟩,⟨nG ab.out⟩,⟨nG ac.out⟩,⟨nC HB.out⟩⟩
    case round=>
     clear H';(try clear bQ cz cA cD cE);obtain⟨a7,ag,rfl,HA,bh,aA,aa,ab,ac,HB⟩:=hrel;cases gk with
     |zero=>exact absurd HA.out (by simp[qf.l2])
     |succ k2=>
      have H:=HA.out;clear HA;simp only [qf.l2]at H
      by_cases bM:ag<(ae.length:Int)
      ·rw[if_pos bM]at H;have de:=decide_eq_true bM;clear bM
       obtain⟨d8,H⟩:=oz H
       obtain⟨d9,H⟩:=oz H
       by_cases cr:rZ az (ny ae ag).f0 (ny ae ag).f1=true
       ·rw[if_pos cr]at H
        obtain⟨ct,H⟩:=qd H;have df:=dm ct;clear ct;obtain⟨cQ,bk⟩:∃y_:List (S59),y_=(a7++[(⟨(ny ae ag).f0,(ny ae ag).f1⟩:S59)]):=⟨_,rfl⟩;replace H:(qf.l2 k2 cQ ae (ae.length:Int) (wrap64 (ag+1)) az)=some r:=pE bk H
        have dg:=dm bk;clear bk;have H':=dm H;clear H;have a8:0<=(ag:Int):=nD;have a9:ag<(ae.length:Int):=nD;obtain⟨bu,cd,aR,aT⟩:=qC bN.out ag a8 a9;cases cd;replace aR:=nE HB aR;replace aT:=nE HB aT;replace a8:=eq_true a8;replace a9:=eq_true a9
        go_wp2_with (first|((with_reducible refine nP 57 rfl ?_);refine D_ 57 (g:=ak) (l:=az) (x0:=(ny ae ag).f0) (x1:=(ny ae ag).f1) (b:=true) (xz (xz ac.out av.out _) av.out _) cr ?_)|((with_reducible refine nP 11 rfl ?_);refine om 11 #[.int .i64 0,.int .i64 0] 59 ?_;intro al hg dM nu hb;have n0:=dm (uf (DD (nH aA.out) al (Nat.le_of_eq hg.symm)) hb);have n1:=nA aa hb;have n2:=nA ab hb;have n3:=nA ac hb;have n4:=nJ HB hb;have n5:=dm (nu);have n6:=dm (x_:w.heap.size<=al);have n7:=dm (x_:w.heap.size<=al);have n8:=dm (KX:aq≠al);have n9:=dm (Kh:al≠aq);have cS:=dm (Gw:am≠al);have cT:=dm (Gb:al≠am);have cU:=dm ((by rw[hg];exact Nat.ne_of_lt (oQ (g:=ak) (o:=qB _) (nG ac.out)):ak≠al));have cW:=dm ((by rw[hg];exact Nat.ne_of_gt (oQ (g:=ak) (o:=qB _) (nG ac.out)):al≠ak));clear aA aa ab ac HB;revert n0 n1 n2 n3 n4 n5 n6 n7 n8 n9 cS cT cU cW;intro aA aa ab ac HB a4 dh di aE aX aD aY av aZ;clear hb nu hg;have d_:=aX.out;have ea:=aE.out;have eb:=aY.out;have ec:=aD.out;have ed:=aZ.out;have ee:=av.out;have⟨dz,dA,dB,dC⟩:=nK (w:=dM) a4)|((with_reducible refine sj (b:=.append) (xs:= #[.tmp 58,.tmp 60]) rfl ?_);at_builtin;refine tL k59 (w0:=w) w.heap.size rfl (.tmp 58) (.tmp 60) 29 59 (.agg #[(.int .i64 0),(.int .i64 0)]) 16 rfl Try.underlying29 u_ rfl (by decide) (by omega) u9 a7 (⟨(ny ae ag).f0,(ny ae ag).f1⟩:S59) [.int .i64 ((ny ae ag).f0),.int .i64 ((ny ae ag).f1)] (fun k_=>k_≠am/\k_≠ak/\k_≠al) (fun _=>False) rfl (by first|(go_simp;done)|(go_simp;rfl)) ?aP (fun _ hk=>hk.elim) ?aF ?aO ?aB ?aS ?aL ?_;(case aP=>exact uJ _ _ _ (⟨(ny ae ag).f0,(ny ae ag).f1⟩:S59));(case aB=>exact(nC HB.out));(case aF=>exact(fun k_ hk=>⟨rG (g:=am) (o:=.cells #[.int .i64 ai,.int .i64 aj] 59 (0,0)) (Gp) k_ hk,rG (g:=ak) (o:=qB _) (G7) k_ hk,rG (g:=al) (o:=.cells #[.int .i64 ((ny ae ag).f0),.int .i64 ((ny ae ag).f1)] 59 (0,0)) (Ku) k_ hk⟩));(case aO=>exact(by(with_reducible repeat(first|apply nY|apply nZ|apply nN));exact nL (nR (p:=⟨al,1,none⟩) (nR (p:=⟨al,0,none⟩) (nL aA.out (fun k_ hk=>(⟨hk,hk.2⟩:_/\k_≠al))) (fun _ hk=>hk.2) (.int .i64 ((ny ae ag).f0))) (fun _ hk=>hk.2) (.int .i64 ((ny ae ag).f1))) (fun _ hk=>⟨hk.1.1.1,⟨hk.1.1.2,hk.1.2⟩⟩)));(case aS=>exact(nX (nC HB.out)));(case aL=>have:=df.out;omega);intro ew eD ho hb hg hat;rw[←dg.out]at ho;have n0:=dm (wT (g:=aq) (o:=.cells #[.int .i64 ao,.slice (some bu) ae.length ax] 31 (0,0)) (K7) hg (pG aA.out aa.out (by decide)));have n1:=dm (wT (g:=am) (o:=.cells #[.int .i64 ai,.int .i64 aj] 59 (0,0)) (Gp) hg (yB aA.out (fun _ hk=>hk.1.1)));have n2:=dm (wT (g:=ak) (o:=qB _) (G7) hg (yB aA.out (fun _ hk=>hk.1.2)));have n3:=dm (wT (g:=al) (o:=.cells #[.int .i64 ((ny ae ag).f0),.int .i64 ((ny ae ag).f1)] 59 (0,0)) (Ku) hg (yB aA.out (fun _ hk=>hk.2)));have n4:=dm (hb);have n5:=dm (ho);clear aa ab ac a4 HB aA;revert n0 n1 n2 n3 n4 n5;intro aa ab ac a4 HB dj;clear ho hb hg hat))
        go_roundg k2
        case measure=>have:=br.out;have:=bh.out;omega
        case rel=>exact⟨(cQ),(wrap64 (ag+1)),(Ah),H',⟨by have:=br.out;have:=bh.out;omega⟩,⟨by(with_reducible repeat(first|apply nY|apply nZ|apply nN));exact nL dj.out (fun _ hk=>⟨hk.1,hk.2.1⟩)⟩,⟨nG aa.out⟩,⟨nG ab.out⟩,⟨nG ac.out⟩,⟨nC HB.out⟩⟩
       ·rw[if_neg cr]at H;have H':=dm H;clear H;have a8:0<=(ag:Int):=nD;have a9:ag<(ae.length:Int):=nD;obtain⟨bu,cd,aR,aT⟩:=qC bN.out ag a8 a9;cases cd;replace aR:=nE HB aR;replace aT:=nE HB aT;replace a8:=eq_true a8;replace a9:=eq_true a9
        go_wp2_with (first|((with_reducible refine nP 57 rfl ?_);refine D_ 57 (g:=ak) (l:=az) (x0:=(ny ae ag).f0) (x1:=(ny ae ag).f1) (b:=false) (xz (xz ac.out av.out _) av.out _) (Bool.eq_false_iff.mpr cr) ?_)|((with_reducible refine nP 11 rfl ?_);refine om 11 #[.int .i64 0,.int .i64 0] 59 ?_;intro al hg dN nu hb;have n0:=dm (uf (DD (nH aA.out) al (Nat.le_of_eq hg.symm)) hb);have n1:=nA aa hb;have n2:=nA ab hb;have n3:=nA ac hb;have n4:=nJ HB hb;have n5:=dm (nu);have n6:=dm (x_:w.heap.size<=al);have n7:=dm (x_:w.heap.size<=al);have n8:=dm (KX:aq≠al);have n9:=dm (Kh:al≠aq);have cS:=dm (Gw:am≠al);have cT:=dm (Gb:al≠am);have cU:=dm ((by rw[hg];exact Nat.ne_of_lt (oQ (g:=ak) (o:=qB _) (nG ac.out)):ak≠al));have cW:=dm ((by rw[hg];exact Nat.ne_of_gt (oQ (g:=ak) (o:=qB _) (nG ac.out)):al≠ak));clear aA aa ab ac HB;revert n0 n1 n2 n3 n4 n5 n6 n7 n8 n9 cS cT cU cW;intro aA aa ab ac HB a4 dh di aE aX aD aY av aZ;clear hb nu hg;have ef:=aX.out;have eg:=aE.out;have eh:=aY.out;have ei:=aD.out;have ej:=aZ.out;have ek:=av.out;have⟨dD,dE,dF,dG⟩:=nK (w:=dN) a4))
        go_roundg k2
        case measure=>have:=br.out;have:=bh.out;omega
        case rel=>exact⟨(a7),(wrap64 (ag+1)),(Ah),H',⟨by have:=br.out;have:=bh.out;omega⟩,⟨by(with_reducible repeat(first|apply nY|apply nZ|apply nN));exact nL (nR (p:=⟨al,1,none⟩) (nR (p:=⟨al,0,none⟩) (nL aA.out (fun k_ hk=>(⟨hk,hk.2⟩:_/\k_≠al))) (fun _ hk=>hk.2) (.int .i64 ((ny ae ag).f0))) (fun _ hk=>hk.2) (.int .i64 ((ny ae ag).f1))) (fun _ hk=>⟨hk.1.1.1,hk.1.1.2⟩)⟩,⟨K7⟩,⟨Gp⟩,⟨G7⟩,⟨nC HB.out⟩⟩
      ·rw[if_neg bM]at H;have de:=decide_eq_false bM;clear bM;obtain rfl:=Option.some.inj H
       go_wp2
       go_ret
       exact⟨_,qD,by(with_reducible repeat(first|apply nY|apply nZ|apply nN));exact nL aA.out (fun _ hk=>trivial),nC HB.out⟩
theorem BD {p:Prop}(h:p:=by rw[hg];exact Nat.ne_of_lt (oQ (g:=ae) (o:=.cells #[.int .i64 ai,.slice aq ag.length au] 31 (0,0)) (nG aa.out))):p:=h
theorem BA {p:Prop}(h:p:=by rw[hg];exact Nat.ne_of_gt (oQ (g:=ae) (o:=.cells #[.int .i64 ai,.slice aq ag.length au] 31 (0,0)) (nG aa.out))):p:=h
theorem GH {p:Prop}(h:p:=by rw[hg];exact Nat.ne_of_lt (oQ (g:=af) (o:=.cells #[.int .i64 aj,.int .i64 ak] 59 (0,0)) (nG ab.out))):p:=h
theorem GJ {p:Prop}(h:p:=by rw[hg];exact Nat.ne_of_gt (oQ (g:=af) (o:=.cells #[.int .i64 aj,.int .i64 ak] 59 (0,0)) (nG ab.out))):p:=h
theorem Cr {p:Prop}(h:p:=by first|rfl|(simp[qa,qb]<;>rfl)|(simp[*,qa,qb]<;>rfl)):p:=h
theorem uw {p:Prop}(h:p:=by rw[hg];exact(nX (nC HB.out))):p:=h
theorem CV {p:Prop}(h:p:=by kernel_rfl):p:=h
def ul.f (k:Nat) (ai:Int) (ag:List (S59)) (aj:Int) (ak:Int) (ao:Int) (ap:Int):Option (Bool):=(qI.f k ai ag).bind fun az=>(if az=true then((uF.f k ag aj ak).bind fun av=>(if av=true then((qf.f k ai ag aj ak).bind fun al=>((uF.f k al ao ap).bind fun am=>(some am))) else(some false))) else(some false))
def ul.T1:Bool×List (List Nat×List Nat):=(true,[([],[]),([0],[0]),([1,1],[1]),([2],[2]),([3,2],[2,3]),([2],[2]),([4,5,2,2],[2,4,5]),([2,6],[2,6]),([7,6],[7]),([8],[8]),([8],[8]),([9,10,8,8],[8,9,10]),([8],[8]),([11,12,11,8],[8,11,12]),([8,13],[8,13]),([14,13,0,1,2,3,4,5,6,7,8,9,10,11,12,13,14],[14])])
def ul.B1:List Nat:=[0,1,3,7,15,7,63,127,255,511,511,2047,511,8191,16383,32767]
theorem ul.AB:p_ .any (opsOf Try.f38 1)=ul.T1:=by kernel_rfl
theorem ul.Ag:qQ ul.T1.2 ul.B1=true:=by kernel_rfl
theorem ul.calls (k:Nat) (ai:Int) (aq:Option Addr) (au:Nat) (ag:List (S59)) (aj:Int) (ak:Int) (ao:Int) (ap:Int) (r:Bool) (w:World) (aP:Kd.C k59 w aq ag.length ag) (aQ:ag.length<=au) (h:ul.f k ai ag aj ak ao ap=some r):
  Calls Try.prog 38 #[.agg #[.int .i64 ai,.slice aq ag.length au],.agg #[.int .i64 aj,.int .i64 ak],.agg #[.int .i64 ao,.int .i64 ap]] w fun e w'=>e=.returned (.bool r)/\Below w.heap.size w w':=by
 have bq:=Try.underlying31;have aX:=Try.underlying59;have aA:=dm aP;have aB:=dm aQ;clear aP aQ;have HB:=dm (Below.refl w.heap.size w);unfold ul.f at h;have H:=h;clear h;obtain⟨az,A4,H⟩:=ol H;(try dsimp only at H)
 rcases pJ H with⟨h_,H_⟩|⟨h_,H_⟩<;> (subst h_;clear H;have H:=H_;clear H_)
 ·obtain⟨av,A6,H⟩:=ol H;(try dsimp only at H)
  rcases pJ H with⟨h_,H_⟩|⟨h_,H_⟩<;> (subst h_;clear H;have H:=H_;clear H_)
  ·obtain⟨al,A8,H⟩:=ol H;(try dsimp only at H);obtain⟨am,A9,H⟩:=ol H;(try dsimp only at H);obtain rfl:=Option.some.inj H
   go_enter Try.func38,Try.ntmps38;try go_wp2_with (first|((with_reducible refine nP 3 rfl ?_);refine om 3 #[.int .i64 ai,.slice aq ag.length au] 31 ?_;intro ae hg br nu hb;have aa:=dm (nu);have aI:=dm (uw:w.heap.size<=ae);have aK:=dm (uw:w.heap.size<=ae);replace HB:=nJ HB hb;clear hb nu hg)|((with_reducible refine nP 4 rfl ?_);refine om 4 #[.int .i64 aj,.int .i64 ak] 59 ?_;intro af hg bu nu hb;have ab:=dm (nu);have aL:=dm (uw:w.heap.size<=af);have aM:=dm (uw:w.heap.size<=af);replace HB:=nJ HB hb;have aC:=dm (BD:ae≠af);have aD:=dm (BA:af≠ae);replace aa:=nA aa hb;clear hb nu hg)|((with_reducible refine nP 5 rfl ?_);refine om 5 #[.int .i64 ao,.int .i64 ap] 59 ?_;intro ah hg a7 nu hb;have ac:=dm (nu);have aN:=dm (uw:w.heap.size<=ah);have aO:=dm (uw:w.heap.size<=ah);replace HB:=nJ HB hb;have aE:=dm (BD:ae≠ah);have aF:=dm (BA:ah≠ae);replace aa:=nA aa hb;have aG:=dm (GH:af≠ah);have aH:=dm (GJ:ah≠af);replace ab:=nA ab hb;clear hb nu hg))
   replace aa:=dm (nV aa.out);replace ab:=dm (nV ab.out);replace ac:=dm (nV ac.out);replace HB:=dm (o9 HB.out);refine pU 16 (S:=fun w'=>w'.cell? ⟨ae,0,none⟩=some (.int .i64 ai)/\w'.cell? ⟨ae,1,none⟩=some (.slice aq ag.length au)/\w'.cell? ⟨af,0,none⟩=some (.int .i64 aj)/\w'.cell? ⟨af,1,none⟩=some (.int .i64 ak)/\w'.cell? ⟨ah,0,none⟩=some (.int .i64 ao)/\w'.cell? ⟨ah,1,none⟩=some (.int .i64 ap)) [] ⟨nk aa 0,nk aa 1,nk ab 0,nk ab 1,nk ac 0,nk ac 1⟩ ul.AB ul.Ag (fun hHeld HT_ HW_=>?_);generalize a7.drew=bv at aa ab ac HB hHeld⊢;refine pX 0 7 1 ?_;refine oD 1 8 3 (fun K hK=>?_);refine oO Try.func50 #[.agg #[.int .i64 ai,.slice aq ag.length au]] ?_;with_reducible refine(qI.calls k ai _ _ ag true _ ?ng ?ni A4.out).mono ?_
   (case ng=>exact nO (nT aA.out HB.out));(case ni=>exact aB.out);rintro e bx ⟨rfl,hb⟩;refine⟨_,rfl,?_⟩;replace aa:=nA aa hb;replace ab:=nA ab hb;replace ac:=nA ac hb;replace HB:=nJ HB hb;(try clear hb);refine hK.out _ _ ⟨nk aa 0,nk aa 1,nk ab 0,nk ab 1,nk ac 0,nk ac 1⟩ (fun hHeld=>?_);clear hK K;refine nQ 8 ?_;refine lq 2 9 7 ?_;refine lq 3 10 15 ?_;refine pX 4 11 31 ?_;refine pX 5 12 63 ?_;refine oD 6 13 127 (fun K hK=>?_);refine oO Try.func81 #[.slice aq ag.length au,.agg #[.int .i64 aj,.int .i64 ak]] ?_;with_reducible refine(uF.calls k _ _ ag aj ak true _ ?ng ?ni A6.out).mono ?_
   (case ng=>exact nO (nT aA.out HB.out));(case ni=>exact aB.out);rintro e bz ⟨rfl,hb⟩;refine⟨_,rfl,?_⟩;replace aa:=nA aa hb;replace ab:=nA ab hb;replace ac:=nA ac hb;replace HB:=nJ HB hb;(try clear hb);refine hK.out _ _ ⟨nk aa 0,nk aa 1,nk ab 0,nk ab 1,nk ac 0,nk ac 1⟩ (fun hHeld=>?_);clear hK K;refine nQ 13 ?_;refine lq 7 14 255 ?_;refine lq 8 15 511 ?_;refine pX 9 16 1023 ?_;refine pX 10 17 2047 ?_;refine pX 12 19 6143 ?_;refine oD 11 18 8191 (fun K hK=>?_);refine oO Try.func82 #[.agg #[.int .i64 ai,.slice aq ag.length au],.agg #[.int .i64 aj,.int .i64 ak]] ?_;with_reducible refine(qf.calls k ai _ _ ag aj ak al _ ?ng ?ni A8.out).mono ?_
   (case ng=>exact nO (nT aA.out HB.out));(case ni=>exact aB.out);rintro e bA ⟨bp,rfl,aU,hb⟩;refine⟨_,rfl,?_⟩;have ax:=dm (oF (zg (zg aU (g:=af) (o:=.cells #[.int .i64 aj,.int .i64 ak] 59 (0,0)) (nG ab.out)) (g:=ah) (o:=.cells #[.int .i64 ao,.int .i64 ap] 59 (0,0)) (nG ac.out)) (nX (nC HB.out)));replace aa:=nA aa hb;replace ab:=nA ab hb;replace ac:=nA ac hb;replace HB:=nJ HB hb;(try clear hb aU);obtain⟨aY,aZ,aR⟩:=nW ax.out;(first|subst aR|(injection aR with aV a8 aW;have a9:=aV.symm;have a_:=aW.symm;clear aV a8 aW;subst a9;subst a_));refine hK.out _ _ ⟨nk aa 0,nk aa 1,nk ab 0,nk ab 1,nk ac 0,nk ac 1⟩ (fun hHeld=>?_);clear hK K;refine nQ 18 ?_;refine oD 13 20 16383 (fun K hK=>?_);refine oO Try.func81 #[.slice aY al.length aZ,.agg #[.int .i64 ao,.int .i64 ap]] ?_;with_reducible refine(uF.calls k _ _ al ao ap am _ ?ng ?ni A9.out).mono ?_
   (case ng=>exact nO (nM ax.out).2.2);(case ni=>exact(nM ax.out).2.1);rintro e bB ⟨rfl,hb⟩;refine⟨_,rfl,?_⟩;replace ax:=ou ax hb;replace aa:=nA aa hb;replace ab:=nA ab hb;replace ac:=nA ac hb;replace HB:=nJ HB hb;(try clear hb);refine hK.out _ _ ⟨nk aa 0,nk aa 1,nk ab 0,nk ab 1,nk ac 0,nk ac 1⟩ (fun hHeld=>?_);clear hK K;refine nQ 20 ?_;refine lq 14 21 32767 ?_;refine lq 15 6 65535 ?_;refine pM (pQ HT_.out (CV)) ?_;try go_wp2
   go_ret
   exact⟨Cr,nC HB.out⟩
  ·obtain rfl:=Option.some.inj H
   go_enter Try.func38,Try.ntmps38;try go_wp2_with (first|((with_reducible refine nP 3 rfl ?_);refine om 3 #[.int .i64 ai,.slice aq ag.length au] 31 ?_;intro ae hg bC nu hb;have aa:=dm (nu);have aI:=dm (uw:w.heap.size<=ae);have aK:=dm (uw:w.heap.size<=ae);replace HB:=nJ HB hb;clear hb nu hg)|((with_reducible refine nP 4 rfl ?_);refine om 4 #[.int .i64 aj,.int .i64 ak] 59 ?_;intro af hg bD nu hb;have ab:=dm (nu);have aL:=dm (uw:w.heap.size<=af);have aM:=dm (uw:w.heap.size<=af);replace HB:=nJ HB hb;have aC:=dm (BD:ae≠af);have aD:=dm (BA:af≠ae);replace aa:=nA aa hb;clear hb nu hg)|((with_reducible refine nP 5 rfl ?_);refine om 5 #[.int .i64 ao,.int .i64 ap] 59 ?_;intro ah hg ba nu hb;have ac:=dm (nu);have aN:=dm (uw:w.heap.size<=ah);have aO:=dm (uw:w.heap.size<=ah);replace HB:=nJ HB hb;have aE:=dm (BD:ae≠ah);have aF:=dm (BA:ah≠ae);replace aa:=nA aa hb;have aG:=dm (GH:af≠ah);have aH:=dm (GJ:ah≠af);replace ab:=nA ab hb;clear hb nu hg))
   replace aa:=dm (nV aa.out);replace ab:=dm (nV ab.out);replace ac:=dm (nV ac.out);replace HB:=dm (o9 HB.out);refine pU 16 (S:=fun w'=>w'.cell? ⟨ae,0,none⟩=some (.int .i64 ai)/\w'.cell? ⟨ae,1,none⟩=some (.slice aq ag.length au)/\w'.cell? ⟨af,0,none⟩=some (.int .i64 aj)/\w'.cell? ⟨af,1,none⟩=some (.int .i64 ak)) [] ⟨nk aa 0,nk aa 1,nk ab 0,nk ab 1⟩ ul.AB ul.Ag (fun hHeld HT_ HW_=>?_);generalize ba.drew=bE at aa ab ac HB hHeld⊢;refine p8 0 7 1 ?_;refine oD 1 8 3 (fun K hK=>?_);refine oO Try.func50 #[.agg #[.int .i64 ai,.slice aq ag.length au]] ?_;with_reducible refine(qI.calls k ai _ _ ag true _ ?ng ?ni A4.out).mono ?_
   (case ng=>exact nO (nT aA.out HB.out));(case ni=>exact aB.out);rintro e bF ⟨rfl,hb⟩;refine⟨_,rfl,?_⟩;replace aa:=nA aa hb;replace ab:=nA ab hb;replace ac:=nA ac hb;replace HB:=nJ HB hb;(try clear hb);refine hK.out _ _ ⟨nk aa 0,nk aa 1,nk ab 0,nk ab 1⟩ (fun hHeld=>?_);clear hK K;refine nQ 8 ?_;refine lq 2 9 7 ?_;refine lq 3 10 15 ?_;refine p8 4 11 31 ?_;refine p8 5 12 63 ?_;refine oD 6 13 127 (fun K hK=>?_);refine oO Try.func81 #[.slice aq ag.length au,.agg #[.int .i64 aj,.int .i64 ak]] ?_;with_reducible refine(uF.calls k _ _ ag aj ak false _ ?ng ?ni A6.out).mono ?_
   (case ng=>exact nO (nT aA.out HB.out));(case ni=>exact aB.out);rintro e bG ⟨rfl,hb⟩;refine⟨_,rfl,?_⟩;replace aa:=nA aa hb;replace ab:=nA ab hb;replace ac:=nA ac hb;replace HB:=nJ HB hb;(try clear hb);refine hK.out _ _ ⟨nk aa 0,nk aa 1,nk ab 0,nk ab 1⟩ (fun hHeld=>?_);clear hK K;refine nQ 13 ?_;refine lq 7 14 255 ?_;refine lq 8 15 511 ?_;refine oC 9 16 1023 ?_;refine oC 10 17 2047 ?_;refine oC 11 18 4095 ?_;refine oC 12 19 8191 ?_;refine oC 13 20 16383 ?_;refine lq 14 21 32767 ?_;refine lq 15 6 65535 ?_;refine pM (pQ HT_.out (CV)) ?_;try go_wp2
   go_ret
   exact⟨Cr,nC HB.out⟩
 ·obtain rfl:=Option.some.inj H
  go_enter Try.func38,Try.ntmps38;try go_wp2_with (first|((with_reducible refine nP 3 rfl ?_);refine om 3 #[.int .i64 ai,.slice aq ag.length au] 31 ?_;intro ae hg bH nu hb;have aa:=dm (nu);have aI:=dm (uw:w.heap.size<=ae);have aK:=dm (uw:w.heap.size<=ae);replace HB:=nJ HB hb;clear hb nu hg)|((with_reducible refine nP 4 rfl ?_);refine om 4 #[.int .i64 aj,.int .i64 ak] 59 ?_;intro af hg bI nu hb;have ab:=dm (nu);have aL:=dm (uw:w.heap.size<=af);have aM:=dm (uw:w.heap.size<=af);replace HB:=nJ HB hb;have aC:=dm (BD:ae≠af);have aD:=dm (BA:af≠ae);replace aa:=nA aa hb;clear hb nu hg)|((with_reducible refine nP 5 rfl ?_);refine om 5 #[.int .i64 ao,.int .i64 ap] 59 ?_;intro ah hg bd nu hb;have ac:=dm (nu);have aN:=dm (uw:w.heap.size<=ah);have aO:=dm (uw:w.heap.size<=ah);replace HB:=nJ HB hb;have aE:=dm (BD:ae≠ah);have aF:=dm (BA:ah≠ae);replace aa:=nA aa hb;have aG:=dm (GH:af≠ah);have aH:=dm (GJ:ah≠af);replace ab:=nA ab hb;clear hb nu hg))
  replace aa:=dm (nV aa.out);replace ab:=dm (nV ab.out);replace ac:=dm (nV ac.out);replace HB:=dm (o9 HB.out);refine pU 16 (S:=fun w'=>w'.cell? ⟨ae,0,none⟩=some (.int .i64 ai)/\w'.cell? ⟨ae,1,none⟩=some (.slice aq ag.length au)) [] ⟨nk aa 0,nk aa 1⟩ ul.AB ul.Ag (fun hHeld HT_ HW_=>?_);generalize bd.drew=bJ at aa ab ac HB hHeld⊢;refine qZ 0 7 1 ?_;refine oD 1 8 3 (fun K hK=>?_);refine oO Try.func50 #[.agg #[.int .i64 ai,.slice aq ag.length au]] ?_;with_reducible refine(qI.calls k ai _ _ ag false _ ?ng ?ni A4.out).mono ?_
  (case ng=>exact nO (nT aA.out HB.out));(case ni=>exact aB.out);rintro e bK ⟨rfl,hb⟩;refine⟨_,rfl,?_⟩;replace aa:=nA aa hb;replace ab:=nA ab hb;replace ac:=nA ac hb;replace HB:=nJ HB hb;(try clear hb);refine hK.out _ _ ⟨nk aa 0,nk aa 1⟩ (fun hHeld=>?_);clear hK K;refine nQ 8 ?_;refine lq 2 9 7 ?_;refine oC 3 10 15 ?_;refine oC 4 11 31 ?_;refine oC 5 12 63 ?_;refine oC 6 13 127 ?_;refine lq 7 14 255 ?_;refine lq 8 15 511 ?_;refine oC 9 16 1023 ?_;refine oC 10 17 2047 ?_;refine oC 11 18 4095 ?_;refine oC 12 19 8191 ?_;refine oC 13 20 16383 ?_;refine lq 14 21 32767 ?_;refine lq 15 6 65535 ?_;refine pM (pQ HT_.out (CV)) ?_;try go_wp2
  go_ret
  exact⟨Cr,nC HB.out⟩
def xc.f (a0:Int) (a1:Int):Option (Int×Int):=if a0<a1 then(some (a0,a1)) else(some (a1,a0))
theorem xc.calls (a0:Int) (a1:Int) (r1:Int) (r2:Int) (w:World) (h:xc.f a0 a1=some (r1,r2)):
  Calls Try.prog 39 #[.int .i64 a0,.int .i64 a1] w fun e w'=>e=.returned (.agg #[.int .i64 r1,.int .i64 r2])/\Below w.heap.size w w':=by
 have aX:=Try.underlying59;have HB:=dm (Below.refl w.heap.size w);unfold xc.f at h;have H:=h;clear h
 by_cases c3:a0<a1
 ·rw[if_pos c3]at H;have a6:=decide_eq_true c3;clear c3;simp only [Option.some.injEq,Prod.mk.injEq]at H;obtain⟨rfl,rfl⟩:=H
  go_enter Try.func39,Try.ntmps39
  go_wp2_with (first|((with_reducible refine nP 4 rfl ?_);refine om 4 #[.int .i64 0,.int .i64 0] 59 ?_;intro aw hg w4 nu hb;have ay:=dm (nu);have aS:=dm (uw:w.heap.size<=aw);have aT:=dm (uw:w.heap.size<=aw);replace HB:=nJ HB hb;clear hb nu hg;have⟨bf,bh,bj,bk⟩:=nK (w:=w4) ay))
  refine bodyPost_ret (results_cell_row rfl _ _ aw 59 #[.int .i64 a0,.int .i64 a1] (0,0) _ rfl (oJ ay.out) Try.underlying59 rfl (CV)) rfl ?_;exact⟨Cr,nC HB.out⟩
 ·rw[if_neg c3]at H;have a6:=decide_eq_false c3;clear c3;simp only [Option.some.injEq,Prod.mk.injEq]at H;obtain⟨rfl,rfl⟩:=H
  go_enter Try.func39,Try.ntmps39
  go_wp2_with (first|((with_reducible refine nP 4 rfl ?_);refine om 4 #[.int .i64 0,.int .i64 0] 59 ?_;intro aw hg w6 nu hb;have ay:=dm (nu);have aS:=dm (uw:w.heap.size<=aw);have aT:=dm (uw:w.heap.size<=aw);replace HB:=nJ HB hb;clear hb nu hg;have⟨bl,bm,bn,bo⟩:=nK (w:=w6) ay))
  refine bodyPost_ret (results_cell_row rfl _ _ aw 59 #[.int .i64 a1,.int .i64 a0] (0,0) _ rfl (oJ ay.out) Try.underlying59 rfl (CV)) rfl ?_;exact⟨Cr,nC HB.out⟩
theorem J6 {p:Prop}(h:p:=by(with_reducible repeat(first|apply uB|apply uC|apply tZ));exact(qx (vD (p:=⟨az,1,none⟩) (vD (p:=⟨az,0,none⟩) (qx aF.out (fun k_ hk=>(⟨hk,hk.2⟩:_/\k_≠az))) (fun _ hk=>hk.2) (.int .i64 ai)) (fun _ hk=>hk.2) (.slice a2 af.length a1)) (fun _ h_=>h_.1))):p:=h
theorem Kz {p:Prop}(h:p:=by(with_reducible repeat(first|apply nY|apply nZ|apply nN));exact(nL (nR (p:=⟨az,1,none⟩) (nR (p:=⟨az,0,none⟩) (oK aA.out ae.out (by decide)) (fun _ hk=>hk.2) (.int .i64 ai)) (fun _ hk=>hk.2) (.slice a2 af.length a1)) (fun _ h_=>h_.1))):p:=h
theorem zo {p:Prop}(h:p:=by repeat(first|(with_reducible exact av.out)|(with_reducible refine uL ?_ _)|(with_reducible refine uK ?_ _)|(with_reducible refine uo ?_)|exact av.out)):p:=h
theorem zH {p:Prop}(h:p:=by repeat(first|(with_reducible exact aw.out)|(with_reducible refine uL ?_ _)|(with_reducible refine uK ?_ _)|(with_reducible refine uo ?_)|exact aw.out)):p:=h
theorem zq {p:Prop}(h:p:=by repeat(first|(with_reducible exact ax.out)|(with_reducible refine uL ?_ _)|(with_reducible refine uK ?_ _)|(with_reducible refine uo ?_)|exact ax.out)):p:=h
theorem zG {p:Prop}(h:p:=by repeat(first|(with_reducible exact ay.out)|(with_reducible refine uL ?_ _)|(with_reducible refine uK ?_ _)|(with_reducible refine uo ?_)|exact ay.out)):p:=h
theorem BF {p:Prop}(h:p:=by repeat(first|(with_reducible exact aj.out)|(with_reducible refine uL ?_ _)|(with_reducible refine uK ?_ _)|(with_reducible refine uo ?_)|exact aj.out)):p:=h
theorem KT {p:Prop}(h:p:=by(try simp only [List.map_toArray,List.map_cons,List.map_nil]);first|done|(simp only [cg];rfl)|rfl|(simp only [List.length_drop,List.length_take];rfl)):p:=h
theorem CR {p:Prop}(h:p:=by(with_reducible repeat(first|apply uB|apply uC|apply tZ));exact aF.out):p:=h
theorem xS {p:Prop}(h:p:=by(with_reducible repeat(first|apply uB|apply uC|apply tZ));exact ag.out):p:=h
theorem Gu {p:Prop}(h:p:=by first|exact a3|exact of_decide_eq_true (uh)|(have e_:=(qO ag.out).1;omega)):p:=h
theorem G8 {p:Prop}(h:p:=by first|rfl|(simp[qa,qb]<;>rfl)|(simp[*,qa,qb]<;>rfl)):p:=h
theorem BI {p:Prop}(h:p:=by first|rfl|(simp;done)|(simp[*];done)):p:=h
theorem EH {p:Prop}(h:p:=by kernel_rfl):p:=h
mutual
def qL.j0:Nat->List (List Int)->Bool->Bool->Int->List (S59)->Option (Bool)
 |0,_,_,_,_,_=>none
 |k+1,x4,x5,ev,aV,aW=>if ev=true then((pI.f k aV aW x4).bind fun ch=>(some (x5==ch))) else(qL.l0 k x4 0 aV aW)
def qL.l0:Nat->List (List Int)->Int->Int->List (S59)->Option (Bool)
 |0,_,_,_,_=>none
 |k+1,x4,x6,aV,aW=>if x6<(x4.length:Int) then(qL.l1 k x4 x6 2 aV aW) else(some true)
def qL.l1:Nat->List (List Int)->Int->Int->Int->List (S59)->Option (Bool)
 |0,_,_,_,_,_=>none
 |k+1,x4,x6,x7,aV,aW=>if 0<=x6 then(if x6<(x4.length:Int) then(if x7<((nI x4 x6).length:Int) then(if 0<((nI x4 x6).length:Int) then(if 1<((nI x4 x6).length:Int) then((xc.f (rd (nI x4 x6) 0) (rd (nI x4 x6) 1)).bind fun cS=>(if 0<=(wrap64 (x7 - 1)) then(if(wrap64 (x7 - 1))<((nI x4 x6).length:Int) then(if 0<=x7 then((xc.f (rd (nI x4 x6) (wrap64 (x7 - 1))) (rd (nI x4 x6) x7)).bind fun bh=>((ul.f k aV aW cS.1 cS.2 bh.1 bh.2).bind fun bf=>(if bf=true then(qL.l1 k x4 x6 (wrap64 (x7+1)) aV aW) else(some false)))) else(none)) else(none)) else(none))) else(none)) else(none)) else(qL.l0 k x4 (wrap64 (x6+1)) aV aW)) else(none)) else(none)
end
def qL.f (k:Nat) (l0:List Int):Option (Bool):=if(l0.length:Int)>1048576 then(some true) else((zI.f k l0).bind fun aq=>((AV.f k aq.1 aq.2.1 aq.2.2).bind fun ak=>((pI.f k aq.1 aq.2.1 aq.2.2).bind fun aG=>(if(ak !=aG)=true then(qL.j0 k aq.2.2 ak true aq.1 aq.2.1) else(qL.j0 k aq.2.2 ak (!ak) aq.1 aq.2.1)))))
def qL.T13:Bool×List (List Nat×List Nat):=(true,[([],[]),([],[]),([],[]),([1,2],[1,2]),([3],[3]),([4],[4]),([5],[5]),([],[]),([],[]),([7,8],[7,8]),([9],[9]),([10],[10]),([11],[11]),([6,12],[6,12]),([],[]),([],[]),([14,15],[14,15]),([16],[16]),([],[]),([18],[18]),([17,19],[17,19]),([20],[20]),([],[]),([],[]),([22,23],[22,23]),([24],[24]),([],[]),([25,26],[25,26]),([27],[27]),([21,28,13],[21,28]),([0,13,29,29],[0,13,29]),([30],[30])])
def qL.B13:List Nat:=[0,0,0,6,14,30,62,0,0,384,896,1920,3968,8190,0,0,49152,114688,0,262144,1032192,2080768,0,0,12582912,29360128,0,130023424,264241152,536870910,1073741823,2147483647]
theorem qL.Ec:p_ .any (opsOf Try.f12 13)=qL.T13:=by kernel_rfl
theorem qL.DZ:qQ qL.T13.2 qL.B13=true:=by kernel_rfl
theorem qL.calls (k:Nat) (A0:Option Addr) (c0:Nat) (l0:List Int) (r:Bool) (w:World) (ea:Kd.C (Kd.int .u8) w A0 l0.length l0) (eb:l0.length<=c0) (h:qL.f k l0=some r):
  Calls Try.prog 12 #[.slice A0 l0.length c0] w fun e w'=>e=.returned (.bool r)/\Below w.heap.size w w':=by
 have eQ:=Try.underlying31;have ew:=dm ea;have ex:=dm eb;clear ea eb;have HB:=dm (Below.refl w.heap.size w);unfold qL.f at h;have H:=h;clear h
 by_cases c2:(l0.length:Int)>1048576
 ·rw[if_pos c2]at H;have dJ:=decide_eq_true c2;have dK:decide (1048576<l0.length)=true:=decide_eq_true (by omega);clear c2;obtain rfl:=Option.some.inj H
  go_enter Try.func12,Try.ntmps12
  go_wp2
  go_ret
  exact⟨G8,nC HB.out⟩
 ·rw[if_neg c2]at H;have dJ:=decide_eq_false c2;have dK:decide (1048576<l0.length)=false:=decide_eq_false (by omega);clear c2;obtain⟨⟨ai,af,aa⟩,A3,H⟩:=ol H;(try dsimp only at H);obtain⟨ak,A4,H⟩:=ol H;(try dsimp only at H);have dL:=dm H;clear H
  go_enter Try.func12,Try.ntmps12
  go_upto_region 5 with(first|((with_reducible refine oh 27 rfl ?_);refine og 13 Try.func27 #[.slice A0 l0.length c0] ?_;(with_reducible refine(zI.calls k _ _ l0 ai af aa _ ?ng ?ni A3.out).mono ?_);(case ng=>exact nO ew.out);(case ni=>exact ex.out);rintro e w6 ⟨d7,eF,rfl,ec,ho1,hb⟩;refine⟨_,rfl,?_⟩;have aA:=dm (oF (nL (ok':=fun k_=>True) ec (fun _ hk_=>trivial)) (nX (nC HB.out)));have aF:=dm (xX (qx (ok':=fun k_=>some k_≠(d7:Value).ownBlock) ho1 (fun k_ hk_=>hk_.2)) (nX (nC HB.out)));replace HB:=nJ HB hb;(try clear hb ec ho1))|((with_reducible refine nP 3 rfl ?_);refine om 3 #[.int .i64 0,.slice none 0 0] 31 ?_;intro az hg w7 nu hb;replace aA:=ou aA hb;replace aF:=dm (wh (NG (CR) az (Nat.le_of_eq hg.symm)) hb);have ae:=dm (nu);have ey:=dm ((by rw[hg];exact(nX (nC HB.out)):w.heap.size<=az));have ez:=dm ((by rw[hg];exact(nX (nC HB.out)):w.heap.size<=az));replace HB:=nJ HB hb;clear hb nu hg;have⟨dM,dN,dO,dP⟩:=nK (w:=w7) ae;obtain⟨a2,a1,eA⟩:=nW aA.out;subst eA;obtain⟨ci,b9,eh⟩:=yZ aF.out;subst eh)|((with_reducible refine oh 19 rfl ?_);refine og 18 Try.func19 #[.agg #[.int .i64 ai,.slice a2 af.length a1],.slice ci aa.length b9] ?_;(with_reducible refine(AV.calls k ai _ _ af _ _ aa ak _ ?ng ?ni ?sF ?sN A4.out).mono ?_);(case ng=>refine(nM (e:=59) (base:=w.heap.size) (ok:=fun k_=>True) (n:=af.length) (c:=a1) ?_).2.2;exact(Kz));(case ni=>exact(nM aA.out).2.1);(case sF=>refine(qO (e:=45) (base:=w.heap.size) (ok:=fun k_=>(some k_≠(.slice a2 af.length a1:Value).ownBlock/\k_≠az)) (n:=aa.length) (c:=b9) ?_).2.2;exact(J6));(case sN=>exact(qO aF.out).2.1);rintro e ed ⟨rfl,hb⟩;refine⟨_,rfl,?_⟩;replace aA:=dm (uf (Kz) hb);replace aF:=dm (wh (J6) hb);replace ae:=dm (rO (g:=az) (o:=.cells #[.int .i64 ai,.slice a2 af.length a1] 31 (0,0)) (oJ ae.out) hb);replace HB:=nJ HB hb;(try clear hb)))
  (try simp only [Act.put,List.setIfInBounds_toArray,List.set_cons_zero,List.set_cons_succ])
  go_cut [27] (fun eB wc=>∃ (kq:Nat) (cu:Bool),eB=.bool cu/\lm (qL.j0 kq aa ak cu ai af=some r)/\lm (kq<=k)/\lm (Kd.N (Kd.slice 3 (Kd.int .i64)) 45 wc w.heap.size (fun k_=>some k_≠((.slice a2 af.length a1):Value).ownBlock/\k_≠az) (.slice ci aa.length b9) aa)/\lm (Kd.R k59 59 wc w.heap.size (fun _=>True) (.slice a2 af.length a1) af)/\lm (wc.heap[az]? =some (.cells #[.int .i64 ai,(.slice a2 af.length a1)] 31 (0,0)))/\lm (Below w.heap.size w wc))
  case first=>
   have H:=dL.out;clear dL;obtain⟨aG,ee,H⟩:=ol H;(try dsimp only at H)
   by_cases b_:(ak !=aG)=true
   ·rw[if_pos b_]at H;have cj:(ak !=aG)=true:=b_;(try(have d8:decide (ak=aG)=false:=by simpa using b_));(try(have d9:(ak==aG)=false:=by simpa using b_));(try(have eG:¬ (ak=aG):=by simpa using b_));clear b_;(first|rw[cj]|(simp only [qA,rz];rw[cj])|skip);have H':=dm H;clear H;have⟨ei,ej,ek,el⟩:=nK (w:=ed) ae
    go_wp2_with (first|((with_reducible refine oh 16 rfl ?_);refine og 22 Try.func16 #[.agg #[.int .i64 ai,.slice a2 af.length a1],.slice ci aa.length b9] ?_;(with_reducible refine(pI.calls k ai _ _ af _ _ aa aG _ ?ng ?ni ?sF ?sN ee.out).mono ?_);(case ng=>exact nO (nM aA.out).2.2);(case ni=>exact(nM aA.out).2.1);(case sF=>repeat(first|exact(qO aF.out).2.2|(with_reducible refine uL ?_ _)|(with_reducible refine uK ?_ _)|(with_reducible refine uo ?_)));(case sN=>exact(qO aF.out).2.1);rintro e eR ⟨rfl,hb⟩;refine⟨_,rfl,?_⟩;replace aA:=ou aA hb;replace aF:=dm (wh (CR) hb);replace ae:=nA ae hb;replace HB:=nJ HB hb;(try clear hb)))
    go_meet
    case rel=>exact⟨_,(true),(BI),H',⟨by first|omega|exact Nat.le_refl _⟩,⟨CR⟩,⟨nH aA.out⟩,⟨nG ae.out⟩,⟨nC HB.out⟩⟩
   ·rw[if_neg b_]at H;have cj:(ak !=aG)=false:=by simpa using b_
    (try(have d8:decide (ak=aG)=true:=by simpa using b_));(try(have d9:(ak==aG)=true:=by simpa using b_));clear b_;(first|rw[cj]|(simp only [qA,rz];rw[cj])|skip);have H':=dm H;clear H;have⟨em,en,eo,ep⟩:=nK (w:=ed) ae
    go_wp2_with (first|((with_reducible refine oh 16 rfl ?_);refine og 22 Try.func16 #[.agg #[.int .i64 ai,.slice a2 af.length a1],.slice ci aa.length b9] ?_;(with_reducible refine(pI.calls k ai _ _ af _ _ aa aG _ ?ng ?ni ?sF ?sN ee.out).mono ?_);(case ng=>exact nO (nM aA.out).2.2);(case ni=>exact(nM aA.out).2.1);(case sF=>repeat(first|exact(qO aF.out).2.2|(with_reducible refine uL ?_ _)|(with_reducible refine uK ?_ _)|(with_reducible refine uo ?_)));(case sN=>exact(qO aF.out).2.1);rintro e eS ⟨rfl,hb⟩;refine⟨_,rfl,?_⟩;replace aA:=ou aA hb;replace aF:=dm (wh (CR) hb);replace ae:=nA ae hb;replace HB:=nJ HB hb;(try clear hb)))
    go_meet
    case rel=>exact⟨_,(!ak),(BI),H',⟨by first|omega|exact Nat.le_refl _⟩,⟨CR⟩,⟨nH aA.out⟩,⟨nG ae.out⟩,⟨nC HB.out⟩⟩
  case rest=>
   clear dL;(try clear dJ dK dM dN dO dP);obtain⟨kq,cu,rfl,HA,dn,ag,ac,ae,HB⟩:=hcut;cases kq with
   |zero=>exact absurd HA.out (by simp[qL.j0])
   |succ cX=>
    have H:=HA.out;clear HA;simp only [qL.j0]at H
    rcases pJ H with⟨h_,H_⟩|⟨h_,H_⟩<;> (subst h_;clear H;have H:=H_;clear H_)
    ·obtain⟨ch,eC,H⟩:=ol H;(try dsimp only at H);obtain rfl:=Option.some.inj H;have⟨eq,es,et,eu⟩:=nK (w:=wc) ae
     go_wp2_with (first|((with_reducible refine oh 16 rfl ?_);refine og 31 Try.func16 #[.agg #[.int .i64 ai,.slice a2 af.length a1],.slice ci aa.length b9] ?_;(with_reducible refine(pI.calls cX ai _ _ af _ _ aa ch _ ?ng ?ni ?sF ?sN eC.out).mono ?_);(case ng=>exact nO (nM ac.out).2.2);(case ni=>exact(nM ac.out).2.1);(case sF=>repeat(first|exact(qO ag.out).2.2|(with_reducible refine uL ?_ _)|(with_reducible refine uK ?_ _)|(with_reducible refine uo ?_)));(case sN=>exact(qO ag.out).2.1);rintro e eT ⟨rfl,hb⟩;refine⟨_,rfl,?_⟩;replace ag:=dm (wh (xS) hb);replace ac:=ou ac hb;replace ae:=nA ae hb;replace HB:=nJ HB hb;(try clear hb)))
     go_ret
     exact⟨G8,nC HB.out⟩
    ·have H':=dm H;clear H
     go_wp2
     go_loopg [6] cX (fun kq v6 w'=>∃ (ab:Int),v6=.int .i64 ab/\lm (qL.l0 kq aa ab ai af=some r)/\lm (kq<=cX)/\lm (Kd.N (Kd.slice 3 (Kd.int .i64)) 45 w' w.heap.size (fun k_=>some k_≠((.slice a2 af.length a1):Value).ownBlock/\k_≠az) (.slice ci aa.length b9) aa)/\lm (Kd.R k59 59 w' w.heap.size (fun _=>True) (.slice a2 af.length a1) af)/\lm (w'.heap[az]? =some (.cells #[.int .i64 ai,(.slice a2 af.length a1)] 31 (0,0)))/\lm (Below w.heap.size w w'))
     case atStart=>exact⟨(0),(BI),H',⟨Nat.le_refl _⟩,⟨xS⟩,⟨nH ac.out⟩,⟨nG ae.out⟩,⟨nC HB.out⟩⟩
     case round=>
      clear H';(try clear cY);obtain⟨ab,rfl,HA,dq,ag,ac,ae,HB⟩:=hrel;cases gk with
      |zero=>exact absurd HA.out (by simp[qL.l0])
      |succ k2=>
       have H:=HA.out;clear HA;simp only [qL.l0]at H
       by_cases cE:ab<(aa.length:Int)
       ·rw[if_pos cE]at H;have dr:=decide_eq_true cE;clear cE;have H':=dm H;clear H
        go_wp2
        go_loopg [7] k2 (fun kq v7 w'=>∃ (au:Int),v7=.int .i64 au/\lm (qL.l1 kq aa ab au ai af=some r)/\lm (kq<=k2)/\lm (Kd.N (Kd.slice 3 (Kd.int .i64)) 45 w' w.heap.size (fun k_=>some k_≠((.slice a2 af.length a1):Value).ownBlock/\k_≠az) (.slice ci aa.length b9) aa)/\lm (Kd.R k59 59 w' w.heap.size (fun _=>True) (.slice a2 af.length a1) af)/\lm (w'.heap[az]? =some (.cells #[.int .i64 ai,(.slice a2 af.length a1)] 31 (0,0)))/\lm (Below w.heap.size w w'))
        case atStart=>exact⟨(2),(BI),H',⟨Nat.le_refl _⟩,⟨xS⟩,⟨nH ac.out⟩,⟨nG ae.out⟩,⟨nC HB.out⟩⟩
        case round=>
         clear H';(try clear dr);obtain⟨au,rfl,HA,dt,ag,ac,ae,HB⟩:=hrel;cases gk with
         |zero=>exact absurd HA.out (by simp[qL.l1])
         |succ k3=>
          have H:=HA.out;clear HA;simp only [qL.l1]at H
          obtain⟨eH,H⟩:=oz H
          obtain⟨eI,H⟩:=oz H
          by_cases cF:au<((nI aa ab).length:Int)
          ·rw[if_pos cF]at H;have d_:=decide_eq_true cF;clear cF
           obtain⟨dw,H⟩:=qd H;have eJ:=decide_eq_true dw;have eK:decide (0<(nI aa ab).length)=true:=decide_eq_true (by omega);clear dw
           obtain⟨dx,H⟩:=qd H;have eL:=decide_eq_true dx;have eM:decide (1<(nI aa ab).length)=true:=decide_eq_true (by omega);clear dx;obtain⟨⟨bj,bk⟩,dQ,H⟩:=ol H;(try dsimp only at H);obtain⟨aK,cg⟩:∃j_:Int,(wrap64 (au - 1))=j_:=⟨_,rfl⟩;replace H:(if 0<=(aK) then(if(aK)<((nI aa ab).length:Int) then(if 0<=au then((xc.f (rd (nI aa ab) (aK)) (rd (nI aa ab) au)).bind fun bh=>((ul.f k3 ai af bj bk bh.1 bh.2).bind fun bf=>(if bf=true then(qL.l1 k3 aa ab (wrap64 (au+1)) ai af) else(some false)))) else(none)) else(none)) else(none))=some r:=by first|(rw[cg]at H;exact H)|(simp only [cg]at H⊢;exact H)
           (try rw[cg]at dQ);have eD:(IntKind.i64.wrap (au - 1))=aK:=(qA _).trans cg
           obtain⟨eN,H⟩:=oz H
           obtain⟨eO,H⟩:=oz H
           obtain⟨eP,H⟩:=oz H;obtain⟨⟨bW,bX⟩,ef,H⟩:=ol H;(try dsimp only at H);obtain⟨bf,eg,H⟩:=ol H;(try dsimp only at H)
           rcases pJ H with⟨h_,H_⟩|⟨h_,H_⟩<;> (subst h_;clear H;have H:=H_;clear H_)
           ·have H':=dm H;clear H;have aU:0<=(ab:Int):=nD;have a3:ab<(aa.length:Int):=nD;obtain⟨aD,cG,cH,ck,bv,aX,aY⟩:=rH (qO ag.out).2.2 ab aU a3;cases ck;obtain⟨cZ,bQ,bR,bd⟩:=vX ag.out [] ab aU (Gu);obtain⟨cv,cw,rfl,aH,aI⟩:=uH bR;have aB:=bd 0 _ rfl;rw[Nat.add_zero,show((Kd.slice 3 (Kd.int .i64))).sz=1 from rfl,Nat.mul_one]at aB;replace aB:=Option.some.inj (aB.symm.trans bv);injection aB with qJ sG qK;rw[qJ]at aI;rw[qK]at aH;have ah:=dm (show Kd.V (Kd.int .i64) 3 _ w.heap.size _ _ (nI aa ab) from vv aH aI);clear qJ sG qK aI aH;clear bd bQ;have aj:=dm aY;have cx:=dm aX;clear aY aX;replace aU:=eq_true aU;replace a3:=eq_true a3;try go_wp2
            replace ag:=dm (tZ ag.out);replace ac:=dm (nN ac.out);replace ah:=dm (Bh ah.out);replace ae:=dm (nV ae.out);replace aj:=dm (uo aj.out);replace HB:=dm (o9 HB.out);have bl:0<=(ab:Int):=nD;have bm:ab<(aa.length:Int):=nD;obtain⟨cy,dC,aZ,cI,aE,bx,bz⟩:=rH (qO ag.out).2.2 ab bl bm;obtain rfl:aD=cy:=(by injection cI);obtain⟨dR,cl,cm,bS⟩:=vX ag.out [] ab bl (by first|exact bm|exact of_decide_eq_true (uh)|(have e_:=(qO ag.out).1;omega));obtain⟨c_,db,rfl,a4,a5⟩:=uH cm;have aL:=bS 0 _ rfl;rw[Nat.add_zero,show((Kd.slice 3 (Kd.int .i64))).sz=1 from rfl,Nat.mul_one]at aL;replace aL:=Option.some.inj (aL.symm.trans aE);injection aL with qJ sG qK;rw[qJ]at a5;rw[qK]at a4;have al:=dm (show Kd.V (Kd.int .i64) 3 _ w.heap.size _ _ (nI aa ab) from vv a4 a5);clear qJ sG qK a5 a4;clear bS cl;have av:=dm bz;have dc:=dm bx;clear bz bx;replace bl:=eq_true bl;replace bm:=eq_true bm;have bY:0<=(0:Int):=(by omega);have bZ:0<((nI aa ab).length:Int):=nD;obtain⟨aC,cJ,aM⟩:=oG (zo) 0 bY bZ;cases cJ;have dS:(0<(nI aa ab).length)=True:=eq_true (by omega);(try rw[show((0:Int)).toNat=0 from rfl]at aM);(try rw[Addr.add_zero']at aM);replace bY:=eq_true bY;replace bZ:=eq_true bZ;have bn:0<=(ab:Int):=nD;have bo:ab<(aa.length:Int):=nD;obtain⟨cz,dD,dE,cL,aN,bA,bB⟩:=rH (qO ag.out).2.2 ab bn bo;obtain rfl:aD=cz:=(by injection cL);obtain⟨dT,cn,co,bT⟩:=vX ag.out [] ab bn (by first|exact bo|exact of_decide_eq_true (uh)|(have e_:=(qO ag.out).1;omega));obtain⟨dd,de,rfl,a6,a7⟩:=uH co;have aO:=bT 0 _ rfl;rw[Nat.add_zero,show((Kd.slice 3 (Kd.int .i64))).sz=1 from rfl,Nat.mul_one]at aO;replace aO:=Option.some.inj (aO.symm.trans aN);injection aO with qJ sG qK;rw[qJ]at a7;rw[qK]at a6;have am:=dm (show Kd.V (Kd.int .i64) 3 _ w.heap.size _ _ (nI aa ab) from vv a6 a7);clear qJ sG qK a7 a6;clear bT cn;have aw:=dm bB;have df:=dm bA;clear bB bA;replace bn:=eq_true bn;replace bo:=eq_true bo;have ea_:=Option.some.inj (aE.symm.trans aN);injection ea_ with ea_ en_ ec_;subst ea_;subst ec_;clear en_;have b3:0<=(1:Int):=(by omega);have b4:1<((nI aa ab).length:Int):=nD;obtain⟨dU,cM,aP⟩:=oG (zH) 1 b3 b4;cases cM;(try simp only [show(1:Int).toNat=1 from rfl,Nat.reduceMul,Nat.reduceEqDiff,Go.Addr.add,↓reduceIte]at aP);have dV:(1<(nI aa ab).length)=True:=eq_true (by omega);(try rw[show((1:Int)).toNat=1 from rfl]at aP);replace b3:=eq_true b3;replace b4:=eq_true b4;have bp:0<=(ab:Int):=nD;have bq:ab<(aa.length:Int):=nD;obtain⟨cA,dF,dG,cN,aQ,bC,bD⟩:=rH (qO ag.out).2.2 ab bp bq
            obtain rfl:aD=cA:=(by injection cN);obtain⟨dW,cp,cq,bU⟩:=vX ag.out [] ab bp (by first|exact bq|exact of_decide_eq_true (uh)|(have e_:=(qO ag.out).1;omega));obtain⟨dg,dh,rfl,a8,a9⟩:=uH cq;have aR:=bU 0 _ rfl;rw[Nat.add_zero,show((Kd.slice 3 (Kd.int .i64))).sz=1 from rfl,Nat.mul_one]at aR;replace aR:=Option.some.inj (aR.symm.trans aQ);injection aR with qJ sG qK;rw[qJ]at a9;rw[qK]at a8;have ao:=dm (show Kd.V (Kd.int .i64) 3 _ w.heap.size _ _ (nI aa ab) from vv a8 a9);clear qJ sG qK a9 a8;clear bU cp;have ax:=dm bD;have di:=dm bC;clear bD bC;replace bp:=eq_true bp;replace bq:=eq_true bq;have ea_:=Option.some.inj (aE.symm.trans aQ);injection ea_ with ea_ en_ ec_;subst ea_;subst ec_;clear en_;have b5:0<=((aK):Int):=nD;have b6:(aK)<((nI aa ab).length:Int):=nD;obtain⟨dX,cO,bE⟩:=oG (zq) (aK) b5 b6;cases cO;replace b5:=eq_true b5;replace b6:=eq_true b6;have br:0<=(ab:Int):=nD;have bu:ab<(aa.length:Int):=nD;obtain⟨cD,dH,dI,cP,aS,bF,bG⟩:=rH (qO ag.out).2.2 ab br bu;obtain rfl:aD=cD:=(by injection cP);obtain⟨dY,cr,ct,bV⟩:=vX ag.out [] ab br (by first|exact bu|exact of_decide_eq_true (uh)|(have e_:=(qO ag.out).1;omega));obtain⟨dj,dk,rfl,a_,ba⟩:=uH ct;have aT:=bV 0 _ rfl;rw[Nat.add_zero,show((Kd.slice 3 (Kd.int .i64))).sz=1 from rfl,Nat.mul_one]at aT;replace aT:=Option.some.inj (aT.symm.trans aS);injection aT with qJ sG qK;rw[qJ]at ba;rw[qK]at a_;have ap:=dm (show Kd.V (Kd.int .i64) 3 _ w.heap.size _ _ (nI aa ab) from vv a_ ba);clear qJ sG qK ba a_;clear bV cr;have ay:=dm bG;have dl:=dm bF;clear bG bF;replace br:=eq_true br;replace bu:=eq_true bu;have ea_:=Option.some.inj (aE.symm.trans aS);injection ea_ with ea_ en_ ec_;subst ea_;subst ec_;clear en_;have b7:0<=(au:Int):=nD;have b8:au<((nI aa ab).length:Int):=nD;obtain⟨dZ,cQ,bH⟩:=oG (zG) au b7 b8;cases cQ;replace b7:=eq_true b7;replace b8:=eq_true b8;refine pU 32 (S:=fun w'=>w'.cell? ⟨az,0,none⟩=some (.int .i64 ai)/\w'.cell? ⟨az,1,none⟩=some (.slice a2 af.length a1)/\w'.cell? (aD.add (ab).toNat)=some (.slice (some aC) (nI aa ab).length aZ)/\w'.cell? aC=some (.int .i64 (rd (nI aa ab) 0))/\w'.cell? (aD.add (ab).toNat)=some (.slice (some aC) (nI aa ab).length aZ)/\w'.cell? ⟨aC.block,aC.off+1,none⟩=some (.int .i64 (rd (nI aa ab) 1))/\w'.cell? (aD.add (ab).toNat)=some (.slice (some aC) (nI aa ab).length aZ)/\w'.cell? (aC.add ((aK)).toNat)=some (.int .i64 (rd (nI aa ab) (aK)))/\w'.cell? (aD.add (ab).toNat)=some (.slice (some aC) (nI aa ab).length aZ)/\w'.cell? (aC.add (au).toNat)=some (.int .i64 (rd (nI aa ab) au))) [] ⟨nk ae 0,nk ae 1,aE,aM,aN,aP,aQ,bE,aS,bH⟩ qL.Ec qL.DZ (fun hHeld HT_ HW_=>?_)
            generalize wr.drew=eU at ag ac ah ae aj HB al am ao ap av aw ax ay aE aM aN aP aQ bE aS bH hHeld⊢;refine lq 1 49 2 ?_;refine lq 2 50 6 ?_;refine lq 3 51 14 ?_;refine lq 7 55 142 ?_;refine lq 8 56 398 ?_;refine lq 9 57 910 ?_;refine lq 14 62 17294 ?_;refine lq 15 63 50062 ?_;refine lq 16 64 115598 ?_;refine lq 18 66 377742 ?_;refine lq 19 67 902030 ?_;refine lq 22 70 5096334 ?_;refine lq 23 71 13484942 ?_;refine lq 24 72 30262158 ?_;refine lq 26 74 97371022 ?_;refine vN 0 48 97371023 ?_;refine vN 4 52 97371039 ?_;refine lq 5 53 97371071 ?_;refine vN 6 54 97371135 ?_;refine vN 10 58 97372159 ?_;refine lq 11 59 97374207 ?_;refine vN 12 60 97378303 ?_;refine vN 17 65 97509375 ?_;refine lq 20 68 98557951 ?_;refine vN 21 69 100655103 ?_;refine vN 25 73 134209535 ?_;refine lq 27 75 268427263 ?_;refine vN 28 76 536862719 ?_;refine oD 13 61 536870911 (fun K hK=>?_);refine oO Try.func39 #[.int .i64 (rd (nI aa ab) 0),.int .i64 (rd (nI aa ab) 1)] ?_;with_reducible refine(xc.calls (rd (nI aa ab) 0) (rd (nI aa ab) 1) bj bk _ dQ.out).mono ?_
            rintro e eV ⟨rfl,hb⟩;have bI:=(hb.cell (World.block_lt_of_cell? _ _ (hHeld.2.2.1))).trans (hHeld.2.2.1);have bJ:=(hb.cell (World.block_lt_of_cell? _ _ (hHeld.2.2.2.1))).trans (hHeld.2.2.2.1);have bK:=(hb.cell (World.block_lt_of_cell? _ _ (hHeld.2.2.2.2.1))).trans (hHeld.2.2.2.2.1);have bL:=(hb.cell (World.block_lt_of_cell? _ _ (hHeld.2.2.2.2.2.1))).trans (hHeld.2.2.2.2.2.1);have bM:=(hb.cell (World.block_lt_of_cell? _ _ (hHeld.2.2.2.2.2.2.1))).trans (hHeld.2.2.2.2.2.2.1);have bN:=(hb.cell (World.block_lt_of_cell? _ _ (hHeld.2.2.2.2.2.2.2.1))).trans (hHeld.2.2.2.2.2.2.2.1);have bO:=(hb.cell (World.block_lt_of_cell? _ _ (hHeld.2.2.2.2.2.2.2.2.1))).trans (hHeld.2.2.2.2.2.2.2.2.1);have bP:=(hb.cell (World.block_lt_of_cell? _ _ (hHeld.2.2.2.2.2.2.2.2.2))).trans (hHeld.2.2.2.2.2.2.2.2.2);refine⟨_,rfl,?_⟩;have n0:=dm (wh (xS) hb);have n1:=ou ac hb;have n2:=dm (sD (qX ah.out) hb);have n3:=dm (sD (qX al.out) hb);have n4:=dm (sD (qX am.out) hb);have n5:=dm (sD (qX ao.out) hb);have n6:=dm (sD (qX ap.out) hb);have n7:=nA ae hb;have n8:=dm (nT (BF) hb);have n9:=dm (nT (zo) hb);have ca:=dm (nT (zH) hb);have cd:=dm (nT (zq) hb);have ce:=dm (nT (zG) hb);have cf:=nJ HB hb;clear ag ac ah al am ao ap ae aj av aw ax ay HB;revert n0 n1 n2 n3 n4 n5 n6 n7 n8 n9 ca cd ce cf;intro ag ac ah al am ao ap ae aj av aw ax ay HB;(try clear hb eE hk hi);refine hK.out _ _ ⟨nk ae 0,nk ae 1,bI,bJ,bK,bL,bM,bN,bO,bP⟩ (fun hHeld=>?_);clear hK K;refine nQ 61 ?_;refine oD 29 77 1073741823 (fun K hK=>?_);refine ug Try.func39 (EH) rfl #[.int .i64 (rd (nI aa ab) (aK)),.int .i64 (rd (nI aa ab) au)] (by rfl) rfl rfl (KT) ?_;with_reducible refine(xc.calls (rd (nI aa ab) (aK)) (rd (nI aa ab) au) bW bX _ ef.out).mono ?_
            rintro e eW ⟨rfl,hb⟩;have bI:=(hb.cell (World.block_lt_of_cell? _ _ (hHeld.2.2.1))).trans (hHeld.2.2.1);have bJ:=(hb.cell (World.block_lt_of_cell? _ _ (hHeld.2.2.2.1))).trans (hHeld.2.2.2.1);have bK:=(hb.cell (World.block_lt_of_cell? _ _ (hHeld.2.2.2.2.1))).trans (hHeld.2.2.2.2.1);have bL:=(hb.cell (World.block_lt_of_cell? _ _ (hHeld.2.2.2.2.2.1))).trans (hHeld.2.2.2.2.2.1);have bM:=(hb.cell (World.block_lt_of_cell? _ _ (hHeld.2.2.2.2.2.2.1))).trans (hHeld.2.2.2.2.2.2.1);have bN:=(hb.cell (World.block_lt_of_cell? _ _ (hHeld.2.2.2.2.2.2.2.1))).trans (hHeld.2.2.2.2.2.2.2.1);have bO:=(hb.cell (World.block_lt_of_cell? _ _ (hHeld.2.2.2.2.2.2.2.2.1))).trans (hHeld.2.2.2.2.2.2.2.2.1);have bP:=(hb.cell (World.block_lt_of_cell? _ _ (hHeld.2.2.2.2.2.2.2.2.2))).trans (hHeld.2.2.2.2.2.2.2.2.2);refine⟨_,rfl,?_⟩;have n0:=dm (wh (xS) hb);have n1:=ou ac hb;have n2:=dm (sD (qX ah.out) hb);have n3:=dm (sD (qX al.out) hb);have n4:=dm (sD (qX am.out) hb);have n5:=dm (sD (qX ao.out) hb);have n6:=dm (sD (qX ap.out) hb);have n7:=nA ae hb;have n8:=dm (nT (BF) hb);have n9:=dm (nT (zo) hb);have ca:=dm (nT (zH) hb);have cd:=dm (nT (zq) hb);have ce:=dm (nT (zG) hb);have cf:=nJ HB hb;clear ag ac ah al am ao ap ae aj av aw ax ay HB;revert n0 n1 n2 n3 n4 n5 n6 n7 n8 n9 ca cd ce cf;intro ag ac ah al am ao ap ae aj av aw ax ay HB;(try clear hb);refine hK.out _ _ ⟨nk ae 0,nk ae 1,bI,bJ,bK,bL,bM,bN,bO,bP⟩ (fun hHeld=>?_);clear hK K;refine nQ 77 ?_;refine oD 30 78 2147483647 (fun K hK=>?_);refine oO Try.func38 #[.agg #[.int .i64 ai,.slice a2 af.length a1],.agg #[.int .i64 bj,.int .i64 bk],.agg #[.int .i64 bW,.int .i64 bX]] ?_;with_reducible refine(ul.calls k3 ai _ _ af bj bk bW bX true _ ?ng ?ni eg.out).mono ?_
            (case ng=>exact nO (nM ac.out).2.2);(case ni=>exact(nM ac.out).2.1);rintro e eX ⟨rfl,hb⟩;have bI:=(hb.cell (World.block_lt_of_cell? _ _ (hHeld.2.2.1))).trans (hHeld.2.2.1);have bJ:=(hb.cell (World.block_lt_of_cell? _ _ (hHeld.2.2.2.1))).trans (hHeld.2.2.2.1);have bK:=(hb.cell (World.block_lt_of_cell? _ _ (hHeld.2.2.2.2.1))).trans (hHeld.2.2.2.2.1);have bL:=(hb.cell (World.block_lt_of_cell? _ _ (hHeld.2.2.2.2.2.1))).trans (hHeld.2.2.2.2.2.1);have bM:=(hb.cell (World.block_lt_of_cell? _ _ (hHeld.2.2.2.2.2.2.1))).trans (hHeld.2.2.2.2.2.2.1);have bN:=(hb.cell (World.block_lt_of_cell? _ _ (hHeld.2.2.2.2.2.2.2.1))).trans (hHeld.2.2.2.2.2.2.2.1);have bO:=(hb.cell (World.block_lt_of_cell? _ _ (hHeld.2.2.2.2.2.2.2.2.1))).trans (hHeld.2.2.2.2.2.2.2.2.1);have bP:=(hb.cell (World.block_lt_of_cell? _ _ (hHeld.2.2.2.2.2.2.2.2.2))).trans (hHeld.2.2.2.2.2.2.2.2.2);refine⟨_,rfl,?_⟩;have n0:=dm (wh (xS) hb);have n1:=ou ac hb;have n2:=dm (sD (qX ah.out) hb);have n3:=dm (sD (qX al.out) hb);have n4:=dm (sD (qX am.out) hb);have n5:=dm (sD (qX ao.out) hb);have n6:=dm (sD (qX ap.out) hb);have n7:=nA ae hb;have n8:=dm (nT (BF) hb);have n9:=dm (nT (zo) hb);have ca:=dm (nT (zH) hb);have cd:=dm (nT (zq) hb);have ce:=dm (nT (zG) hb);have cf:=nJ HB hb;clear ag ac ah al am ao ap ae aj av aw ax ay HB;revert n0 n1 n2 n3 n4 n5 n6 n7 n8 n9 ca cd ce cf;intro ag ac ah al am ao ap ae aj av aw ax ay HB;(try clear hb);refine hK.out _ _ ⟨nk ae 0,nk ae 1,bI,bJ,bK,bL,bM,bN,bO,bP⟩ (fun hHeld=>?_);clear hK K;refine nQ 78 ?_;refine lq 31 79 4294967295 ?_;refine pM (pQ HT_.out (EH)) ?_;try go_wp2
            go_roundg k3
            case measure=>have:=dn.out;have:=dq.out;have:=dt.out;omega
            case rel=>exact⟨(wrap64 (au+1)),(BI),H',⟨by have:=dn.out;have:=dq.out;have:=dt.out;omega⟩,⟨xS⟩,⟨nH ac.out⟩,⟨nG ae.out⟩,⟨nC HB.out⟩⟩
           ·obtain rfl:=Option.some.inj H;have aU:0<=(ab:Int):=nD;have a3:ab<(aa.length:Int):=nD;obtain⟨aD,cG,cH,ck,bv,aX,aY⟩:=rH (qO ag.out).2.2 ab aU a3;cases ck;obtain⟨cZ,bQ,bR,bd⟩:=vX ag.out [] ab aU (Gu);obtain⟨cv,cw,rfl,aH,aI⟩:=uH bR;have aB:=bd 0 _ rfl;rw[Nat.add_zero,show((Kd.slice 3 (Kd.int .i64))).sz=1 from rfl,Nat.mul_one]at aB;replace aB:=Option.some.inj (aB.symm.trans bv);injection aB with qJ sG qK;rw[qJ]at aI;rw[qK]at aH;have ah:=dm (show Kd.V (Kd.int .i64) 3 _ w.heap.size _ _ (nI aa ab) from vv aH aI);clear qJ sG qK aI aH;clear bd bQ;have aj:=dm aY;have cx:=dm aX;clear aY aX;replace aU:=eq_true aU;replace a3:=eq_true a3;try go_wp2
            replace ag:=dm (tZ ag.out);replace ac:=dm (nN ac.out);replace ah:=dm (Bh ah.out);replace ae:=dm (nV ae.out);replace aj:=dm (uo aj.out);replace HB:=dm (o9 HB.out);have bl:0<=(ab:Int):=nD;have bm:ab<(aa.length:Int):=nD;obtain⟨cy,dC,aZ,cI,aE,bx,bz⟩:=rH (qO ag.out).2.2 ab bl bm;obtain rfl:aD=cy:=(by injection cI);obtain⟨dR,cl,cm,bS⟩:=vX ag.out [] ab bl (by first|exact bm|exact of_decide_eq_true (uh)|(have e_:=(qO ag.out).1;omega));obtain⟨c_,db,rfl,a4,a5⟩:=uH cm;have aL:=bS 0 _ rfl;rw[Nat.add_zero,show((Kd.slice 3 (Kd.int .i64))).sz=1 from rfl,Nat.mul_one]at aL;replace aL:=Option.some.inj (aL.symm.trans aE);injection aL with qJ sG qK;rw[qJ]at a5;rw[qK]at a4;have al:=dm (show Kd.V (Kd.int .i64) 3 _ w.heap.size _ _ (nI aa ab) from vv a4 a5);clear qJ sG qK a5 a4;clear bS cl;have av:=dm bz;have dc:=dm bx;clear bz bx;replace bl:=eq_true bl;replace bm:=eq_true bm;have bY:0<=(0:Int):=(by omega);have bZ:0<((nI aa ab).length:Int):=nD;obtain⟨aC,cJ,aM⟩:=oG (zo) 0 bY bZ;cases cJ;have dS:(0<(nI aa ab).length)=True:=eq_true (by omega);(try rw[show((0:Int)).toNat=0 from rfl]at aM);(try rw[Addr.add_zero']at aM);replace bY:=eq_true bY;replace bZ:=eq_true bZ;have bn:0<=(ab:Int):=nD;have bo:ab<(aa.length:Int):=nD;obtain⟨cz,dD,dE,cL,aN,bA,bB⟩:=rH (qO ag.out).2.2 ab bn bo;obtain rfl:aD=cz:=(by injection cL);obtain⟨dT,cn,co,bT⟩:=vX ag.out [] ab bn (by first|exact bo|exact of_decide_eq_true (uh)|(have e_:=(qO ag.out).1;omega));obtain⟨dd,de,rfl,a6,a7⟩:=uH co;have aO:=bT 0 _ rfl;rw[Nat.add_zero,show((Kd.slice 3 (Kd.int .i64))).sz=1 from rfl,Nat.mul_one]at aO;replace aO:=Option.some.inj (aO.symm.trans aN);injection aO with qJ sG qK;rw[qJ]at a7;rw[qK]at a6;have am:=dm (show Kd.V (Kd.int .i64) 3 _ w.heap.size _ _ (nI aa ab) from vv a6 a7);clear qJ sG qK a7 a6;clear bT cn;have aw:=dm bB;have df:=dm bA;clear bB bA;replace bn:=eq_true bn;replace bo:=eq_true bo;have ea_:=Option.some.inj (aE.symm.trans aN);injection ea_ with ea_ en_ ec_;subst ea_;subst ec_;clear en_;have b3:0<=(1:Int):=(by omega);have b4:1<((nI aa ab).length:Int):=nD;obtain⟨dU,cM,aP⟩:=oG (zH) 1 b3 b4;cases cM;(try simp only [show(1:Int).toNat=1 from rfl,Nat.reduceMul,Nat.reduceEqDiff,Go.Addr.add,↓reduceIte]at aP);have dV:(1<(nI aa ab).length)=True:=eq_true (by omega);(try rw[show((1:Int)).toNat=1 from rfl]at aP);replace b3:=eq_true b3;replace b4:=eq_true b4;have bp:0<=(ab:Int):=nD;have bq:ab<(aa.length:Int):=nD;obtain⟨cA,dF,dG,cN,aQ,bC,bD⟩:=rH (qO ag.out).2.2 ab bp bq
            obtain rfl:aD=cA:=(by injection cN);obtain⟨dW,cp,cq,bU⟩:=vX ag.out [] ab bp (by first|exact bq|exact of_decide_eq_true (uh)|(have e_:=(qO ag.out).1;omega));obtain⟨dg,dh,rfl,a8,a9⟩:=uH cq;have aR:=bU 0 _ rfl;rw[Nat.add_zero,show((Kd.slice 3 (Kd.int .i64))).sz=1 from rfl,Nat.mul_one]at aR;replace aR:=Option.some.inj (aR.symm.trans aQ);injection aR with qJ sG qK;rw[qJ]at a9;rw[qK]at a8;have ao:=dm (show Kd.V (Kd.int .i64) 3 _ w.heap.size _ _ (nI aa ab) from vv a8 a9);clear qJ sG qK a9 a8;clear bU cp;have ax:=dm bD;have di:=dm bC;clear bD bC;replace bp:=eq_true bp;replace bq:=eq_true bq;have ea_:=Option.some.inj (aE.symm.trans aQ);injection ea_ with ea_ en_ ec_;subst ea_;subst ec_;clear en_;have b5:0<=((aK):Int):=nD;have b6:(aK)<((nI aa ab).length:Int):=nD;obtain⟨dX,cO,bE⟩:=oG (zq) (aK) b5 b6;cases cO;replace b5:=eq_true b5;replace b6:=eq_true b6;have br:0<=(ab:Int):=nD;have bu:ab<(aa.length:Int):=nD;obtain⟨cD,dH,dI,cP,aS,bF,bG⟩:=rH (qO ag.out).2.2 ab br bu;obtain rfl:aD=cD:=(by injection cP);obtain⟨dY,cr,ct,bV⟩:=vX ag.out [] ab br (by first|exact bu|exact of_decide_eq_true (uh)|(have e_:=(qO ag.out).1;omega));obtain⟨dj,dk,rfl,a_,ba⟩:=uH ct;have aT:=bV 0 _ rfl;rw[Nat.add_zero,show((Kd.slice 3 (Kd.int .i64))).sz=1 from rfl,Nat.mul_one]at aT;replace aT:=Option.some.inj (aT.symm.trans aS);injection aT with qJ sG qK;rw[qJ]at ba;rw[qK]at a_;have ap:=dm (show Kd.V (Kd.int .i64) 3 _ w.heap.size _ _ (nI aa ab) from vv a_ ba);clear qJ sG qK ba a_;clear bV cr;have ay:=dm bG;have dl:=dm bF;clear bG bF;replace br:=eq_true br;replace bu:=eq_true bu;have ea_:=Option.some.inj (aE.symm.trans aS);injection ea_ with ea_ en_ ec_;subst ea_;subst ec_;clear en_;have b7:0<=(au:Int):=nD;have b8:au<((nI aa ab).length:Int):=nD;obtain⟨dZ,cQ,bH⟩:=oG (zG) au b7 b8;cases cQ;replace b7:=eq_true b7;replace b8:=eq_true b8;refine pU 32 (S:=fun w'=>w'.cell? ⟨az,0,none⟩=some (.int .i64 ai)/\w'.cell? ⟨az,1,none⟩=some (.slice a2 af.length a1)/\w'.cell? (aD.add (ab).toNat)=some (.slice (some aC) (nI aa ab).length aZ)/\w'.cell? aC=some (.int .i64 (rd (nI aa ab) 0))/\w'.cell? (aD.add (ab).toNat)=some (.slice (some aC) (nI aa ab).length aZ)/\w'.cell? ⟨aC.block,aC.off+1,none⟩=some (.int .i64 (rd (nI aa ab) 1))/\w'.cell? (aD.add (ab).toNat)=some (.slice (some aC) (nI aa ab).length aZ)/\w'.cell? (aC.add ((aK)).toNat)=some (.int .i64 (rd (nI aa ab) (aK)))/\w'.cell? (aD.add (ab).toNat)=some (.slice (some aC) (nI aa ab).length aZ)/\w'.cell? (aC.add (au).toNat)=some (.int .i64 (rd (nI aa ab) au))) [] ⟨nk ae 0,nk ae 1,aE,aM,aN,aP,aQ,bE,aS,bH⟩ qL.Ec qL.DZ (fun hHeld HT_ HW_=>?_)
            generalize wr.drew=eY at ag ac ah ae aj HB al am ao ap av aw ax ay aE aM aN aP aQ bE aS bH hHeld⊢;refine lq 1 49 2 ?_;refine lq 2 50 6 ?_;refine lq 3 51 14 ?_;refine lq 7 55 142 ?_;refine lq 8 56 398 ?_;refine lq 9 57 910 ?_;refine lq 14 62 17294 ?_;refine lq 15 63 50062 ?_;refine lq 16 64 115598 ?_;refine lq 18 66 377742 ?_;refine lq 19 67 902030 ?_;refine lq 22 70 5096334 ?_;refine lq 23 71 13484942 ?_;refine lq 24 72 30262158 ?_;refine lq 26 74 97371022 ?_;refine vN 0 48 97371023 ?_;refine vN 4 52 97371039 ?_;refine lq 5 53 97371071 ?_;refine vN 6 54 97371135 ?_;refine vN 10 58 97372159 ?_;refine lq 11 59 97374207 ?_;refine vN 12 60 97378303 ?_;refine vN 17 65 97509375 ?_;refine lq 20 68 98557951 ?_;refine vN 21 69 100655103 ?_;refine vN 25 73 134209535 ?_;refine lq 27 75 268427263 ?_;refine vN 28 76 536862719 ?_;refine oD 13 61 536870911 (fun K hK=>?_);refine oO Try.func39 #[.int .i64 (rd (nI aa ab) 0),.int .i64 (rd (nI aa ab) 1)] ?_;with_reducible refine(xc.calls (rd (nI aa ab) 0) (rd (nI aa ab) 1) bj bk _ dQ.out).mono ?_
            rintro e eZ ⟨rfl,hb⟩;have bI:=(hb.cell (World.block_lt_of_cell? _ _ (hHeld.2.2.1))).trans (hHeld.2.2.1);have bJ:=(hb.cell (World.block_lt_of_cell? _ _ (hHeld.2.2.2.1))).trans (hHeld.2.2.2.1);have bK:=(hb.cell (World.block_lt_of_cell? _ _ (hHeld.2.2.2.2.1))).trans (hHeld.2.2.2.2.1);have bL:=(hb.cell (World.block_lt_of_cell? _ _ (hHeld.2.2.2.2.2.1))).trans (hHeld.2.2.2.2.2.1);have bM:=(hb.cell (World.block_lt_of_cell? _ _ (hHeld.2.2.2.2.2.2.1))).trans (hHeld.2.2.2.2.2.2.1);have bN:=(hb.cell (World.block_lt_of_cell? _ _ (hHeld.2.2.2.2.2.2.2.1))).trans (hHeld.2.2.2.2.2.2.2.1);have bO:=(hb.cell (World.block_lt_of_cell? _ _ (hHeld.2.2.2.2.2.2.2.2.1))).trans (hHeld.2.2.2.2.2.2.2.2.1);have bP:=(hb.cell (World.block_lt_of_cell? _ _ (hHeld.2.2.2.2.2.2.2.2.2))).trans (hHeld.2.2.2.2.2.2.2.2.2);refine⟨_,rfl,?_⟩;have n0:=dm (wh (xS) hb);have n1:=ou ac hb;have n2:=dm (sD (qX ah.out) hb);have n3:=dm (sD (qX al.out) hb);have n4:=dm (sD (qX am.out) hb);have n5:=dm (sD (qX ao.out) hb);have n6:=dm (sD (qX ap.out) hb);have n7:=nA ae hb;have n8:=dm (nT (BF) hb);have n9:=dm (nT (zo) hb);have ca:=dm (nT (zH) hb);have cd:=dm (nT (zq) hb);have ce:=dm (nT (zG) hb);have cf:=nJ HB hb;clear ag ac ah al am ao ap ae aj av aw ax ay HB;revert n0 n1 n2 n3 n4 n5 n6 n7 n8 n9 ca cd ce cf;intro ag ac ah al am ao ap ae aj av aw ax ay HB;(try clear hb eE hk hi);refine hK.out _ _ ⟨nk ae 0,nk ae 1,bI,bJ,bK,bL,bM,bN,bO,bP⟩ (fun hHeld=>?_);clear hK K;refine nQ 61 ?_;refine oD 29 77 1073741823 (fun K hK=>?_);refine ug Try.func39 (EH) rfl #[.int .i64 (rd (nI aa ab) (aK)),.int .i64 (rd (nI aa ab) au)] (by rfl) rfl rfl (KT) ?_;with_reducible refine(xc.calls (rd (nI aa ab) (aK)) (rd (nI aa ab) au) bW bX _ ef.out).mono ?_
            rintro e e2 ⟨rfl,hb⟩;have bI:=(hb.cell (World.block_lt_of_cell? _ _ (hHeld.2.2.1))).trans (hHeld.2.2.1);have bJ:=(hb.cell (World.block_lt_of_cell? _ _ (hHeld.2.2.2.1))).trans (hHeld.2.2.2.1);have bK:=(hb.cell (World.block_lt_of_cell? _ _ (hHeld.2.2.2.2.1))).trans (hHeld.2.2.2.2.1);have bL:=(hb.cell (World.block_lt_of_cell? _ _ (hHeld.2.2.2.2.2.1))).trans (hHeld.2.2.2.2.2.1);have bM:=(hb.cell (World.block_lt_of_cell? _ _ (hHeld.2.2.2.2.2.2.1))).trans (hHeld.2.2.2.2.2.2.1);have bN:=(hb.cell (World.block_lt_of_cell? _ _ (hHeld.2.2.2.2.2.2.2.1))).trans (hHeld.2.2.2.2.2.2.2.1);have bO:=(hb.cell (World.block_lt_of_cell? _ _ (hHeld.2.2.2.2.2.2.2.2.1))).trans (hHeld.2.2.2.2.2.2.2.2.1);have bP:=(hb.cell (World.block_lt_of_cell? _ _ (hHeld.2.2.2.2.2.2.2.2.2))).trans (hHeld.2.2.2.2.2.2.2.2.2);refine⟨_,rfl,?_⟩;have n0:=dm (wh (xS) hb);have n1:=ou ac hb;have n2:=dm (sD (qX ah.out) hb);have n3:=dm (sD (qX al.out) hb);have n4:=dm (sD (qX am.out) hb);have n5:=dm (sD (qX ao.out) hb);have n6:=dm (sD (qX ap.out) hb);have n7:=nA ae hb;have n8:=dm (nT (BF) hb);have n9:=dm (nT (zo) hb);have ca:=dm (nT (zH) hb);have cd:=dm (nT (zq) hb);have ce:=dm (nT (zG) hb);have cf:=nJ HB hb;clear ag ac ah al am ao ap ae aj av aw ax ay HB;revert n0 n1 n2 n3 n4 n5 n6 n7 n8 n9 ca cd ce cf;intro ag ac ah al am ao ap ae aj av aw ax ay HB;(try clear hb);refine hK.out _ _ ⟨nk ae 0,nk ae 1,bI,bJ,bK,bL,bM,bN,bO,bP⟩ (fun hHeld=>?_);clear hK K;refine nQ 77 ?_;refine oD 30 78 2147483647 (fun K hK=>?_);refine oO Try.func38 #[.agg #[.int .i64 ai,.slice a2 af.length a1],.agg #[.int .i64 bj,.int .i64 bk],.agg #[.int .i64 bW,.int .i64 bX]] ?_;with_reducible refine(ul.calls k3 ai _ _ af bj bk bW bX false _ ?ng ?ni eg.out).mono ?_
            (case ng=>exact nO (nM ac.out).2.2);(case ni=>exact(nM ac.out).2.1);rintro e e3 ⟨rfl,hb⟩;have bI:=(hb.cell (World.block_lt_of_cell? _ _ (hHeld.2.2.1))).trans (hHeld.2.2.1);have bJ:=(hb.cell (World.block_lt_of_cell? _ _ (hHeld.2.2.2.1))).trans (hHeld.2.2.2.1);have bK:=(hb.cell (World.block_lt_of_cell? _ _ (hHeld.2.2.2.2.1))).trans (hHeld.2.2.2.2.1);have bL:=(hb.cell (World.block_lt_of_cell? _ _ (hHeld.2.2.2.2.2.1))).trans (hHeld.2.2.2.2.2.1);have bM:=(hb.cell (World.block_lt_of_cell? _ _ (hHeld.2.2.2.2.2.2.1))).trans (hHeld.2.2.2.2.2.2.1);have bN:=(hb.cell (World.block_lt_of_cell? _ _ (hHeld.2.2.2.2.2.2.2.1))).trans (hHeld.2.2.2.2.2.2.2.1);have bO:=(hb.cell (World.block_lt_of_cell? _ _ (hHeld.2.2.2.2.2.2.2.2.1))).trans (hHeld.2.2.2.2.2.2.2.2.1);have bP:=(hb.cell (World.block_lt_of_cell? _ _ (hHeld.2.2.2.2.2.2.2.2.2))).trans (hHeld.2.2.2.2.2.2.2.2.2);refine⟨_,rfl,?_⟩;have n0:=dm (wh (xS) hb);have n1:=ou ac hb;have n2:=dm (sD (qX ah.out) hb);have n3:=dm (sD (qX al.out) hb);have n4:=dm (sD (qX am.out) hb);have n5:=dm (sD (qX ao.out) hb);have n6:=dm (sD (qX ap.out) hb);have n7:=nA ae hb;have n8:=dm (nT (BF) hb);have n9:=dm (nT (zo) hb);have ca:=dm (nT (zH) hb);have cd:=dm (nT (zq) hb);have ce:=dm (nT (zG) hb);have cf:=nJ HB hb;clear ag ac ah al am ao ap ae aj av aw ax ay HB;revert n0 n1 n2 n3 n4 n5 n6 n7 n8 n9 ca cd ce cf;intro ag ac ah al am ao ap ae aj av aw ax ay HB;(try clear hb);refine hK.out _ _ ⟨nk ae 0,nk ae 1,bI,bJ,bK,bL,bM,bN,bO,bP⟩ (fun hHeld=>?_);clear hK K;refine nQ 78 ?_;refine lq 31 79 4294967295 ?_;refine pM (pQ HT_.out (EH)) ?_;try go_wp2
            go_ret
            exact⟨by first|rfl|(simp[qa,qb]<;>rfl)|(simp only [←cg];first|rfl|(simp[qa,qb]<;>rfl))|(simp[*,qa,qb]<;>rfl),nC HB.out⟩
          ·rw[if_neg cF]at H;have d_:=decide_eq_false cF;clear cF;have H':=dm H;clear H;have aU:0<=(ab:Int):=nD;have a3:ab<(aa.length:Int):=nD;obtain⟨aD,cG,cH,ck,bv,aX,aY⟩:=rH (qO ag.out).2.2 ab aU a3;cases ck;obtain⟨cZ,bQ,bR,bd⟩:=vX ag.out [] ab aU (Gu);obtain⟨cv,cw,rfl,aH,aI⟩:=uH bR;have aB:=bd 0 _ rfl;rw[Nat.add_zero,show((Kd.slice 3 (Kd.int .i64))).sz=1 from rfl,Nat.mul_one]at aB;replace aB:=Option.some.inj (aB.symm.trans bv);injection aB with qJ sG qK;rw[qJ]at aI;rw[qK]at aH;have ah:=dm (show Kd.V (Kd.int .i64) 3 _ w.heap.size _ _ (nI aa ab) from vv aH aI);clear qJ sG qK aI aH;clear bd bQ;have aj:=dm aY;have cx:=dm aX;clear aY aX;replace aU:=eq_true aU;replace a3:=eq_true a3
           go_wp2
           go_roundg k3
           case measure=>have:=dn.out;have:=dq.out;have:=dt.out;omega
           case rel=>exact⟨(wrap64 (ab+1)),(BI),H',⟨by have:=dn.out;have:=dq.out;have:=dt.out;omega⟩,⟨xS⟩,⟨nH ac.out⟩,⟨nG ae.out⟩,⟨nC HB.out⟩⟩
       ·rw[if_neg cE]at H;have dr:=decide_eq_false cE;clear cE;obtain rfl:=Option.some.inj H
        go_wp2
        go_ret
        exact⟨G8,nC HB.out⟩
end Go.Proofs.Ytgeonpciodepgaa.P
