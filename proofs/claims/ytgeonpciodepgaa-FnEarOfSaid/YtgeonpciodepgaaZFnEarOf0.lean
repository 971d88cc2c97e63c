/- The proof's parts ahead of the row: of no condition of their own. -/
import Derived.ArgAppend
import Derived.Below
import Derived.BigQuiet
import Derived.ChangeSlices
import Derived.Deep.AppendLies
import Derived.Deep.CutBlock
import Derived.Deep.DeepCutAuto
import Derived.Deep.Draws
import Derived.Deep.LoopGhost
import Derived.Deep.OwnRows
import Derived.Deep.QuietTactic
import Derived.Deep.RegionHeld3
import Derived.KernelRfl
import Derived.Laws.BitsLemmas
import Derived.Laws.BytesArg
import Derived.Laws.IdiomCopy
import Derived.Laws.MakeOwn
import Derived.Laws.OwnMore
import Derived.Laws.Rows
import Derived.Laws.Slices
import Derived.Laws.StructEq
import Derived.Lib.AppendStr
import Derived.Lib.ConvBytes
import Derived.Maps.AppendAt
import Derived.OrdersHeld
import Derived.OwnWalk
import Derived.RowKit
import Derived.RowKit3
import Derived.SizedLaws
import Derived.Tactics
import Derived.WalkKit
import Derived.WalkLawsBesides
import Derived.WalkSpells
import Derived.WideLaws
import Derived.Test.YtgeonpciodepgaaProg
import Derived.Maps.Own
set_option linter.unusedVariables false
set_option linter.unusedSimpArgs false
namespace Go.Proofs.YtgeonpciodepgaaW.PrintWords
open Go.RowKit
structure jP (p:Prop):Prop where mk::(out:p)
structure kX (w w':World):Prop where mk::(out:∃n,w'=w.drewN n)
theorem kX.refl (w:World):kX w w:=⟨⟨0,rfl⟩⟩
theorem kX.step {w w':World}(h:kX w w') (n:Nat):kX w (w'.drewN n):=by
  obtain⟨m,rfl⟩:=h
  exact⟨⟨m+n,World.drewN_drewN ..⟩⟩
theorem kX.grown {w w':World}(h:kX w w'):Grown w w':=by
  obtain⟨n,rfl⟩:=h
  induction n with
  |zero=>exact Grown.refl _
  |succ n ih=>rw[←World.drew_drewN];exact Grown.drew ih
theorem kX.below {w w':World}(h:kX w w'):Below w.heap.size w w':=by
  obtain⟨n,rfl⟩:=h
  induction n with
  |zero=>exact Below.refl _ _
  |succ n ih=>rw[←World.drew_drewN];exact ih.drew
def rd (xs:List Int) (i:Int):Int:=xs.getD i.toNat 0
def bt (s:ByteArray) (i:Int):Int:=if h:i.toNat<s.size then((s[i.toNat]'h).toNat:Int) else 0
def bools (xs:List Bool):List Value:=xs.map fun x=> .bool x
theorem pJ {w W:World}(h:Below w.heap.size w W) (o:Obj):Below w.heap.size w (W.alloc o):=h.alloc h.size o
theorem xw {B:Nat}{w W:World}(h:Below B w W):Below B w W.drew:=⟨h.os,h.tape,h.output,h.size,h.block⟩
theorem qb {B:Nat}{w W:World}(h:Below B w W) (n:Nat):Below B w (W.drewN n):=⟨h.os,h.tape,h.output,h.size,h.block⟩
theorem Hw {B:Nat}{w w1 w2:World}(h:Below B w w1) (hB:B<=w1.heap.size) (k:Below w1.heap.size w1 w2):Below B w w2:=
  h.trans ⟨k.os,k.tape,k.output,k.size,fun i hi=>k.block i (Nat.lt_of_lt_of_le hi hB)⟩
theorem uI {w w1:World}(h:Below w.heap.size w w1) (row:Option Nat):w.grownBy w1 row:=⟨h.os,h.tape,h.output,h.size,fun i hi _=>h.block i hi⟩
theorem wZ {w w1:World}(h:Below w.heap.size w w1) {a:Addr}{v:Value}(hc:w.cell? a=some v):w1.cell? a=some v:=(h.cell (World.block_lt_of_cell? w a hc)).trans hc
theorem add_plain (g j:Nat):(⟨g,0,none⟩:Addr).add j=⟨g,j,none⟩:=by unfold Addr.add;split<;>simp_all
def qP (w:World) (k:IntKind) (A:Option Addr) (n:Nat) (xs:List Int):Prop:=
  xs.length=n/\n<=9223372036854775807/\(0<n->∃ad,A=some ad/\∀j,j<n->w.cell? (ad.add j)=some (.int k (xs.getD j 0)))
theorem qP.at_ {w:World}{k:IntKind}{A:Option Addr}{n:Nat}{xs:List Int}(h:qP w k A n xs) (i:Int) (h0:0<=i) (h1:i<n):∃ad,A=some ad/\w.cell? (ad.add i.toNat)=some (.int k (rd xs i)):=by
  obtain⟨ad,e,hc⟩:=h.2.2 (by omega)
  exact⟨ad,e,hc _ (by omega)⟩
theorem qP.below {w w1:World}{k:IntKind}{A:Option Addr}{n:Nat}{xs:List Int}(h:qP w k A n xs) (hb:Below w.heap.size w w1):qP w1 k A n xs:=
  ⟨h.1,h.2.1,fun hn=>by
    obtain⟨ad,e,hc⟩:=h.2.2 hn
    exact⟨ad,e,fun j hj=>wZ hb (hc j hj)⟩⟩
theorem KG (W:World) (base:Nat) (e:TypeId) (size:Nat):W.ownsRow base e size (.slice none 0 0) 0 []:=⟨by simp,.inl ⟨rfl,rfl⟩⟩
theorem wm {w:World}{base:Nat}{e:TypeId}{size n:Nat}{v:Value}{xs:List Value}(h:w.ownsRow base e size v n xs) (k:Nat) (hk:v.ownBlock=some k):base<=k:=by
  rcases h.2 with⟨rfl,_⟩|⟨g,cap,cur,rfl,hb,_⟩
  · simp[Value.ownBlock]at hk
  have:g=k:=by simpa [Value.ownBlock] using hk
  omega
theorem FH {w:World}{base:Nat}{e:TypeId}{size n:Nat}{v:Value}{xs:List Value}(h:w.ownsRow base e size v n xs) (k:Nat) (hk:v.ownBlock=some k):k<w.heap.size:=by
  rcases h.2 with⟨rfl,_⟩|⟨g,cap,cur,rfl,hb,hh,_⟩
  · simp[Value.ownBlock]at hk
  have:g=k:=by simpa [Value.ownBlock] using hk
  subst this
  exact(Array.getElem?_eq_some_iff.1 hh).1
theorem KU {w w1:World}{base:Nat}{e:TypeId}{size n:Nat}{v:Value}{xs:List Value}(h:w.ownsRow base e size v n xs) (hb:Below w.heap.size w w1):w1.ownsRow base e size v n xs:=
  h.kept (uI hb none) (by cases v.ownBlock<;>simp)
theorem KH {w w1:World}{base:Nat}{e:TypeId}{size n:Nat}{v:Value}{xs:List Value}(h:w.ownsRow base e size v n xs) {row:Option Nat}(hg:w.grownBy w1 row) (hne:v.ownBlock=none\/v.ownBlock≠row):w1.ownsRow base e size v n xs:=h.kept hg hne
theorem qP.qN {w:World}{k:IntKind}{A:Option Addr}{n:Nat}{xs:List Int}(h:qP w k A n xs) (i:Nat) (hi:i<=n):qP w k A i (xs.take i):=by
  refine⟨by rw[List.length_take,h.1];omega,by have:=h.2.1;omega,fun hp=>?_⟩
  obtain⟨ad,e,hc⟩:=h.2.2 (by omega)
  refine⟨ad,e,fun j hj=>?_⟩
  rw[hc j (by omega)]
  simp[List.getD_eq_getElem?_getD,hj]
theorem qP.Bn {w:World}{k:IntKind}{A:Option Addr}{n c:Nat}{xs:List Int}(h:qP w k A n xs) (i:Nat) (hi:i<=n) (hc:n<=c):qP w k (if c=i then A else A.map (·.add i)) (n - i) (xs.drop i):=by
  refine⟨by rw[List.length_drop,h.1],by have:=h.2.1;omega,fun hp=>?_⟩
  obtain⟨ad,rfl,hcell⟩:=h.2.2 (by omega)
  rw[if_neg (by omega)]
  refine⟨ad.add i,rfl,fun j hj=>?_⟩
  have ha:(ad.add i).add j=ad.add (i+j):=by
    unfold Addr.add
    by_cases h1:i=0<;>by_cases h2:j=0<;>simp[h1,h2,Nat.add_assoc]
  rw[ha,hcell (i+j) (by omega)]
  simp[List.getD_eq_getElem?_getD,List.getElem?_drop]
def LeO {α:Type}(a b:Option α):Prop:=∀r,a=some r->b=some r
theorem LeO.refl {α:Type}(a:Option α):LeO a a:=fun _ h=>h
theorem LeO.none {α:Type}(b:Option α):LeO Option.none b:=fun _ h=>by cases h
theorem LeO.trans {α:Type}{a b c:Option α}(h:LeO a b) (k:LeO b c):LeO a c:=fun r hr=>k r (h r hr)
theorem LeO.ite {α:Type}{c:Prop} [Decidable c] {a a' b b':Option α}(h:LeO a a') (k:LeO b b'):LeO (if c then a else b) (if c then a' else b'):=by
  split
  · exact h
  exact k
theorem LeO.bind {α β:Type}{a a':Option α}{f f':α->Option β}(h:LeO a a') (k:∀x,LeO (f x) (f' x)):LeO (a.bind f) (a'.bind f'):=by
  intro r hr
  obtain⟨x,hx,hf⟩:=Option.bind_eq_some_iff.1 hr
  exact Option.bind_eq_some_iff.2 ⟨x,h x hx,k x r hf⟩
theorem LeO.map {α β:Type}{a a':Option α}(f:α->β) (h:LeO a a'):LeO (a.map f) (a'.map f):=by
  intro r hr
  obtain⟨x,hx,hf⟩:=Option.map_eq_some_iff.1 hr
  exact Option.map_eq_some_iff.2 ⟨x,h x hx,hf⟩
theorem Fy {α:Type}{g:Nat->Option α}(h:∀k,LeO (g k) (g (k+1))) (k:Nat):∀j,LeO (g k) (g (k+j))
  |0=>LeO.refl _
  |j+1=>(Fy h k j).trans (h (k+j))
theorem AB {α:Type}{g:Nat->Option α}(h:∀k,LeO (g k) (g (k+1))) {k k':Nat}(hk:k<=k') {r:α}(hr:g k=some r):g k'=some r:=by
  have:=Fy h k (k' - k) r hr
  rwa [Nat.add_sub_cancel' hk]at this
theorem together {α β:Type}{g:Nat->Option α}{f:Nat->Option β}(hg:∀k,LeO (g k) (g (k+1))) (hf:∀k,LeO (f k) (f (k+1))) {r:α}{q:β}(h:∃k,g k=some r) (h':∃k,f k=some q):∃k,g k=some r/\f k=some q:=by
  obtain⟨k,hk⟩:=h
  obtain⟨k',hk'⟩:=h'
  exact⟨max k k',AB hg (Nat.le_max_left _ _) hk,AB hf (Nat.le_max_right _ _) hk'⟩
def kT {α:Type}(R:α->List Value->Prop) (size:Nat) (ps:List α) (cs:List Value):Prop:=
  cs.length=ps.length*size/\∀j p,ps[j]? =some p->R p ((cs.drop (j*size)).take size)
theorem kT.none {α:Type}(R:α->List Value->Prop) (size:Nat):kT R size [] []:=⟨by simp,fun j p h=>by simp at h⟩
theorem kT.snoc {α:Type}{R:α->List Value->Prop}{size:Nat}{ps:List α}{cs c:List Value}{p:α}(h:kT R size ps cs) (hp:R p c) (hc:c.length=size):kT R size (ps++[p]) (cs++c):=by
  refine⟨by rw[List.length_append,h.1,hc,List.length_append,List.length_singleton,Nat.add_mul,Nat.one_mul],fun j q hq=>?_⟩
  rcases Nat.lt_or_ge j ps.length with hj|hj
  · rw[List.getElem?_append_left hj]at hq
    have h1:j*size+size<=cs.length:=by rw[h.1,←Nat.succ_mul];exact Nat.mul_le_mul_right _ hj
    have h2:=h.2 j q hq
    rw[List.drop_append_of_le_length (by omega),List.take_append_of_le_length (by rw[List.length_drop];omega)]
    exact h2
  have hj':j=ps.length:=by
    have:=(List.getElem?_eq_some_iff.1 hq).1
    rw[List.length_append,List.length_singleton]at this
    omega
  subst hj'
  have hq':p=q:=by simpa using hq
  subst hq'
  rw[←h.1,List.drop_left,←hc,List.take_length]
  exact hp
theorem kT.p8 {α:Type}{R R':α->List Value->Prop}{size:Nat}{ps:List α}{cs:List Value}(h:kT R size ps cs) (hR:∀p c,R p c->R' p c):kT R' size ps cs:=⟨h.1,fun j p hj=>hR _ _ (h.2 j p hj)⟩
def rM {α:Type}(R:α->List Value->Prop) (size:Nat) (w:World) (A:Option Addr) (n:Nat) (ps:List α):Prop:=
  ps.length=n/\n<=9223372036854775807/\(0<n->∃ad,A=some ad/\∀j p,ps[j]? =some p->∃c,c.length=size/\R p c/\∀i u,c[i]? =some u->w.cell? (ad.add (j*size+i))=some u)
theorem rM.Jz {α:Type}{R:α->List Value->Prop}{size:Nat}{w:World}{A:Option Addr}{n:Nat}{ps:List α}(h:rM R size w A n ps) (d:α) (i:Int) (h0:0<=i) (h1:i<n):
    ∃ad c,A=some ad/\c.length=size/\R (ps.getD i.toNat d) c/\∀j u,c[j]? =some u->w.cell? (ad.add (i.toNat*size+j))=some u:=by
  obtain⟨ad,e,hc⟩:=h.2.2 (by omega)
  have hl:i.toNat<ps.length:=by have:=h.1;omega
  obtain⟨c,hs,hr,hcell⟩:=hc i.toNat _ (List.getElem?_eq_getElem hl)
  refine⟨ad,c,e,hs,?_,hcell⟩
  rw[List.getD_eq_getElem?_getD,List.getElem?_eq_getElem hl]
  exact hr
theorem rM.p8 {α:Type}{R R':α->List Value->Prop}{size:Nat}{w w1:World}{A:Option Addr}{n:Nat}{ps:List α}(h:rM R size w A n ps) (hb:Below w.heap.size w w1) (hR:∀p c,R p c->R' p c):rM R' size w1 A n ps:=
  ⟨h.1,h.2.1,fun hn=>by
    obtain⟨ad,e,hc⟩:=h.2.2 hn
    refine⟨ad,e,fun j p hj=>?_⟩
    obtain⟨c,hs,hr,hcell⟩:=hc j p hj
    exact⟨c,hs,hR _ _ hr,fun i u hu=>wZ hb (hcell i u hu)⟩⟩
theorem KI {α:Type}{R:α->List Value->Prop}{w:World}{base n size:Nat}{e:TypeId}{v:Value}{ps:List α}{cs:List Value}(h:w.ownsRow base e size v n cs) (hR:kT R size ps cs) (hn:ps.length=n):
    ∃A c,v=.slice A n c/\rM R size w A n ps:=by
  rcases Nat.eq_zero_or_pos n with h0|h0
  · rcases h.2 with⟨rfl,rfl⟩|⟨g,cap,cur,rfl,_⟩
    · exact⟨none,0,rfl,hn,by omega,fun hp=>absurd hp (by omega)⟩
    exact⟨_,cap,rfl,hn,by omega,fun hp=>absurd hp (by omega)⟩
  obtain⟨g,cap,rfl,_,_⟩:=h.form h0
  have hm:n<=9223372036854775807:=by
    rcases h.2 with⟨_,h1⟩|⟨g',cap',cur,he,_,_,h1,h2,_⟩
    · omega
    simp only [maxLen]at h2
    omega
  refine⟨_,cap,rfl,hn,hm,fun _=>⟨_,rfl,fun j p hj=>⟨(cs.drop (j*size)).take size,?_,hR.2 j p hj,fun i u hu=>?_⟩⟩⟩
  · have hjl:=(List.getElem?_eq_some_iff.1 hj).1
    have h1:j*size+size<=cs.length:=by rw[hR.1,←Nat.succ_mul];exact Nat.mul_le_mul_right _ hjl
    rw[List.length_take,List.length_drop]
    omega
  refine h.cells (g:=g) rfl _ u ?_
  rw[List.getElem?_take]at hu
  split at hu
  · rw[List.getElem?_drop]at hu
    exact hu
  cases hu
theorem Hf (ad:Addr) (m j:Nat) (hj:0<j):ad.add (m+j)=⟨(ad.add m).block,(ad.add m).off+j,none⟩:=by
  unfold Addr.add
  by_cases hm:m=0
  · subst hm
    simp[Nat.ne_of_gt hj]
  simp[hm,Nat.add_assoc]
section
variable {P:Program}{ops:Array Oper}{rest:List Oper}{o:Oper}{a:Act}{Q:Exit->Act->World->Prop}
theorem FO {w0 W:World}(base:Nat) (hgd:o.guard=none) (s x:Operand) (t e:TypeId) (z:Value) (size bytes:Nat)
    (ho:o.op=.call {callee:=.builtin .append,args:= #[s,x],argTypes:= #[t,t]})
    (ht:P.underlying t=some (.slice e)) (hinfo:(P.info? e).map (fun i=>(i.zero,i.size,i.bytes))=some (some z,size,bytes)) (hz:z.cells.size=size) (hs0:0<size) (hb0:0<bytes)
    (v:Value) (n:Nat) (xs ys:List Value) (hs:a.eval s=v) (hx:a.eval x=.slice (some ⟨W.heap.size,0,none⟩) 1 1) (hys:ys.length=size) (h1:∀u∈ys,u.oneCell'=true)
    (HO:W.ownsRow base e size v n xs) (HB:Below base w0 W) (hbase:base<=W.heap.size) (hl:(n+1)*bytes<=140737488355328)
    (h:∀v1 w1,w1.ownsRow base e size v1 (n+1) (xs++ys)->Below base w0 w1->W.grownBy w1 v.ownBlock->(v1.ownBlock=v.ownBlock\/∃b,v1.ownBlock=some b/\W.heap.size<=b)->wpList P ops Q rest (a.put o.dst v1) w1):
    wpList P ops Q (o::rest) a (W.alloc (.cells ys.toArray e)):=by
  obtain⟨i0,hi,hzz⟩:=Option.map_eq_some_iff.1 hinfo
  simp only [Prod.mk.injEq]at hzz
  obtain⟨hz0,hz1,hz2⟩:=hzz
  have hlen:n+1<=140737488355328:=Nat.le_trans (Nat.le_mul_of_pos_right _ hb0) hl
  refine wpList_append_own_at (W.alloc (.cells ys.toArray e)) hgd s x t ho base e i0 z size bytes ht hi hz0 hz1 hz2 hz hs0 v n xs hs (HO.alloc _) ⟨W.heap.size,0,none⟩ 1 1 ys hx (by rw[hys];simp)
    (by simpa using World.news_of_block (cs:=ys.toArray) (t:=e) (fr:=(0,0)) (heap_alloc_new W (.cells ys.toArray e))) h1 (by simp only [maxLen];omega) hl (by simp;omega) ?_
  intro v1 w1 hown hg _ hat
  refine h v1 w1 hown ((HB.alloc hbase _).grown hg (by simp;omega) (wm HO)) (World.grownBy.trans (World.grownBy_alloc W _ _) hg) ?_
  rcases hat with hat|hat
  · exact .inl hat
  exact .inr ⟨_,hat,by simp⟩
end
theorem own_ne {w:World}{base:Nat}{e t:TypeId}{size n g:Nat}{v:Value}{xs:List Value}{cs:Array Value}(h:w.ownsRow base e size v n xs) (hg:w.heap[g]? =some (.cells cs t (0,0))) (hne:e≠t):some g≠v.ownBlock:=by
  rcases h.2 with⟨rfl,_⟩|⟨g',cap,cur,rfl,_,hh,_⟩
  · simp[Value.ownBlock]
  intro he
  have:g=g':=by simpa [Value.ownBlock] using he
  subst this
  rw[hg]at hh
  injection hh with hh
  injection hh with _ ht
  exact hne ht.symm
theorem KJ {w:World}{base:Nat}{e:TypeId}{size n:Nat}{v:Value}{xs:List Value}(h:w.ownsRow base e size v n xs) {p:Addr}(hne:some p.block≠v.ownBlock) (u:Value):(w.setCell p u).ownsRow base e size v n xs:=by
  obtain⟨h1,h2⟩:=h
  refine⟨h1,?_⟩
  rcases h2 with h2|⟨g,cap,cur,rfl,hg,hh,r⟩
  · exact .inl h2
  exact .inr ⟨g,cap,cur,rfl,hg,by rw[Below.heap_setCell _ _ _ _ (fun e=>hne (by rw[e];rfl))];exact hh,r⟩
theorem yU {w:World}{g:Nat}{t:TypeId}{cs:Array Value}(h:w.heap[g]? =some (.cells cs t (0,0))) (i:Nat) (u:Value):(w.setCell ⟨g,i,none⟩ u).heap[g]? =some (.cells (cs.setIfInBounds i u) t (0,0)):=by
  simp[World.setCell,Array.getElem?_modify,h]
theorem pQ {w:World}{g:Nat}{t:TypeId}{cs:Array Value}(h:w.heap[g]? =some (.cells cs t (0,0))) {p:Addr}(hp:g≠p.block) (u:Value):(w.setCell p u).heap[g]? =some (.cells cs t (0,0)):=(Below.heap_setCell w p u g hp).trans h
theorem lL {w:World}{g:Nat}{o:Obj}(h:w.heap[g]? =some o):g<w.heap.size:=(Array.getElem?_eq_some_iff.1 h).1
theorem mG {w:World}{g:Nat}{t:TypeId}{cs:Array Value}(h:w.heap[g]? =some (.cells cs t (0,0))) (i:Nat):w.cell? ⟨g,i,none⟩=cs[i]? :=cell_of_row w g i cs t (0,0) h
theorem l9 {w:World}{g:Nat}{t:TypeId}{cs:Array Value}(h:w.heap[g]? =some (.cells cs t (0,0))) (i:Nat):w.frozen? ⟨g,i,none⟩=false:=by simp[World.frozen?,h]
theorem yS {w w1:World}{g:Nat}{o:Obj}{row:Option Nat}(h:w.heap[g]? =some o) (hg:w.grownBy w1 row) (hne:some g≠row):w1.heap[g]? =some o:=(hg.block g (lL h) hne).trans h
def kZ (w w':World) (g:Nat) (row:Option Nat):Prop:=w.heap.size<=w'.heap.size/\∀i,i<w.heap.size->i≠g->some i≠row->w'.heap[i]? =w.heap[i]?
theorem kZ.refl (w:World) (g:Nat) (row:Option Nat):kZ w w g row:=⟨Nat.le_refl _,fun _ _ _ _=>rfl⟩
theorem kZ.wX {w w1:World}{row:Option Nat}(h:w.grownBy w1 row) (g:Nat):kZ w w1 g row:=⟨h.size,fun i hi _ hr=>h.block i hi hr⟩
theorem kZ.of_below {w w1:World}(h:Below w.heap.size w w1) (g:Nat) (row:Option Nat):kZ w w1 g row:=⟨h.size,fun i hi _ _=>h.block i hi⟩
theorem kZ.ym {w w1:World}{g:Nat}{row:Option Nat}(h:kZ w w1 g row) (j:Nat) (u:Value):kZ w (w1.setCell ⟨g,j,none⟩ u) g row:=
  ⟨by simpa [World.setCell] using h.1,fun i hi hg hr=>(Below.heap_setCell w1 ⟨g,j,none⟩ u i hg).trans (h.2 i hi hg hr)⟩
theorem kZ.trans {w w1 w2:World}{g:Nat}{row row1:Option Nat}(h:kZ w w1 g row) (k:kZ w1 w2 g row1) (hr:row1=row\/∃b,row1=some b/\w.heap.size<=b):kZ w w2 g row:=
  ⟨Nat.le_trans h.1 k.1,fun i hi hg hn=>by
    refine(k.2 i (Nat.lt_of_lt_of_le hi h.1) hg ?_).trans (h.2 i hi hg hn)
    rcases hr with rfl|⟨b,rfl,hb⟩
    · exact hn
    intro e
    injection e with e
    omega⟩
theorem kZ.blk {w w1:World}{g g':Nat}{row:Option Nat}{o:Obj}(h:kZ w w1 g row) (hb:w.heap[g']? =some o) (hg:g'≠g) (hr:some g'≠row):w1.heap[g']? =some o:=(h.2 g' (lL hb) hg hr).trans hb
theorem kZ.own {w w1:World}{g:Nat}{row:Option Nat}{base:Nat}{e:TypeId}{size n:Nat}{v:Value}{xs:List Value}(h:kZ w w1 g row) (ho:w.ownsRow base e size v n xs) (hg:v.ownBlock≠some g) (hr:v.ownBlock=none\/v.ownBlock≠row):w1.ownsRow base e size v n xs:=by
  obtain⟨h1,h2⟩:=ho
  refine⟨h1,?_⟩
  rcases h2 with h2|⟨b,cap,cur,rfl,hb,hh,r⟩
  · exact .inl h2
  refine .inr ⟨b,cap,cur,rfl,hb,h.blk hh ?_ ?_,r⟩
  · intro e
    exact hg (by rw[←e];rfl)
  rcases hr with hr|hr
  · simp[Value.ownBlock]at hr
  exact hr
def Ev {α:Type}(g:Nat->Option α) (r:α):Prop:=∃K,∀k,K<=k->g k=some r
theorem Ev.of {α:Type}{g:Nat->Option α}{r:α}(hg:∀k,LeO (g k) (g (k+1))) {k:Nat}(h:g k=some r):Ev g r:=⟨k,fun _ hk=>AB hg hk h⟩
theorem Ev.now {α:Type}(r:α):Ev (fun _=>some r) r:=⟨0,fun _ _=>rfl⟩
theorem Ev.rounds {α:Type}{g:Nat->Option α}{r:α}(h:Ev g r):∃k,g k=some r:=by
  obtain⟨K,h⟩:=h
  exact⟨K,h K (Nat.le_refl _)⟩
theorem Ev.bind {α β:Type}{g:Nat->Option α}{f:Nat->α->Option β}{a:α}{r:β}(h:Ev g a) (k:Ev (fun n=>f n a) r):Ev (fun n=>(g n).bind (f n)) r:=by
  obtain⟨K,h⟩:=h
  obtain⟨K',k⟩:=k
  refine⟨max K K',fun n hn=>?_⟩
  have h1:=h n (by omega)
  have h2:=k n (by omega)
  simp only [h1,Option.bind_some]
  exact h2
theorem Ev.step {α:Type}{g f:Nat->Option α}{r:α}(h:∀k,g (k+1)=f k) (k:Ev f r):Ev g r:=by
  obtain⟨K,k⟩:=k
  refine⟨K+1,fun n hn=>?_⟩
  obtain⟨m,rfl⟩:∃m,n=m+1:=⟨n - 1,by omega⟩
  rw[h]
  exact k m (by omega)
theorem Ev.congr {α:Type}{g f:Nat->Option α}{r:α}(h:∀k,g k=f k) (k:Ev f r):Ev g r:=by
  obtain⟨K,k⟩:=k
  exact⟨K,fun n hn=>(h n).trans (k n hn)⟩
section
variable {P:Program}{ops:Array Oper}{o:Oper}{a:Act}{Q:Exit->Act->World->Prop}{K:Act->World->Prop}
theorem LD {w0 W:World}(base:Nat) (hw:Region.wanted o (yielded ops a.tmps)=true) (s x:Operand) (t e:TypeId) (z:Value) (size bytes:Nat)
    (ho:o.op=.call {callee:=.builtin .append,args:= #[s,x],argTypes:= #[t,t]})
    (ht:P.underlying t=some (.slice e)) (hinfo:(P.info? e).map (fun i=>(i.zero,i.size,i.bytes))=some (some z,size,bytes)) (hz:z.cells.size=size) (hs0:0<size) (hb0:0<bytes)
    (v:Value) (n:Nat) (xs ys:List Value) (hs:a.eval s=v) (hx:a.eval x=.slice (some ⟨W.heap.size,0,none⟩) 1 1) (hys:ys.length=size) (h1:∀u∈ys,u.oneCell'=true)
    (HO:W.ownsRow base e size v n xs) (HB:Below base w0 W) (hbase:base<=W.heap.size) (hl:(n+1)*bytes<=140737488355328)
    (h:∀v1 w1,w1.ownsRow base e size v1 (n+1) (xs++ys)->Below base w0 w1->W.grownBy w1 v.ownBlock->(v1.ownBlock=v.ownBlock\/∃b,v1.ownBlock=some b/\W.heap.size<=b)->K (a.put o.dst v1) w1):
    if Region.wanted o (yielded ops a.tmps)=true then Oper.wp P o a (W.alloc (.cells ys.toArray e)) K Q else K (a.put o.dst undef) (W.alloc (.cells ys.toArray e)):=by
  obtain⟨i0,hi,hzz⟩:=Option.map_eq_some_iff.1 hinfo
  simp only [Prod.mk.injEq]at hzz
  obtain⟨hz0,hz1,hz2⟩:=hzz
  have hlen:n+1<=140737488355328:=Nat.le_trans (Nat.le_mul_of_pos_right _ hb0) hl
  rw[if_pos hw]
  obtain⟨v1,w1,hr,hown,hg,_,hat⟩:=run_append_own_at (P:=P) (W.alloc (.cells ys.toArray e)) base t o.type e i0 z size bytes ht hi hz0 hz1 hz2 hz hs0 v n xs (HO.alloc _) ⟨W.heap.size,0,none⟩ 1 1 ys (by rw[hys];simp)
    (by simpa using World.news_of_block (cs:=ys.toArray) (t:=e) (fr:=(0,0)) (heap_alloc_new W (.cells ys.toArray e))) h1 (by simp only [maxLen];omega) hl (by simp;omega)
  unfold Oper.wp execOp
  simp only [ho,resolve,invoke,builtin,Sem.run_bind,Sem.run_pure,Result.andThen_ok,List.map_toArray,List.map_cons,List.map_nil,hs,hx,hr]
  refine h v1 w1 hown ((HB.alloc hbase _).grown hg (by simp;omega) (wm HO)) (World.grownBy.trans (World.grownBy_alloc W _ _) hg) ?_
  rcases hat with hat|hat
  · exact .inl hat
  exact .inr ⟨_,hat,by simp⟩
end
theorem KM {w:World}{base base':Nat}{e:TypeId}{size n:Nat}{v:Value}{xs:List Value}(h:w.ownsRow base e size v n xs) (hb:base'<=base):w.ownsRow base' e size v n xs:=by
  obtain⟨h1,h2⟩:=h
  refine⟨h1,?_⟩
  rcases h2 with h2|⟨g,cap,cur,rfl,hg,r⟩
  · exact .inl h2
  exact .inr ⟨g,cap,cur,rfl,Nat.le_trans hb hg,r⟩
section
variable {α:Type}{enc:α->Value}{d:α}
def encs (enc:α->Value) (xs:List α):List Value:=xs.map enc
def l8 (d:α) (xs:List α) (i:Int):α:=xs.getD i.toNat d
theorem EK (xs:List α):(encs enc xs).length=xs.length:=by simp[encs]
theorem Jf (xs:List α) (j:Nat) (h:j<xs.length):(encs enc xs)[j]? =some (enc (xs.getD j d)):=by
  simp[encs,List.getElem?_eq_getElem h,List.getD_eq_getElem?_getD]
def og (enc:α->Value) (d:α) (w:World) (A:Option Addr) (n:Nat) (xs:List α):Prop:=
  xs.length=n/\n<=9223372036854775807/\(0<n->∃ad,A=some ad/\∀j,j<n->w.cell? (ad.add j)=some (enc (xs.getD j d)))
theorem og.at_ {w:World}{A:Option Addr}{n:Nat}{xs:List α}(h:og enc d w A n xs) (i:Int) (h0:0<=i) (h1:i<n):∃ad,A=some ad/\w.cell? (ad.add i.toNat)=some (enc (l8 d xs i)):=by
  obtain⟨ad,e,hc⟩:=h.2.2 (by omega)
  exact⟨ad,e,hc _ (by omega)⟩
theorem og.below {w w1:World}{A:Option Addr}{n:Nat}{xs:List α}(h:og enc d w A n xs) (hb:Below w.heap.size w w1):og enc d w1 A n xs:=
  ⟨h.1,h.2.1,fun hn=>by
    obtain⟨ad,e,hc⟩:=h.2.2 hn
    exact⟨ad,e,fun j hj=>wZ hb (hc j hj)⟩⟩
theorem og.qN {w:World}{A:Option Addr}{n:Nat}{xs:List α}(h:og enc d w A n xs) (i:Nat) (hi:i<=n):og enc d w A i (xs.take i):=by
  refine⟨by rw[List.length_take,h.1];omega,by have:=h.2.1;omega,fun hp=>?_⟩
  obtain⟨ad,e,hc⟩:=h.2.2 (by omega)
  refine⟨ad,e,fun j hj=>?_⟩
  rw[hc j (by omega)]
  simp[List.getD_eq_getElem?_getD,hj]
theorem og.Bn {w:World}{A:Option Addr}{n c:Nat}{xs:List α}(h:og enc d w A n xs) (i:Nat) (hi:i<=n) (hc:n<=c):og enc d w (if c=i then A else A.map (·.add i)) (n - i) (xs.drop i):=by
  refine⟨by rw[List.length_drop,h.1],by have:=h.2.1;omega,fun hp=>?_⟩
  obtain⟨ad,rfl,hcell⟩:=h.2.2 (by omega)
  rw[if_neg (by omega)]
  refine⟨ad.add i,rfl,fun j hj=>?_⟩
  have ha:(ad.add i).add j=ad.add (i+j):=by
    unfold Addr.add
    by_cases h1:i=0<;>by_cases h2:j=0<;>simp[h1,h2,Nat.add_assoc]
  rw[ha,hcell (i+j) (by omega)]
  simp[List.getD_eq_getElem?_getD,List.getElem?_drop]
theorem KR {P:Program}(enc:α->Value) (d:α) (t e:TypeId) (kl:IntKind) {i:TypeInfo}(ht:P.underlying t=some (.slice e)) (hi:P.info? e=some i) (hsz:i.size=1) (A:Option Addr) (n c m:Nat) (hm:m<=n):
    ∃A':Option Addr,(∀W:World,(Instr.slice t (.slice A n c) (some (.int kl (m:Int))) none none).run P W=.ok (.slice A' (n - m) (c - m)) W)/\
      ∀ (w:World) (xs:List α),n<=c->og enc d w A n xs->og enc d w A' (n - m) (xs.drop m):=by
  refine⟨if c=m then A else A.map (·.add m),fun W=>?_,fun w xs hc h=>h.Bn m hm hc⟩
  have hel:P.elem t=e:=by simp[Program.elem,ht]
  have hu:P.underlying t=some (.slice (P.elem t)):=by rw[hel];exact ht
  rw[run_slice_l W t A n c hu kl (m:Int) (Int.natCast_nonneg _) (by omega),hel]
  simp[sizeOf,typeInfo,hi,hsz,sliced,Result.andThen]
theorem KD {W:World}{base g n cap:Nat}{e:TypeId}{xs:List α}(h:W.ownsRow base e 1 (.slice (some ⟨g,0,none⟩) n cap) n (encs enc xs)) (i:Int) (h0:0<=i) (h1:i<n):
    W.cell? ⟨g,i.toNat,none⟩=some (enc (l8 d xs i))/\W.frozen? ⟨g,i.toNat,none⟩=false:=by
  have hl:xs.length=n:=by have:=h.1;simp[encs]at this;exact this
  constructor
  · have hc:=h.cells (g:=g) rfl i.toNat _ (Jf (d:=d) xs i.toNat (by omega))
    rwa [add_plain]at hc
  rcases h.2 with⟨h',_⟩|⟨g',cap',cur,h',_,hh,_⟩
  · cases h'
  have:g=g':=by injection h' with h';injection h' with h';injection h' with h'
  subst this
  simp[World.frozen?,hh]
theorem KL {W:World}{base g n cap:Nat}{e:TypeId}{xs:List α}(h:W.ownsRow base e 1 (.slice (some ⟨g,0,none⟩) n cap) n (encs enc xs)) (i:Int) (x:α):
    (W.setCell ⟨g,i.toNat,none⟩ (enc x)).ownsRow base e 1 (.slice (some ⟨g,0,none⟩) n cap) n (encs enc (xs.set i.toNat x))/\W.grownBy (W.setCell ⟨g,i.toNat,none⟩ (enc x)) (some g):=by
  have hs:=h.stored i.toNat (enc x)
  have he:(encs enc xs).set i.toNat (enc x)=encs enc (xs.set i.toNat x):=by simp[encs,List.map_set]
  rwa [he]at hs
end
theorem nG {w:World}{g:Nat}{o:Obj}(h:w.heap[g]? =some o) (o':Obj):(w.alloc o').heap[g]? =some o:=(Below.heap_alloc w o' g (lL h)).trans h
theorem kQ {w:World}{g:Nat}{o:Obj}(h:w.heap[g]? =some o):w.drew.heap[g]? =some o:=h
theorem pO {w:World}{g:Nat}{o:Obj}(h:w.heap[g]? =some o) (n:Nat):(w.drewN n).heap[g]? =some o:=h
theorem nX {w w1:World}{g:Nat}{o:Obj}(h:w.heap[g]? =some o) (hb:Below w.heap.size w w1):w1.heap[g]? =some o:=(hb.block g (lL h)).trans h
theorem yT (w:World) (o:Obj):(w.alloc o).heap[w.heap.size]? =some o:=heap_alloc_new w o
section
variable {P:Program}
theorem yj {fn:Func}{p u:Tmp}{ty:TypeId}(h:fn.results= #[.cell p ty,.tmp u]) (tmps:Array Value) (w:World) (g:Nat) (t:TypeId) (cs:Array Value) (fr:Nat×Nat) (d:TypeDesc)
    (hp:tmps.getD p undef=.pointer (some ⟨g,0,none⟩)) (hg:w.heap[g]? =some (.cells cs t fr))
    (hu:P.underlying ty=some d) (hd:(match d with| .struct _| .array _ _=>true|_=>false)=true) (hi:(P.info? ty).map (·.size)=some cs.size):
    (results fn tmps).run P w=.ok (.tuple #[.agg cs,tmps.getD u undef]) w:=by
  have hp':tmps[p]?.getD undef=.pointer (some ⟨g,0,none⟩):=by simpa using hp
  simp[results,h,hp',asAddr,run_loadVar_row w g t ty cs fr d hg hu hd hi]
end
theorem KE {w:World}{base n m c size:Nat}{e:TypeId}{A:Option Addr}{xs:List Value}(h:w.ownsRow base e size (.slice A m c) n xs):m<=c:=by
  rcases h.2 with⟨he,_⟩|⟨g,cap,cur,he,_,_,hnc,_⟩
  · injection he with _ h2 h3
    omega
  injection he with _ h2 h3
  omega
def oU {α:Type}(R:α->List Value->Prop) (e:TypeId) (size:Nat) (w:World) (base:Nat) (v:Value) (ps:List α):Prop:=
  ∃inner,w.ownsRow base e size v ps.length inner/\kT R size ps inner
section
variable {α:Type}{R R':α->List Value->Prop}{e:TypeId}{size:Nat}{w w1:World}{base:Nat}{v:Value}{ps:List α}
theorem oU.none_ (R:α->List Value->Prop) (e:TypeId) (size:Nat) (w:World) (base:Nat):oU R e size w base (.slice none 0 0) []:=⟨[],KG _ _ _ _,kT.none _ _⟩
theorem oU.p8 (h:oU R e size w base v ps) (hR:∀p c,R p c->R' p c):oU R' e size w base v ps:=by
  obtain⟨inner,ho,hr⟩:=h
  exact⟨inner,ho,hr.p8 hR⟩
theorem oU.below (h:oU R e size w base v ps) (hb:Below w.heap.size w w1):oU R e size w1 base v ps:=by
  obtain⟨inner,ho,hr⟩:=h
  exact⟨inner,KU ho hb,hr⟩
theorem oU.other (h:oU R e size w base v ps) {row:Option Nat}(hg:w.grownBy w1 row) (hne:v.ownBlock=none\/v.ownBlock≠row):oU R e size w1 base v ps:=by
  obtain⟨inner,ho,hr⟩:=h
  exact⟨inner,KH ho hg hne,hr⟩
theorem oU.ym (h:oU R e size w base v ps) {g:Nat}{t:TypeId}{cells:Array Value}(hb:w.heap[g]? =some (.cells cells t (0,0))) (ht:e≠t) (j:Nat) (u:Value):oU R e size (w.setCell ⟨g,j,none⟩ u) base v ps:=by
  obtain⟨inner,ho,hr⟩:=h
  exact⟨inner,KJ ho (own_ne ho hb ht) u,hr⟩
theorem oU.keep (h:oU R e size w base v ps) {g:Nat}{t:TypeId}{cells:Array Value}(hb:w.heap[g]? =some (.cells cells t (0,0))) (ht:e≠t) (hk:kZ w w1 g none):oU R e size w1 base v ps:=by
  obtain⟨inner,ho,hr⟩:=h
  exact⟨inner,hk.own ho (Ne.symm (own_ne ho hb ht)) (by cases v.ownBlock<;>simp),hr⟩
theorem oU.reads (h:oU R e size w base v ps):∃A c,v=.slice A ps.length c/\ps.length<=c/\rM R size w A ps.length ps:=by
  obtain⟨inner,ho,hr⟩:=h
  obtain⟨A,c,rfl,hrow⟩:=KI ho hr rfl
  exact⟨A,c,rfl,KE ho,hrow⟩
theorem oU.Kr (h:oU R e size w base v ps) {g:Nat}{t:TypeId}{cells:Array Value}(hb:w.heap[g]? =some (.cells cells t (0,0))) (ht:e≠t):some g≠v.ownBlock:=by
  obtain⟨inner,ho,hr⟩:=h
  exact own_ne ho hb ht
end
section
variable {P:Program}{ops:Array Oper}{rest:List Oper}{o:Oper}{a:Act}{Q:Exit->Act->World->Prop}{α:Type}{R:α->List Value->Prop}
theorem oU.append {w0 W:World}(base:Nat) (hgd:o.guard=none) (s x:Operand) (t e:TypeId) (z:Value) (size bytes:Nat)
    (ho:o.op=.call {callee:=.builtin .append,args:= #[s,x],argTypes:= #[t,t]})
    (ht:P.underlying t=some (.slice e)) (hinfo:(P.info? e).map (fun i=>(i.zero,i.size,i.bytes))=some (some z,size,bytes)) (hz:z.cells.size=size) (hs0:0<size) (hb0:0<bytes)
    (v:Value) (ps:List α) (p:α) (cs:List Value) (hs:a.eval s=v) (hx:a.eval x=.slice (some ⟨W.heap.size,0,none⟩) 1 1) (hp:R p cs) (hcs:cs.length=size) (h1:∀u∈cs,u.oneCell'=true)
    (HO:oU R e size W base v ps) (HB:Below base w0 W) (hbase:base<=W.heap.size) (hl:(ps.length+1)*bytes<=140737488355328)
    (h:∀v1 w1,oU R e size w1 base v1 (ps++[p])->Below base w0 w1->W.grownBy w1 v.ownBlock->(v1.ownBlock=v.ownBlock\/∃b,v1.ownBlock=some b/\W.heap.size<=b)->wpList P ops Q rest (a.put o.dst v1) w1):
    wpList P ops Q (o::rest) a (W.alloc (.cells cs.toArray e)):=by
  obtain⟨inner,hown,hr⟩:=HO
  refine FO base hgd s x t e z size bytes ho ht hinfo hz hs0 hb0 v ps.length inner cs hs hx hcs h1 hown HB hbase hl ?_
  intro v1 w1 hown1 hb1 hg1 hat1
  exact h v1 w1 ⟨inner++cs,by rw[List.length_append,List.length_singleton];exact hown1,hr.snoc hp hcs⟩ hb1 hg1 hat1
end
theorem rM.E5 {α:Type}{R:α->List Value->Prop}{size:Nat}{w:World}{ad:Addr}{n:Nat}{ps:List α}(h:rM R size w (some ad) n ps):
    ∃inner,kT R size ps inner/\∀j u,inner[j]? =some u->w.cell? (ad.add j)=some u:=by
  have key:∀m,m<=ps.length->∃inner,kT R size (ps.take m) inner/\∀j u,inner[j]? =some u->w.cell? (ad.add j)=some u:=by
    intro m
    induction m with
    |zero=>exact fun _=>⟨[],kT.none _ _,fun j u hu=>by simp at hu⟩
    |succ m ih=>
      intro hm
      obtain⟨inner,hr,hc⟩:=ih (by omega)
      obtain⟨ad',he,hcell⟩:=h.2.2 (by have:=h.1;omega)
      injection he with he
      subst he
      obtain⟨c,hcl,hp,hcc⟩:=hcell m _ (List.getElem?_eq_getElem (show m<ps.length by omega))
      refine⟨inner++c,?_,fun j u hu=>?_⟩
      · rw[List.take_succ_eq_append_getElem (show m<ps.length by omega)]
        exact hr.snoc hp hcl
      have hil:inner.length=m*size:=by rw[hr.1,List.length_take,Nat.min_eq_left (by omega)]
      rcases Nat.lt_or_ge j inner.length with hj|hj
      · rw[List.getElem?_append_left hj]at hu
        exact hc j u hu
      rw[List.getElem?_append_right hj]at hu
      have:=hcc (j - inner.length) u hu
      rwa [hil,Nat.add_sub_cancel' (by omega)]at this
  obtain⟨inner,hr,hc⟩:=key ps.length (Nat.le_refl _)
  rw[List.take_length]at hr
  exact⟨inner,hr,hc⟩
section
variable {α:Type}{P:Program}
theorem og.len_ {enc:α->Value}{d:α}{w:World}{A:Option Addr}{n:Nat}{xs:List α}(h:og enc d w A n xs):og enc d w A xs.length xs:=by rw[h.1];exact h
theorem BO (enc:α->Value) (d:α) (t e:TypeId) (kl:IntKind) {i:TypeInfo}(ht:P.underlying t=some (.slice e)) (hi:P.info? e=some i) (hsz:i.size=1) (A:Option Addr) (c:Nat) (xs:List α) (j:Int) (h0:0<=j) (hm:j<=xs.length) (hc:xs.length<=c):
    (∀W:World,(Instr.slice t (.slice A xs.length c) none (some (.int kl j)) none).run P W=.ok (.slice A (xs.take j.toNat).length c) W)/\
      (∀w:World,og enc d w A xs.length xs->og enc d w A (xs.take j.toNat).length (xs.take j.toNat))/\(xs.take j.toNat).length<=c:=by
  have hl:(xs.take j.toNat).length=j.toNat:=by rw[List.length_take];omega
  refine⟨fun W=>?_,fun w h=>by rw[hl];exact h.qN j.toNat (by omega),by rw[hl];omega⟩
  have hel:P.elem t=e:=by simp[Program.elem,ht]
  have hu:P.underlying t=some (.slice (P.elem t)):=by rw[hel];exact ht
  have ha:(A.map fun x=>x.add 0)=A:=by cases A<;>simp[Addr.add]
  rw[run_slice_h W t A xs.length c hu kl j h0 (by omega),hel,hl]
  simp[sizeOf,typeInfo,hi,hsz,sliced,Result.andThen,ha]
theorem KS (enc:α->Value) (d:α) (t e:TypeId) (kl:IntKind) {i:TypeInfo}(ht:P.underlying t=some (.slice e)) (hi:P.info? e=some i) (hsz:i.size=1) (A:Option Addr) (c:Nat) (xs:List α) (j:Int) (h0:0<=j) (hm:j<=xs.length) (hc:xs.length<=c):
    ∃A':Option Addr,(∀W:World,(Instr.slice t (.slice A xs.length c) (some (.int kl j)) none none).run P W=.ok (.slice A' (xs.drop j.toNat).length (c - j.toNat)) W)/\
      (∀w:World,og enc d w A xs.length xs->og enc d w A' (xs.drop j.toNat).length (xs.drop j.toNat))/\(xs.drop j.toNat).length<=c - j.toNat:=by
  obtain⟨m,rfl⟩:=Int.eq_ofNat_of_zero_le h0
  simp only [Int.toNat_natCast]
  have hmn:m<=xs.length:=by omega
  obtain⟨A',h1,h2⟩:=KR (P:=P) enc d t e kl ht hi hsz A xs.length c m hmn
  have hl:(xs.drop m).length=xs.length - m:=List.length_drop
  exact⟨A',fun W=>by rw[hl];exact h1 W,fun w h=>by rw[hl];exact h2 w xs hc h,by rw[hl];omega⟩
theorem KT (enc:α->Value) (d:α) (t e:TypeId) (kl kh:IntKind) {i:TypeInfo}(ht:P.underlying t=some (.slice e)) (hi:P.info? e=some i) (hsz:i.size=1) (A:Option Addr) (c:Nat) (xs:List α) (a b:Int) (h0:0<=a) (h1:a<=b) (hm:b<=xs.length) (hc:xs.length<=c):
    ∃A':Option Addr,(∀W:World,(Instr.slice t (.slice A xs.length c) (some (.int kl a)) (some (.int kh b)) none).run P W=.ok (.slice A' ((xs.take b.toNat).drop a.toNat).length (c - a.toNat)) W)/\
      (∀w:World,og enc d w A xs.length xs->og enc d w A' ((xs.take b.toNat).drop a.toNat).length ((xs.take b.toNat).drop a.toNat))/\((xs.take b.toNat).drop a.toNat).length<=c - a.toNat:=by
  have hlt:(xs.take b.toNat).length=b.toNat:=by rw[List.length_take];omega
  have hl:((xs.take b.toNat).drop a.toNat).length=b.toNat - a.toNat:=by rw[List.length_drop,hlt]
  refine⟨if c=a.toNat then A else A.map (·.add a.toNat),fun W=>?_,fun w h=>?_,by rw[hl];omega⟩
  · have hel:P.elem t=e:=by simp[Program.elem,ht]
    have hu:P.underlying t=some (.slice (P.elem t)):=by rw[hel];exact ht
    rw[run_slice_lh W t A xs.length c hu kl kh a b h0 h1 (by omega),hel,hl]
    simp[sizeOf,typeInfo,hi,hsz,sliced,Result.andThen]
  have h2:=(h.qN b.toNat (by omega)).Bn (c:=c) a.toNat (by omega) (by omega)
  rw[hl]
  exact h2
end
structure Kd (α:Type) where
  sz:Nat
  E:List Nat
  K:World->α->List Value->Prop
  M:World->Nat->(Nat->Prop)->α->List Value->Prop
  K_len:∀ {w x cs},K w x cs->cs.length=sz
  K_one:∀ {w x cs},K w x cs->∀u∈cs,u.oneCell'=true
  K_below:∀ {w w1:World}{x cs},Below w.heap.size w w1->K w x cs->K w1 x cs
  K_of_M:∀ {w base ok x cs},M w base ok x cs->K w x cs
  M_mono:∀ {w base ok ok' x cs},(∀k,ok k->ok' k)->M w base ok x cs->M w base ok' x cs
  M_bound:∀ {w:World}{base ok x cs},M w base ok x cs->M w base (fun k=>ok k/\base<=k/\k<w.heap.size/\∃q,q∈E/\∃cells,w.heap[k]? =some (.cells cells q (0,0))) x cs
  M_move:∀ {w w1:World}{base ok x cs},(∀k,ok k->w1.heap[k]? =w.heap[k]?)->M w base ok x cs->M w1 base ok x cs
  M_lower:∀ {w base base' ok x cs},base'<=base->M w base ok x cs->M w base' ok x cs
theorem KF {w w1:World}{base:Nat}{e:TypeId}{size n:Nat}{v:Value}{xs:List Value}(h:w.ownsRow base e size v n xs) (hm:∀k,v.ownBlock=some k->w1.heap[k]? =w.heap[k]?):w1.ownsRow base e size v n xs:=by
  obtain⟨h1,h2⟩:=h
  refine⟨h1,?_⟩
  rcases h2 with h2|⟨g,cap,cur,rfl,hg,hh,r⟩
  · exact .inl h2
  exact .inr ⟨g,cap,cur,rfl,hg,(hm g (by simp[Value.ownBlock])).trans hh,r⟩
theorem zR {w:World}{base:Nat}{e:TypeId}{size n:Nat}{v:Value}{xs:List Value}(h:w.ownsRow base e size v n xs) (k:Nat) (hk:v.ownBlock=some k):∃cells,w.heap[k]? =some (.cells cells e (0,0)):=by
  rcases h.2 with⟨rfl,_⟩|⟨g,cap,cur,rfl,hg,hh,r⟩
  · simp[Value.ownBlock]at hk
  have:g=k:=by simpa [Value.ownBlock] using hk
  subst this
  exact⟨cur,hh⟩
namespace Kd
def C {α:Type}(d:Kd α) (w:World) (A:Option Addr) (n:Nat) (xs:List α):Prop:=rM (d.K w) d.sz w A n xs
def R {α:Type}(d:Kd α) (e:Nat) (w:World) (base:Nat) (ok:Nat->Prop) (v:Value) (xs:List α):Prop:=
  (∀k,v.ownBlock=some k->ok k)/\oU (d.M w base (fun k=>ok k/\some k≠v.ownBlock)) e d.sz w base v xs
section
variable {α:Type}{d:Kd α}{e:Nat}{w w1:World}{base:Nat}{ok ok':Nat->Prop}{v:Value}{xs:List α}
theorem lq {A:Option Addr}{n:Nat}(h:d.C w A n xs) (hb:Below w.heap.size w w1):d.C w1 A n xs:=rM.p8 h hb (fun _ _ hp=>d.K_below hb hp)
theorem sN (d:Kd α) (e:Nat) (w:World) (base:Nat) (ok:Nat->Prop):d.R e w base ok (.slice none 0 0) []:=⟨fun k hk=>by simp[Value.ownBlock]at hk,oU.none_ _ _ _ _ _⟩
theorem kv (h:d.R e w base ok v xs) (hok:∀k,ok k->ok' k):d.R e w base ok' v xs:=⟨fun k hk=>hok k (h.1 k hk),h.2.p8 (fun _ _ hp=>d.M_mono (fun k hk=>⟨hok k hk.1,hk.2⟩) hp)⟩
theorem su (h:d.R e w base ok v xs):d.R e w base (fun k=>ok k/\base<=k/\k<w.heap.size/\∃q,q∈e::d.E/\∃cells,w.heap[k]? =some (.cells cells q (0,0))) v xs:=by
  obtain⟨h0,inner,ho,hr⟩:=h
  refine⟨fun k hk=>?_,inner,ho,hr.p8 (fun _ _ hp=>d.M_mono (fun k hk=>?_) (d.M_bound hp))⟩
  · obtain⟨cells,hc⟩:=zR ho k hk
    exact⟨h0 k hk,wm ho k hk,FH ho k hk,e,List.mem_cons_self,cells,hc⟩
  obtain⟨⟨h1,h2⟩,h3,h4,q,hq,hc⟩:=hk
  exact⟨⟨h1,h3,h4,q,List.mem_cons_of_mem _ hq,hc⟩,h2⟩
theorem wE (h:d.R e w base ok v xs) (hm:∀k,ok k->w1.heap[k]? =w.heap[k]?):d.R e w1 base ok v xs:=by
  obtain⟨h0,inner,ho,hr⟩:=h
  exact⟨h0,inner,KF ho (fun k hk=>hm k (h0 k hk)),hr.p8 (fun _ _ hp=>d.M_move (fun k hk=>hm k hk.1) hp)⟩
theorem kU {base':Nat}(h:d.R e w base ok v xs) (hb:base'<=base):d.R e w base' ok v xs:=by
  obtain⟨h0,inner,ho,hr⟩:=h
  exact⟨h0,inner,KM ho hb,hr.p8 (fun _ _ hp=>d.M_lower hb hp)⟩
theorem wG (h:d.R e w base ok v xs) (hm:∀k,ok k->k<w.heap.size->w1.heap[k]? =w.heap[k]?):d.R e w1 base ok v xs:=
  kv (wE (su h) (fun k hk=>hm k hk.1 hk.2.2.1)) (fun _ hk=>hk.1)
theorem Cu {x:α}{cs:List Value}(h:d.M w base ok x cs) (hm:∀k,ok k->k<w.heap.size->w1.heap[k]? =w.heap[k]?):d.M w1 base ok x cs:=
  d.M_mono (fun _ hk=>hk.1) (d.M_move (fun k hk=>hm k hk.1 hk.2.2.1) (d.M_bound h))
theorem pW (h:d.R e w base ok v xs) (hb:Below w.heap.size w w1):d.R e w1 base ok v xs:=wG h (fun k _ hk=>hb.block k hk)
theorem Cs {x:α}{cs:List Value}(h:d.M w base ok x cs) (hb:Below w.heap.size w w1):d.M w1 base ok x cs:=Cu h (fun k _ hk=>hb.block k hk)
theorem CF (h:d.R e w base ok v xs) {row:Option Nat}(hg:w.grownBy w1 row) (hok:∀k,ok k->some k≠row):d.R e w1 base ok v xs:=wG h (fun k ho hk=>hg.block k hk (hok k ho))
theorem kH (h:d.R e w base ok v xs) {p:Addr}(hok:∀k,ok k->k≠p.block) (u:Value):d.R e (w.setCell p u) base ok v xs:=wG h (fun k ho _=>Below.heap_setCell w p u k (hok k ho))
theorem nK (h:d.R e w base ok v xs) {g:Nat}(hk:kZ w w1 g none) (hok:∀k,ok k->k≠g):d.R e w1 base ok v xs:=wG h (fun k ho hlt=>hk.2 k hlt (hok k ho) (by simp))
theorem lG (h:d.R e w base ok v xs) {g t:Nat}{cells:Array Value}(hb:w.heap[g]? =some (.cells cells t (0,0))) (ht:∀q,q∈e::d.E->q≠t):d.R e w base (fun k=>ok k/\k≠g) v xs:=
  kv (su h) (fun k hk=>⟨hk.1,by
    obtain⟨_,_,_,q,hq,cells',hc⟩:=hk
    rintro rfl
    rw[hc]at hb
    injection hb with hb
    injection hb with _ hb
    exact ht q hq hb⟩)
theorem yH (h:d.R e w base ok v xs) {g t:Nat}{cells:Array Value}(hb:w.heap[g]? =some (.cells cells t (0,0))) (ht:∀q,q∈e::d.E->q≠t) (j:Nat) (u:Value):d.R e (w.setCell ⟨g,j,none⟩ u) base ok v xs:=
  kv (kH (p:=⟨g,j,none⟩) (lG h hb ht) (fun _ hk=>hk.2) u) (fun _ hk=>hk.1)
theorem Aq (h:d.R e w base ok v xs):∃A c,v=.slice A xs.length c/\xs.length<=c/\d.C w A xs.length xs:=by
  obtain⟨A,c,he,hl,hr⟩:=oU.reads h.2
  exact⟨A,c,he,hl,hr.p8 (Below.refl _ _) (fun _ _ hp=>d.K_of_M hp)⟩
theorem kM (h:d.R e w base ok v xs):∃A c,v=.slice A xs.length c:=by
  obtain⟨A,c,he,_⟩:=Aq h
  exact⟨A,c,he⟩
theorem xu (h:d.R e w base ok v xs):∃inner,w.ownsRow base e d.sz v xs.length inner:=by
  obtain⟨_,inner,ho,_⟩:=h
  exact⟨inner,ho⟩
theorem lS (h:d.R e w base ok v xs) {g t:Nat}{cells:Array Value}(hb:w.heap[g]? =some (.cells cells t (0,0))) (ht:e≠t):some g≠v.ownBlock:=oU.Kr h.2 hb ht
end
def scalar {α:Type}(enc:α->Value) (h1:∀x,(enc x).oneCell'=true):Kd α where
  sz:=1
  E:=[]
  K:=fun _ x cs=>cs=[enc x]
  M:=fun _ _ _ x cs=>cs=[enc x]
  K_len:=fun h=>by rw[h];rfl
  K_one:=fun h u hu=>by
    rw[h]at hu
    rw[List.mem_singleton.1 hu]
    exact h1 _
  K_below:=fun _ h=>h
  K_of_M:=fun h=>h
  M_mono:=fun _ h=>h
  M_bound:=fun h=>h
  M_move:=fun _ h=>h
  M_lower:=fun _ h=>h
def int (k:IntKind):Kd Int:=scalar (Value.int k) (fun _=>rfl)
def bool:Kd Bool:=scalar Value.bool (fun _=>rfl)
def string:Kd ByteArray:=scalar Value.string (fun _=>rfl)
def slice {α:Type}(e:Nat) (d:Kd α):Kd (List α) where
  sz:=1
  E:=e::d.E
  K:=fun w xs cs=>∃A c,cs=[.slice A xs.length c]/\xs.length<=c/\d.C w A xs.length xs
  M:=fun w base ok xs cs=>∃v,cs=[v]/\d.R e w base ok v xs
  K_len:=by
    rintro w x cs ⟨A,c,rfl,_⟩
    rfl
  K_one:=by
    rintro w x cs ⟨A,c,rfl,_⟩ u hu
    rw[List.mem_singleton.1 hu]
    rfl
  K_below:=by
    rintro w w1 x cs hb ⟨A,c,rfl,hl,hr⟩
    exact⟨A,c,rfl,hl,lq hr hb⟩
  K_of_M:=by
    rintro w base ok x cs ⟨v,rfl,h⟩
    obtain⟨A,c,rfl,hl,hr⟩:=Aq h
    exact⟨A,c,rfl,hl,hr⟩
  M_mono:=by
    rintro w base ok ok' x cs hok ⟨v,rfl,h⟩
    exact⟨v,rfl,kv h hok⟩
  M_bound:=by
    rintro w base ok x cs ⟨v,rfl,h⟩
    exact⟨v,rfl,su h⟩
  M_move:=by
    rintro w w1 base ok x cs hm ⟨v,rfl,h⟩
    exact⟨v,rfl,wE h hm⟩
  M_lower:=by
    rintro w base base' ok x cs hb ⟨v,rfl,h⟩
    exact⟨v,rfl,kU h hb⟩
def pair {α β:Type}(a:Kd α) (b:Kd β):Kd (α×β) where
  sz:=a.sz+b.sz
  E:=a.E++b.E
  K:=fun w x cs=>∃c0 c1,cs=c0++c1/\a.K w x.1 c0/\b.K w x.2 c1
  M:=fun w base ok x cs=>∃c0 c1,cs=c0++c1/\a.M w base ok x.1 c0/\b.M w base ok x.2 c1
  K_len:=by
    rintro w x cs ⟨c0,c1,rfl,h0,h1⟩
    rw[List.length_append,a.K_len h0,b.K_len h1]
  K_one:=by
    rintro w x cs ⟨c0,c1,rfl,h0,h1⟩ u hu
    rcases List.mem_append.1 hu with hu|hu
    · exact a.K_one h0 u hu
    exact b.K_one h1 u hu
  K_below:=by
    rintro w w1 x cs hb ⟨c0,c1,rfl,h0,h1⟩
    exact⟨c0,c1,rfl,a.K_below hb h0,b.K_below hb h1⟩
  K_of_M:=by
    rintro w base ok x cs ⟨c0,c1,rfl,h0,h1⟩
    exact⟨c0,c1,rfl,a.K_of_M h0,b.K_of_M h1⟩
  M_mono:=by
    rintro w base ok ok' x cs hok ⟨c0,c1,rfl,h0,h1⟩
    exact⟨c0,c1,rfl,a.M_mono hok h0,b.M_mono hok h1⟩
  M_bound:=by
    rintro w base ok x cs ⟨c0,c1,rfl,h0,h1⟩
    refine⟨c0,c1,rfl,a.M_mono ?_ (a.M_bound h0),b.M_mono ?_ (b.M_bound h1)⟩
    · rintro k ⟨h2,h3,h4,q,hq,hc⟩
      exact⟨h2,h3,h4,q,List.mem_append_left _ hq,hc⟩
    rintro k ⟨h2,h3,h4,q,hq,hc⟩
    exact⟨h2,h3,h4,q,List.mem_append_right _ hq,hc⟩
  M_move:=by
    rintro w w1 base ok x cs hm ⟨c0,c1,rfl,h0,h1⟩
    exact⟨c0,c1,rfl,a.M_move hm h0,b.M_move hm h1⟩
  M_lower:=by
    rintro w base base' ok x cs hb ⟨c0,c1,rfl,h0,h1⟩
    exact⟨c0,c1,rfl,a.M_lower hb h0,b.M_lower hb h1⟩
def iso {α β:Type}(d:Kd α) (f:β->α):Kd β where
  sz:=d.sz
  E:=d.E
  K:=fun w x cs=>d.K w (f x) cs
  M:=fun w base ok x cs=>d.M w base ok (f x) cs
  K_len:=d.K_len
  K_one:=d.K_one
  K_below:=d.K_below
  K_of_M:=d.K_of_M
  M_mono:=d.M_mono
  M_bound:=d.M_bound
  M_move:=d.M_move
  M_lower:=d.M_lower
theorem Cq {α:Type}{d:Kd α}{w:World}{A:Option Addr}{n:Nat}{xs:List α}(h:d.C w A n xs) (z:α) (i:Int) (h0:0<=i) (h1:i<n):
    ∃ad c,A=some ad/\c.length=d.sz/\d.K w (xs.getD i.toNat z) c/\∀j u,c[j]? =some u->w.cell? (ad.add (i.toNat*d.sz+j))=some u:=rM.Jz h z i h0 h1
theorem CE {α:Type}{d:Kd α}{e base:Nat}{ok okp:Nat->Prop}{W w1:World}{v v1:Value}{xs:List α}{p:α}{inner cs:List Value}(h0:∀k,v.ownBlock=some k->ok k) (hr:kT (d.M W base (fun k=>ok k/\some k≠v.ownBlock)) d.sz xs inner) (hp:d.M W base okp p cs) (qo:∀k,okp k->ok k/\some k≠v.ownBlock) (hfresh:∀k,W.heap.size<=k->ok k)
    (hown:w1.ownsRow base e d.sz v1 (xs.length+1) (inner++cs)) (hg:W.grownBy w1 v.ownBlock) (hat:v1.ownBlock=v.ownBlock\/∃b,v1.ownBlock=some b/\W.heap.size<=b):d.R e w1 base ok v1 (xs++[p]):=by
  have hne:∀k,some k≠v.ownBlock->k<W.heap.size->some k≠v1.ownBlock:=by
    intro k hk hlt
    rcases hat with hat|⟨b,hb,hle⟩
    · rw[hat];exact hk
    rw[hb]
    intro he
    injection he with he
    omega
  have step:∀ {q:α}{c:List Value}{o:Nat->Prop},d.M W base o q c->(∀k,o k->ok k/\some k≠v.ownBlock)->d.M w1 base (fun k=>ok k/\some k≠v1.ownBlock) q c:=by
    intro q c o hq ho
    have h1:=d.M_move (w1:=w1) (fun k hk=>hg.block k hk.2.2.1 (ho k hk.1).2) (d.M_bound hq)
    exact d.M_mono (fun k hk=>⟨(ho k hk.1).1,hne k (ho k hk.1).2 hk.2.2.1⟩) h1
  refine⟨fun k hk=>?_,inner++cs,by rw[List.length_append,List.length_singleton];exact hown,?_⟩
  · rcases hat with hat|⟨b,hb,hle⟩
    · exact h0 k (hat▸hk)
    rw[hb]at hk
    injection hk with hk
    exact hfresh k (by omega)
  exact(hr.p8 (fun _ _ hq=>step hq (fun _ hk=>hk))).snoc (step hp qo) (d.K_len (d.K_of_M hp))
section
variable {P:Program}{ops:Array Oper}{rest:List Oper}{o:Oper}{a:Act}{Q:Exit->Act->World->Prop}{α:Type}
theorem qc (d:Kd α) {w0 W:World}(base:Nat) (hgd:o.guard=none) (s x:Operand) (t e:TypeId) (z:Value) (bytes:Nat)
    (ho:o.op=.call {callee:=.builtin .append,args:= #[s,x],argTypes:= #[t,t]})
    (ht:P.underlying t=some (.slice e)) (hinfo:(P.info? e).map (fun i=>(i.zero,i.size,i.bytes))=some (some z,d.sz,bytes)) (hz:z.cells.size=d.sz) (hs0:0<d.sz) (hb0:0<bytes)
    (v:Value) (xs:List α) (p:α) (cs:List Value) (ok okp:Nat->Prop) (hs:a.eval s=v) (hx:a.eval x=.slice (some ⟨W.heap.size,0,none⟩) 1 1) (hp:d.M W base okp p cs) (qo:∀k,okp k->ok k/\some k≠v.ownBlock) (hfresh:∀k,W.heap.size<=k->ok k)
    (HO:d.R e W base ok v xs) (HB:Below base w0 W) (hbase:base<=W.heap.size) (hl:(xs.length+1)*bytes<=140737488355328)
    (h:∀v1 w1,d.R e w1 base ok v1 (xs++[p])->Below base w0 w1->W.grownBy w1 v.ownBlock->(v1.ownBlock=v.ownBlock\/∃b,v1.ownBlock=some b/\W.heap.size<=b)->wpList P ops Q rest (a.put o.dst v1) w1):
    wpList P ops Q (o::rest) a (W.alloc (.cells cs.toArray e)):=by
  obtain⟨h0,inner,hown,hr⟩:=HO
  refine FO base hgd s x t e z d.sz bytes ho ht hinfo hz hs0 hb0 v xs.length inner cs hs hx (d.K_len (d.K_of_M hp)) (d.K_one (d.K_of_M hp)) hown HB hbase hl ?_
  intro v1 w1 hown1 hb1 hg1 hat1
  exact h v1 w1 (CE h0 hr hp qo hfresh hown1 hg1 hat1) hb1 hg1 hat1
end
section
variable {P:Program}{ops:Array Oper}{o:Oper}{a:Act}{Q:Exit->Act->World->Prop}{Kc:Act->World->Prop}{α:Type}
theorem uC (d:Kd α) {w0 W:World}(base:Nat) (hw:Region.wanted o (yielded ops a.tmps)=true) (s x:Operand) (t e:TypeId) (z:Value) (bytes:Nat)
    (ho:o.op=.call {callee:=.builtin .append,args:= #[s,x],argTypes:= #[t,t]})
    (ht:P.underlying t=some (.slice e)) (hinfo:(P.info? e).map (fun i=>(i.zero,i.size,i.bytes))=some (some z,d.sz,bytes)) (hz:z.cells.size=d.sz) (hs0:0<d.sz) (hb0:0<bytes)
    (v:Value) (xs:List α) (p:α) (cs:List Value) (ok okp:Nat->Prop) (hs:a.eval s=v) (hx:a.eval x=.slice (some ⟨W.heap.size,0,none⟩) 1 1) (hp:d.M W base okp p cs) (qo:∀k,okp k->ok k/\some k≠v.ownBlock) (hfresh:∀k,W.heap.size<=k->ok k)
    (HO:d.R e W base ok v xs) (HB:Below base w0 W) (hbase:base<=W.heap.size) (hl:(xs.length+1)*bytes<=140737488355328)
    (h:∀v1 w1,d.R e w1 base ok v1 (xs++[p])->Below base w0 w1->W.grownBy w1 v.ownBlock->(v1.ownBlock=v.ownBlock\/∃b,v1.ownBlock=some b/\W.heap.size<=b)->Kc (a.put o.dst v1) w1):
    if Region.wanted o (yielded ops a.tmps)=true then Oper.wp P o a (W.alloc (.cells cs.toArray e)) Kc Q else Kc (a.put o.dst undef) (W.alloc (.cells cs.toArray e)):=by
  obtain⟨h0,inner,hown,hr⟩:=HO
  refine LD base hw s x t e z d.sz bytes ho ht hinfo hz hs0 hb0 v xs.length inner cs hs hx (d.K_len (d.K_of_M hp)) (d.K_one (d.K_of_M hp)) hown HB hbase hl ?_
  intro v1 w1 hown1 hb1 hg1 hat1
  exact h v1 w1 (CE h0 hr hp qo hfresh hown1 hg1 hat1) hb1 hg1 hat1
end
theorem Ld {α:Type}{enc:α->Value}(xs:List α):kT (fun(x:α) (cs:List Value)=>cs=[enc x]) 1 xs (encs enc xs):=by
  refine⟨by simp[encs],fun j p hj=>?_⟩
  obtain⟨hl,hp⟩:=List.getElem?_eq_some_iff.1 hj
  have hl':j<(encs enc xs).length:=by rw[EK];exact hl
  rw[Nat.mul_one,List.drop_eq_getElem_cons hl']
  simp[encs,hp]
theorem GX {α:Type}{enc:α->Value}{h1:∀x,(enc x).oneCell'=true}{e:Nat}{w:World}{base:Nat}{ok:Nat->Prop}{v:Value}{xs:List α}(ho:w.ownsRow base e 1 v xs.length (encs enc xs)) (hok:∀k,v.ownBlock=some k->ok k):(scalar enc h1).R e w base ok v xs:=⟨hok,encs enc xs,ho,Ld xs⟩
theorem FJ {α:Type}{enc:α->Value}{h1:∀x,(enc x).oneCell'=true}{e:Nat}{w:World}{base:Nat}{ok:Nat->Prop}{v:Value}{xs:List α}(h:(scalar enc h1).R e w base ok v xs):w.ownsRow base e 1 v xs.length (encs enc xs):=by
  obtain⟨_,inner,ho,hr⟩:=h
  have:inner=encs enc xs:=by
    apply List.ext_getElem?
    intro j
    rcases Nat.lt_or_ge j xs.length with hj|hj
    · have h2:=hr.2 j _ (List.getElem?_eq_getElem hj)
      have hl:j<inner.length:=by have:=hr.1;simp[scalar]at this;omega
      have h3:(inner.drop (j*1)).take 1=[enc xs[j]]:=h2
      rw[Nat.mul_one,List.drop_eq_getElem_cons hl]at h3
      have h4:inner[j]=enc xs[j]:=by
        have h5:=congrArg List.head? h3
        rw[List.take_succ_cons]at h5
        exact Option.some.inj h5
      rw[List.getElem?_eq_getElem hl,h4]
      simp[encs,List.getElem?_eq_getElem hj]
    have h3:inner.length=xs.length:=by have:=hr.1;simp[scalar]at this;omega
    rw[List.getElem?_eq_none (by omega),List.getElem?_eq_none (by rw[EK];omega)]
  rw[←this]
  exact ho
theorem xq {α:Type}{enc:α->Value}{d:α}{h1:∀x,(enc x).oneCell'=true}{w:World}{A:Option Addr}{n:Nat}{xs:List α}(h:og enc d w A n xs):(scalar enc h1).C w A n xs:=by
  refine⟨h.1,h.2.1,fun hn=>?_⟩
  obtain⟨ad,e,hc⟩:=h.2.2 hn
  refine⟨ad,e,fun j p hj=>⟨[enc p],rfl,rfl,fun i u hu=>?_⟩⟩
  obtain⟨hl,hp⟩:=List.getElem?_eq_some_iff.1 hj
  have h2:=hc j (by have:=h.1;omega)
  rw[List.getD_eq_getElem?_getD,hj]at h2
  cases i with
  |zero=>
    have:enc p=u:=by simpa using hu
    subst this
    simpa [scalar] using h2
  |succ i=>simp at hu
theorem wo {α:Type}{enc:α->Value}{d:α}{h1:∀x,(enc x).oneCell'=true}{w:World}{A:Option Addr}{n:Nat}{xs:List α}(h:(scalar enc h1).C w A n xs):og enc d w A n xs:=by
  refine⟨h.1,h.2.1,fun hn=>?_⟩
  obtain⟨ad,e,hc⟩:=h.2.2 hn
  refine⟨ad,e,fun j hj=>?_⟩
  have hl:j<xs.length:=by have:=h.1;omega
  obtain⟨c,_,hK,hcell⟩:=hc j _ (List.getElem?_eq_getElem hl)
  have hK':c=[enc xs[j]]:=hK
  subst hK'
  have:=hcell 0 _ rfl
  simpa [scalar,List.getD_eq_getElem?_getD,List.getElem?_eq_getElem hl] using this
end Kd
namespace Kd
theorem oO {α:Type}{d:Kd α}{e base:Nat}{ok:Nat->Prop}{W w1:World}{u v v1:Value}{xs:List α}(h:d.R e W base (fun k=>ok k/\some k≠v.ownBlock) u xs) (hg:W.grownBy w1 v.ownBlock) (hat:v1.ownBlock=v.ownBlock\/∃b,v1.ownBlock=some b/\W.heap.size<=b):d.R e w1 base (fun k=>ok k/\some k≠v1.ownBlock) u xs:=by
  refine kv (wE (su h) (fun k hk=>hg.block k hk.2.2.1 hk.1.2)) (fun k hk=>⟨hk.1.1,?_⟩)
  rcases hat with hat|⟨b,hb,hle⟩
  · rw[hat];exact hk.1.2
  rw[hb]
  intro he
  injection he with he
  have:=hk.2.2.1
  omega
theorem Ct {α:Type}{d:Kd α}{e base:Nat}{ok:Nat->Prop}{w:World}{v:Value}{xs:List α}(h:d.R e w base ok v xs):(slice e d).M w base ok xs [v]:=⟨v,rfl,h⟩
section
variable {α β:Type}{d:Kd α}{d':Kd β}{e e':Nat}{w w1 W:World}{base b b':Nat}{ok ok' okv oku:Nat->Prop}{v u:Value}{xs:List α}{ys:List β}
theorem kK (h:d.R e w base ok v xs) (o:Obj):d.R e (w.alloc o) base ok v xs:=pW h (pJ (Below.refl _ _) o)
theorem kw (h:d.R e w base ok v xs):d.R e w.drew base ok v xs:=pW h (xw (Below.refl _ _))
theorem kL (h:d.R e w base ok v xs) (m:Nat):d.R e (w.drewN m) base ok v xs:=pW h (qb (Below.refl _ _) m)
theorem tX {A:Option Addr}{n:Nat}(h:d.C w A n xs) (o:Obj):d.C (w.alloc o) A n xs:=lq h (pJ (Below.refl _ _) o)
theorem tY {A:Option Addr}{n:Nat}(h:d.C w A n xs):d.C w.drew A n xs:=lq h (xw (Below.refl _ _))
theorem tZ {A:Option Addr}{n:Nat}(h:d.C w A n xs) (m:Nat):d.C (w.drewN m) A n xs:=lq h (qb (Below.refl _ _) m)
theorem Gu (d:Kd α) (w:World):d.C w none ([]:List α).length []:=⟨rfl,by simp,fun h=>absurd h (Nat.lt_irrefl 0)⟩
theorem ku {A:Option Addr}{n c:Nat}(h:d.R e w base ok (.slice A n c) xs):n=xs.length/\n<=c/\d.C w A xs.length xs:=by
  obtain⟨A',c',he,hl,hr⟩:=Aq h
  injection he with h1 h2 h3
  subst h1
  exact⟨h2,by omega,hr⟩
theorem lg (h:d.R e w base ok v xs):∀k,v.ownBlock=some k->k<w.heap.size:=by
  obtain⟨inner,ho⟩:=xu h
  exact FH ho
theorem qO (h:d.R e w base ok v xs):∀k,v.ownBlock=some k->base<=k:=by
  obtain⟨inner,ho⟩:=xu h
  exact wm ho
theorem vP (h:d.R e w base ok v xs) {g:Nat}(hok:∀k,ok k->k≠g):some g≠v.ownBlock:=fun e=>hok g (h.1 g e.symm) rfl
theorem wD (h:d.R e w base ok v xs) (hp:0<xs.length):∃g cap,v=.slice (some ⟨g,0,none⟩) xs.length cap/\base<=g/\g<w.heap.size/\∃cells,w.heap[g]? =some (.cells cells e (0,0)):=by
  obtain⟨inner,ho⟩:=xu h
  obtain⟨g,cap,he,hb,hl⟩:=ho.form hp
  obtain⟨cells,hc⟩:=zR ho g (by rw[he];simp[Value.ownBlock])
  exact⟨g,cap,he,hb,hl,cells,hc⟩
end
section
variable {w W:World}{A:Option Addr}{n:Nat}
theorem lC {k:IntKind}{xs:List Int}(h:(Kd.int k).C w A n xs) (i:Int) (h0:0<=i) (h1:i<n):∃ad,A=some ad/\w.cell? (ad.add i.toNat)=some (.int k (rd xs i)):=
  og.at_ (wo (enc:=Value.int k) (d:=(0:Int)) (h1:=fun _=>rfl) h) i h0 h1
theorem rO {xs:List Bool}(h:Kd.bool.C w A n xs) (i:Int) (h0:0<=i) (h1:i<n):∃ad,A=some ad/\w.cell? (ad.add i.toNat)=some (.bool (l8 false xs i)):=
  og.at_ (wo (enc:=Value.bool) (d:=false) (h1:=fun _=>rfl) h) i h0 h1
variable {α:Type}{enc:α->Value}{h1:∀x,(enc x).oneCell'=true}{e base g cap:Nat}{ok:Nat->Prop}{xs:List α}
theorem GR (d:α) (h:(scalar enc h1).R e W base ok (.slice (some ⟨g,0,none⟩) xs.length cap) xs) (i:Int) (h0:0<=i) (hi:i<xs.length):W.cell? ⟨g,i.toNat,none⟩=some (enc (l8 d xs i))/\W.frozen? ⟨g,i.toNat,none⟩=false:=KD (FJ h) i h0 hi
theorem CK (h:(scalar enc h1).R e W base ok (.slice (some ⟨g,0,none⟩) xs.length cap) xs) (i:Int) (x:α):(scalar enc h1).R e (W.setCell ⟨g,i.toNat,none⟩ (enc x)) base ok (.slice (some ⟨g,0,none⟩) xs.length cap) (xs.set i.toNat x)/\W.grownBy (W.setCell ⟨g,i.toNat,none⟩ (enc x)) (some g):=by
  obtain⟨ho,hg⟩:=KL (FJ h) i x
  exact⟨GX (by rw[List.length_set];exact ho) h.1,hg⟩
end
section
variable {P:Program}{ops:Array Oper}{rest:List Oper}{o:Oper}{a:Act}{Q:Exit->Act->World->Prop}
theorem Bp {W w1:World}{v:Value}(hgd:o.guard=none) (hrun:(execOp a.eval o).run P W=.ok (.value v) w1) (h:wpList P ops Q rest (a.put o.dst v) w1):wpList P ops Q (o::rest) a W:=by
  refine wpList_plain hgd fun K hK=>?_
  unfold Oper.wp
  rw[hrun]
  exact hK _ _ h
variable {α:Type}
theorem Ak (d:Kd α) {w0 W:World}(base e:Nat) (hgd:o.guard=none) {N:Tmp}(_hd:o.dst=some N) {xs:List α}{inner:List Value}{ok okp:Nat->Prop}
    (hrun:(execOp a.eval o).run P W=.ok (.value (.slice (some ⟨W.heap.size,0,none⟩) xs.length xs.length)) (W.alloc (.cells inner.toArray e)))
    (hrep:kT (d.M W base okp) d.sz xs inner) (hok:∀k,okp k->ok k) (hfresh:ok W.heap.size) (HB:Below base w0 W) (hbase:base<=W.heap.size) (hm:xs.length<=9223372036854775807)
    (h:∀v1 w1,d.R e w1 base ok v1 xs->Below base w0 w1->W.grownBy w1 none->(∃b,v1.ownBlock=some b/\W.heap.size<=b)->wpList P ops Q rest (a.put o.dst v1) w1):wpList P ops Q (o::rest) a W:=by
  refine Bp hgd hrun (h _ _ ⟨fun k hk=>?_,inner,?_,?_⟩ (HB.alloc hbase _) (World.grownBy_alloc W _ none) ⟨W.heap.size,by simp[Value.ownBlock],Nat.le_refl _⟩)
  · have:W.heap.size=k:=by simpa [Value.ownBlock] using hk
    subst this
    exact hfresh
  · have h2:=World.ownsRow_lit (base:=base) (e:=e) (size:=d.sz) W inner.toArray xs.length hbase (by simpa [maxLen] using hm) (by simpa using hrep.1)
    simpa using h2
  refine hrep.p8 (fun p c hp=>d.M_mono (fun k hk=>⟨hok k hk.1,fun he=>?_⟩) (Cs (d.M_bound hp) (pJ (Below.refl _ _) _)))
  have h3:k=W.heap.size:=by simpa [Value.ownBlock] using he
  have:=hk.2.2.1
  omega
theorem Lb {α:Type}{R:α->List Value->Prop}{z:Value}{size:Nat}{z0:α}(hz:z.cells.size=size) (hs:0<size) (h0:R z0 z.cells.toList) (m:Nat):kT R size (List.replicate m z0) (madeCells z.cells (m*size)).toList:=by
  refine⟨by simp[size_madeCells],fun j p hj=>?_⟩
  obtain⟨hjl,hp⟩:=List.getElem?_eq_some_iff.1 hj
  have hjm:j<m:=by simpa using hjl
  have hp':z0=p:=by simpa using hp
  subst hp'
  have hle:j*size+size<=m*size:=by rw[←Nat.succ_mul];exact Nat.mul_le_mul_right _ hjm
  have:((madeCells z.cells (m*size)).toList.drop (j*size)).take size=z.cells.toList:=by
    apply List.ext_getElem
    · simp[size_madeCells,hz]
      omega
    intro i h1 h2
    have hi:i<size:=by rw[Array.length_toList,hz]at h2;exact h2
    have hmod:(j*size+i)%size=i:=by
      rw[Nat.mul_comm,Nat.mul_add_mod]
      exact Nat.mod_eq_of_lt hi
    simp[madeCells,hz,hmod]
    rw[getElem!_pos z.cells i (by omega)]
  rw[this]
  exact h0
theorem Al (d:Kd α) {w0 W:World}(base e:Nat) (hgd:o.guard=none) {N:Tmp}(hd:o.dst=some N) (t:TypeId) (x y:Operand) (ho:o.op=.makeSlice t x y) (n:Int) (hx:a.eval x=.int .i64 n) (hy:a.eval y=.int .i64 n)
    (ht:P.underlying t=some (.slice e)) (z:Value) (bytes:Nat) (hinfo:(P.info? e).map (fun i=>(i.zero,i.size,i.bytes))=some (some z,d.sz,bytes)) (hz:z.cells.size=d.sz) (hs0:0<d.sz) (hb0:0<bytes)
    (z0:α) {ok okp:Nat->Prop}(hzero:d.M W base okp z0 z.cells.toList) (hok:∀k,okp k->ok k) (hfresh:ok W.heap.size) (h0:0<=n) (hl:n.toNat*bytes<=281474976710656) (HB:Below base w0 W) (hbase:base<=W.heap.size)
    (h:∀v1 w1,d.R e w1 base ok v1 (List.replicate n.toNat z0)->Below base w0 w1->W.grownBy w1 none->(∃b,v1.ownBlock=some b/\W.heap.size<=b)->wpList P ops Q rest (a.put o.dst v1) w1):wpList P ops Q (o::rest) a W:=by
  obtain⟨m,rfl⟩:=Int.eq_ofNat_of_zero_le h0
  simp only [Int.toNat_natCast]at hl h
  obtain⟨i0,hi,hzz⟩:=Option.map_eq_some_iff.1 hinfo
  simp only [Prod.mk.injEq]at hzz
  obtain⟨hz0,hz1,hz2⟩:=hzz
  have hm:m<=281474976710656:=Nat.le_trans (Nat.le_mul_of_pos_right _ hb0) hl
  have hr:=run_make (P:=P) W t e i0 z ht hi hz0 .i64 .i64 (m:Int) (m:Int) (by omega) (by omega)
    (by
      have h3:((i0.bytes*m:Nat):Int)<=281474976710656:=by rw[hz2,Nat.mul_comm];omega
      rwa [Int.natCast_mul]at h3) (by omega)
  simp only [Int.toNat_natCast]at hr
  rw[hz1]at hr
  refine Ak d base e hgd hd (xs:=List.replicate m z0) (inner:=(madeCells z.cells (m*d.sz)).toList) (okp:=okp) (ok:=ok) ?_ (Lb hz hs0 hzero m) hok hfresh HB hbase (by simp;omega) h
  simp[execOp,ho,hx,hy,hr]
end
end Kd
section
variable {P:Program}
theorem MH (t e:TypeId) (kh:IntKind) {i:TypeInfo}(ht:P.underlying t=some (.slice e)) (hi:P.info? e=some i) (A:Option Addr) (n c:Nat) (j:Int) (h0:0<=j) (hm:j<=n) (hc:n<=c):
    ∀W:World,(Instr.slice t (.slice A n c) none (some (.int kh j)) none).run P W=.ok (.slice A j.toNat c) W:=by
  intro W
  have hel:P.elem t=e:=by simp[Program.elem,ht]
  have hu:P.underlying t=some (.slice (P.elem t)):=by rw[hel];exact ht
  have ha:(A.map fun x=>x.add 0)=A:=by cases A<;>simp[Addr.add]
  rw[run_slice_h W t A n c hu kh j h0 (by omega),hel]
  simp[sizeOf,typeInfo,hi,sliced,Result.andThen,ha]
theorem EA (t e:TypeId) (kl:IntKind) {i:TypeInfo}(ht:P.underlying t=some (.slice e)) (hi:P.info? e=some i) (size:Nat) (hsz:i.size=size) (A:Option Addr) (n c:Nat) (j:Int) (h0:0<=j) (hm:j<=n):
    ∀W:World,(Instr.slice t (.slice A n c) (some (.int kl j)) none none).run P W=.ok (.slice (if c=j.toNat then A else A.map (·.add (j.toNat*size))) (n - j.toNat) (c - j.toNat)) W:=by
  intro W
  have hel:P.elem t=e:=by simp[Program.elem,ht]
  have hu:P.underlying t=some (.slice (P.elem t)):=by rw[hel];exact ht
  rw[run_slice_l W t A n c hu kl j h0 hm,hel]
  simp[sizeOf,typeInfo,hi,hsz,sliced,Result.andThen]
end
def qW (w:World) (base:Nat) (e:TypeId) (size:Nat) (v:Value) (n:Nat) (xs:List Value):Prop:=
  xs.length=n*size/\
  ((n=0/\∃A,v=.slice A 0 0/\∀a,A=some a->base<=a.block/\∃cur,w.heap[a.block]? =some (.cells cur e (0,0)))\/
   ∃g off cap cur,v=.slice (some ⟨g,off*size,none⟩) n cap/\base<=g/\w.heap[g]? =some (.cells cur e (0,0))/\n<=cap/\off+cap<=maxLen/\cur.size=(off+cap)*size/\(cur.toList.drop (off*size)).take (n*size)=xs)
section
variable {w w1:World}{base n size:Nat}{e:TypeId}{v:Value}{xs:List Value}
theorem BQ (h:w.ownsRow base e size v n xs):qW w base e size v n xs:=by
  obtain⟨h1,h2⟩:=h
  refine⟨h1,?_⟩
  rcases h2 with⟨rfl,h0⟩|⟨g,cap,cur,rfl,hb,hh,hnc,hcm,hcs,ht⟩
  · exact .inl ⟨h0,none,rfl,fun a ha=>by cases ha⟩
  exact .inr ⟨g,0,cap,cur,by rw[Nat.zero_mul],hb,hh,hnc,by rw[Nat.zero_add];exact hcm,by rw[Nat.zero_add];exact hcs,by rw[Nat.zero_mul,List.drop_zero];exact ht⟩
theorem FP (h:qW w base e size v n xs) (hm:∀k,v.ownBlock=some k->w1.heap[k]? =w.heap[k]?):qW w1 base e size v n xs:=by
  obtain⟨h1,h2⟩:=h
  refine⟨h1,?_⟩
  rcases h2 with⟨h0,A,rfl,hA⟩|⟨g,off,cap,cur,rfl,hg,hh,r⟩
  · refine .inl ⟨h0,A,rfl,fun a ha=>?_⟩
    obtain⟨hb,cur,hc⟩:=hA a ha
    subst ha
    exact⟨hb,cur,(hm a.block (by simp[Value.ownBlock])).trans hc⟩
  exact .inr ⟨g,off,cap,cur,rfl,hg,(hm g (by simp[Value.ownBlock])).trans hh,r⟩
theorem yf (h:qW w base e size v n xs) (k:Nat) (hk:v.ownBlock=some k):base<=k/\∃cells,w.heap[k]? =some (.cells cells e (0,0)):=by
  rcases h.2 with⟨_,A,rfl,hA⟩|⟨g,off,cap,cur,rfl,hg,hh,r⟩
  · cases A with
    |none=>simp[Value.ownBlock]at hk
    |some a=>
      have:a.block=k:=by simpa [Value.ownBlock] using hk
      subst this
      exact hA a rfl
  have:g=k:=by simpa [Value.ownBlock] using hk
  subst this
  exact⟨hg,cur,hh⟩
theorem BP (h:qW w base e size v n xs) (k:Nat) (hk:v.ownBlock=some k):k<w.heap.size:=by
  obtain⟨_,cells,hc⟩:=yf h k hk
  exact(Array.getElem?_eq_some_iff.1 hc).1
theorem KY {base':Nat}(h:qW w base e size v n xs) (hb:base'<=base):qW w base' e size v n xs:=by
  obtain⟨h1,h2⟩:=h
  refine⟨h1,?_⟩
  rcases h2 with⟨h0,A,rfl,hA⟩|⟨g,off,cap,cur,rfl,hg,r⟩
  · exact .inl ⟨h0,A,rfl,fun a ha=>⟨Nat.le_trans hb (hA a ha).1,(hA a ha).2⟩⟩
  exact .inr ⟨g,off,cap,cur,rfl,Nat.le_trans hb hg,r⟩
theorem FQ (h:qW w base e size v n xs):∃A c,v=.slice A n c/\n<=c:=by
  rcases h.2 with⟨h0,A,rfl,_⟩|⟨g,off,cap,cur,rfl,hg,hh,hnc,r⟩
  · exact⟨A,0,by rw[h0],by omega⟩
  exact⟨_,cap,rfl,hnc⟩
theorem KZ (h:qW w base e size v n xs):n<=9223372036854775807:=by
  rcases h.2 with⟨h0,_⟩|⟨g,off,cap,cur,rfl,hg,hh,hnc,hm,r⟩
  · omega
  simp only [maxLen]at hm
  omega
theorem sO (g o j:Nat):(⟨g,o,none⟩:Addr).add j=⟨g,o+j,none⟩:=by unfold Addr.add;split<;>simp_all
theorem KW {A:Option Addr}{c:Nat}(h:qW w base e size (.slice A n c) n xs) (hn:0<n):∃ad,A=some ad/\∀j u,xs[j]? =some u->w.cell? (ad.add j)=some u:=by
  rcases h.2 with⟨h0,_⟩|⟨g,off,cap,cur,he,hg,hh,hnc,hm,hcs,ht⟩
  · omega
  injection he with ha _ hc
  subst ha
  refine⟨_,rfl,fun j u hu=>?_⟩
  rw[sO,cell_of_row w g _ cur e (0,0) hh]
  rw[←ht,List.getElem?_take]at hu
  split at hu
  · rw[List.getElem?_drop]at hu
    rw[←Array.getElem?_toList]
    exact hu
  cases hu
theorem KX {A:Option Addr}{c k:Nat}(h:qW w base e size (.slice A n c) n xs) (hk:k<=n):qW w base e size (.slice (if c=k then A else A.map (·.add (k*size))) (n - k) (c - k)) (n - k) (xs.drop (k*size)):=by
  obtain⟨h1,h2⟩:=h
  refine⟨by rw[List.length_drop,h1,Nat.sub_mul],?_⟩
  rcases h2 with⟨h0,A',he,hA⟩|⟨g,off,cap,cur,he,hb,hh,hnc,hcm,hcs,ht⟩
  · injection he with ha hb hc
    subst ha;subst hc
    have hk0:k=0:=by omega
    subst hk0
    exact .inl ⟨by omega,A,by rw[if_pos rfl,h0],hA⟩
  injection he with ha _ hc
  subst ha;subst hc
  by_cases hck:c=k
  · rw[if_pos hck]
    refine .inl ⟨by omega,some ⟨g,off*size,none⟩,?_,fun a ha=>?_⟩
    · rw[show n - k=0 by omega,show c - k=0 by omega]
    injection ha with ha
    subst ha
    exact⟨hb,cur,hh⟩
  rw[if_neg hck]
  refine .inr ⟨g,off+k,c - k,cur,?_,hb,hh,by omega,by omega,by rw[hcs];congr 1;omega,?_⟩
  · rw[Option.map_some,sO,Nat.add_mul]
  rw[←ht,List.drop_take,List.drop_drop,Nat.add_mul,Nat.sub_mul]
theorem BV {g:Nat}:∀ (vs:List Value) (o:Nat) {w:World}(k:Nat),k≠g->(w.setCells g o vs).heap[k]? =w.heap[k]?
  |[],_,_,_,_=>rfl
  |v::r,o,w,k,hk=>by
    rw[World.setCells,BV r (o+1) k hk]
    exact Below.heap_setCell w ⟨g,o,none⟩ v k hk
theorem BZ (g:Nat):∀ (vs:List Value) (o:Nat) (w:World),(w.setCells g o vs).os=w.os/\(w.setCells g o vs).tape=w.tape/\(w.setCells g o vs).output=w.output/\(w.setCells g o vs).heap.size=w.heap.size
  |[],_,_=>⟨rfl,rfl,rfl,rfl⟩
  |v::r,o,w=>by
    obtain⟨h1,h2,h3,h4⟩:=BZ g r (o+1) (w.setCell ⟨g,o,none⟩ v)
    rw[World.setCells]
    exact⟨h1,h2,h3,by rw[h4];simp[World.setCell]⟩
theorem BX {g:Nat}{e:TypeId}:∀ (vs:List Value) (o:Nat) (w:World) (cur:Array Value),w.heap[g]? =some (.cells cur e (0,0))->o+vs.length<=cur.size->
    ∃cur',(w.setCells g o vs).heap[g]? =some (.cells cur' e (0,0))/\cur'.size=cur.size/\cur'.toList=cur.toList.take o++vs++cur.toList.drop (o+vs.length)
  |[],o,w,cur,h,_=>⟨cur,h,rfl,by simp⟩
  |v::r,o,w,cur,h,hl=>by
    have h2:=yU h o v
    simp only [List.length_cons]at hl
    obtain⟨cur',h3,h4,h5⟩:=BX r (o+1) (w.setCell ⟨g,o,none⟩ v) _ h2 (by simp;omega)
    refine⟨cur',h3,by rw[h4];simp,?_⟩
    rw[h5,Array.toList_setIfInBounds]
    have ho:o<cur.toList.length:=by rw[Array.length_toList];omega
    rw[List.take_set,List.drop_set_of_lt (by omega)]
    simp only [List.length_cons]
    rw[show o+1+r.length=o+(r.length+1) by omega]
    congr 1
    rw[List.take_succ_eq_append_getElem ho,List.set_append_right _ _ (by rw[List.length_take];omega)]
    have ho':o<cur.size:=by omega
    simp[Nat.min_eq_left (Nat.le_of_lt ho')]
end
section
variable {P:Program}
theorem KV (w:World) (base:Nat) (t ty e:TypeId) (i:TypeInfo) (z:Value) (size bytes:Nat) (ht:P.underlying t=some (.slice e)) (hi:P.info? e=some i) (hz:i.zero=some z)
    (hsize:i.size=size) (hby:i.bytes=bytes) (hzs:z.cells.size=size) (hsz:0<size)
    (v:Value) (n:Nat) (xs:List Value) (hown:qW w base e size v n xs)
    (a:Addr) (m c:Nat) (news:List Value) (hl:news.length=m*size) (hnews:∀j u,news[j]? =some u->w.cell? (a.add j)=some u) (h1:∀u∈news,u.oneCell'=true) (hm:0<m)
    (h63:n+m<=maxLen) (hbytes:(n+m)*bytes<=140737488355328) (hbase:base<=w.heap.size):
    ∃v' w',(Builtin.append_ #[t,t] ty #[v,.slice (some a) m c]).run P w=.ok v' w'/\qW w' base e size v' (n+m) (xs++news)/\w.grownBy w' v.ownBlock/\(v'.ownBlock=v.ownBlock\/∃b,v'.ownBlock=some b/\w.heap.size<=b):=by
  have grows:∀ (b:Addr) (cap:Nat),cap<n+m->(∀j u,xs[j]? =some u->w.cell? (b.add j)=some u)->v=.slice (some b) n cap->
      ∃v' w',(Builtin.append_ #[t,t] ty #[v,.slice (some a) m c]).run P w=.ok v' w'/\qW w' base e size v' (n+m) (xs++news)/\w.grownBy w' v.ownBlock/\(v'.ownBlock=v.ownBlock\/∃b,v'.ownBlock=some b/\w.heap.size<=b):=by
    intro b cap hcap hcells hv
    obtain⟨v',w',hr,ho,hg⟩:=run_append_arg_grows (P:=P) (w:=w) t ty e i z size bytes ht hi hz hsize hby hzs hsz b n cap xs hown.1 hcells a m c news hl hnews hcap h63 hbytes
    refine⟨v',w',by rw[hv];exact hr,KY (BQ ho) hbase,⟨hg.os,hg.tape,hg.output,hg.size,fun k hk _=>hg.block k hk (by simp)⟩,?_⟩
    obtain⟨g',cap',he,hb,_⟩:=ho.form (by omega)
    exact .inr ⟨g',by rw[he];simp[Value.ownBlock],hb⟩
  rcases hown.2 with⟨h0,A,hv,hA⟩|⟨g,off,cap,cur,hv,hbg,hg,hnc,hcm,hcs,htake⟩
  · cases A with
    |none=>
      subst h0
      have ho:w.ownsRow base e size v 0 xs:=⟨hown.1,.inl ⟨hv,rfl⟩⟩
      obtain⟨v',w',hr,ho',hg,_,hat⟩:=run_append_own_at (P:=P) w base t ty e i z size bytes ht hi hz hsize hby hzs hsz v 0 xs ho a m c news hl hnews h1 h63 hbytes hbase
      refine⟨v',w',hr,BQ ho',hg,?_⟩
      rcases hat with hat|hat
      · exact .inl hat
      exact .inr ⟨_,hat,Nat.le_refl _⟩
    |some b=>
      have hx:xs=[]:=List.eq_nil_of_length_eq_zero (by rw[hown.1,h0,Nat.zero_mul])
      exact grows b 0 (by omega) (fun j u hu=>by rw[hx]at hu;simp at hu) (by rw[hv,h0])
  by_cases hroom:n+m<=cap
  · have hfit:off*size+n*size+news.length<=cur.size:=by
      rw[hl,hcs,←Nat.add_mul,←Nat.add_mul]
      exact Nat.mul_le_mul_right _ (by omega)
    subst hsize
    have hr:=run_append_room_cells (P:=P) (w:=w) t ty e i ht hi g (off*i.size) n cap a m c news hl hnews h1 hroom
      (fun j hj=>by rw[cell_of_row w g _ cur e (0,0) hg];simp;omega) (fun j _=>l9 hg _)
    obtain⟨cur',h3,h4,h5⟩:=BX news (off*i.size+n*i.size) w cur hg hfit
    obtain⟨s1,s2,s3,s4⟩:=BZ g news (off*i.size+n*i.size) w
    refine⟨_,_,by rw[hv];exact hr,⟨by rw[List.length_append,hown.1,hl,Nat.add_mul],.inr ⟨g,off,cap,cur',rfl,hbg,h3,hroom,hcm,by rw[h4,hcs],?_⟩⟩,
      ⟨s1,s2,s3,by rw[s4];exact Nat.le_refl _,fun k _ hk=>BV news _ k (fun he=>hk (by rw[hv,he];simp[Value.ownBlock]))⟩,.inl (by rw[hv];rfl)⟩
    rw[h5,List.append_assoc,List.drop_append_of_le_length (by rw[List.length_take,Array.length_toList];omega),List.drop_take]
    rw[show off*i.size+n*i.size - off*i.size=n*i.size by omega,htake]
    rw[←List.append_assoc]
    exact List.take_left' (by rw[List.length_append,hown.1,hl,Nat.add_mul])
  refine grows ⟨g,off*size,none⟩ cap (by omega) (fun j u hu=>?_) hv
  rw[sO,cell_of_row w g _ cur e (0,0) hg]
  rw[←htake,List.getElem?_take]at hu
  split at hu
  · rw[List.getElem?_drop]at hu
    rw[←Array.getElem?_toList]
    exact hu
  cases hu
end
namespace Kd
theorem La {α:Type}{R:α->List Value->Prop}{size m:Nat}{ps:List α}{cs:List Value}(h:kT R size ps cs):kT R size (ps.drop m) (cs.drop (m*size)):=by
  refine⟨by rw[List.length_drop,List.length_drop,h.1,Nat.sub_mul],fun j p hj=>?_⟩
  rw[List.getElem?_drop]at hj
  have:=h.2 (m+j) p hj
  rw[List.drop_drop,←Nat.add_mul]
  exact this
def Q {α:Type}(d:Kd α) (e:Nat) (w:World) (base:Nat) (ok:Nat->Prop) (v:Value) (xs:List α):Prop:=
  (∀k,v.ownBlock=some k->ok k)/\∃inner,qW w base e d.sz v xs.length inner/\kT (d.M w base (fun k=>ok k/\some k≠v.ownBlock)) d.sz xs inner
section
variable {α:Type}{d:Kd α}{e:Nat}{w w1 W:World}{base:Nat}{ok ok':Nat->Prop}{v:Value}{xs:List α}
theorem Ae (h:d.R e w base ok v xs):d.Q e w base ok v xs:=by
  obtain⟨h0,inner,ho,hr⟩:=h
  exact⟨h0,inner,BQ ho,hr⟩
theorem vk (d:Kd α) (e:Nat) (w:World) (base:Nat) (ok:Nat->Prop):d.Q e w base ok (.slice none 0 0) []:=Ae (sN d e w base ok)
theorem uB (h:d.Q e w base ok v xs) (hok:∀k,ok k->ok' k):d.Q e w base ok' v xs:=by
  obtain⟨h0,inner,ho,hr⟩:=h
  exact⟨fun k hk=>hok k (h0 k hk),inner,ho,hr.p8 (fun _ _ hp=>d.M_mono (fun k hk=>⟨hok k hk.1,hk.2⟩) hp)⟩
theorem yB (h:d.Q e w base ok v xs):d.Q e w base (fun k=>ok k/\base<=k/\k<w.heap.size/\∃q,q∈e::d.E/\∃cells,w.heap[k]? =some (.cells cells q (0,0))) v xs:=by
  obtain⟨h0,inner,ho,hr⟩:=h
  refine⟨fun k hk=>?_,inner,ho,hr.p8 (fun _ _ hp=>d.M_mono (fun k hk=>?_) (d.M_bound hp))⟩
  · obtain⟨hb,cells,hc⟩:=yf ho k hk
    exact⟨h0 k hk,hb,BP ho k hk,e,List.mem_cons_self,cells,hc⟩
  obtain⟨⟨h1,h2⟩,h3,h4,q,hq,hc⟩:=hk
  exact⟨⟨h1,h3,h4,q,List.mem_cons_of_mem _ hq,hc⟩,h2⟩
theorem Ad (h:d.Q e w base ok v xs) (hm:∀k,ok k->w1.heap[k]? =w.heap[k]?):d.Q e w1 base ok v xs:=by
  obtain⟨h0,inner,ho,hr⟩:=h
  exact⟨h0,inner,FP ho (fun k hk=>hm k (h0 k hk)),hr.p8 (fun _ _ hp=>d.M_move (fun k hk=>hm k hk.1) hp)⟩
theorem CB (h:d.Q e w base ok v xs) (hm:∀k,ok k->k<w.heap.size->w1.heap[k]? =w.heap[k]?):d.Q e w1 base ok v xs:=uB (Ad (yB h) (fun k hk=>hm k hk.1 hk.2.2.1)) (fun _ hk=>hk.1)
theorem Ac (h:d.Q e w base ok v xs) (hb:Below w.heap.size w w1):d.Q e w1 base ok v xs:=CB h (fun k _ hk=>hb.block k hk)
theorem sJ (h:d.Q e w base ok v xs) (o:Obj):d.Q e (w.alloc o) base ok v xs:=Ac h (pJ (Below.refl _ _) o)
theorem sj (h:d.Q e w base ok v xs):d.Q e w.drew base ok v xs:=Ac h (xw (Below.refl _ _))
theorem sK (h:d.Q e w base ok v xs) (m:Nat):d.Q e (w.drewN m) base ok v xs:=Ac h (qb (Below.refl _ _) m)
theorem GL (h:d.Q e w base ok v xs) {p:Addr}(hok:∀k,ok k->k≠p.block) (u:Value):d.Q e (w.setCell p u) base ok v xs:=CB h (fun k ho _=>Below.heap_setCell w p u k (hok k ho))
theorem Mw (h:d.Q e w base ok v xs) {g t:Nat}{cells:Array Value}(hb:w.heap[g]? =some (.cells cells t (0,0))) (ht:∀q,q∈e::d.E->q≠t):d.Q e w base (fun k=>ok k/\k≠g) v xs:=
  uB (yB h) (fun k hk=>⟨hk.1,by
    obtain⟨_,_,_,q,hq,cells',hc⟩:=hk
    rintro rfl
    rw[hc]at hb
    injection hb with hb
    injection hb with _ hb
    exact ht q hq hb⟩)
theorem Cy (h:d.Q e w base ok v xs):∀k,v.ownBlock=some k->k<w.heap.size:=by
  obtain⟨_,inner,ho,_⟩:=h
  exact BP ho
theorem Cz (h:d.Q e w base ok v xs) {g t:Nat}{cells:Array Value}(hb:w.heap[g]? =some (.cells cells t (0,0))) (ht:e≠t):some g≠v.ownBlock:=by
  obtain⟨_,inner,ho,_⟩:=h
  intro he
  obtain⟨_,cells',hc⟩:=yf ho g he.symm
  rw[hc]at hb
  injection hb with hb
  injection hb with _ hb
  exact ht hb
theorem yC (h:d.Q e w base ok v xs):∃A c,v=.slice A xs.length c/\xs.length<=c:=by
  obtain⟨_,inner,ho,_⟩:=h
  exact FQ ho
theorem Af {A:Option Addr}{n c:Nat}(h:d.Q e w base ok (.slice A n c) xs):n=xs.length/\n<=c/\d.C w A xs.length xs:=by
  obtain⟨_,inner,ho,hr⟩:=h
  obtain⟨A',c',he,hl⟩:=FQ ho
  injection he with h1 h2 h3
  subst h1;subst h2;subst h3
  refine⟨rfl,hl,rfl,KZ ho,fun hp=>?_⟩
  obtain⟨ad,ha,hc⟩:=KW ho hp
  refine⟨ad,ha,fun j p hj=>⟨(inner.drop (j*d.sz)).take d.sz,?_,d.K_of_M (hr.2 j p hj),fun i u hu=>?_⟩⟩
  · have hjl:=(List.getElem?_eq_some_iff.1 hj).1
    have h1:j*d.sz+d.sz<=inner.length:=by rw[hr.1,←Nat.succ_mul];exact Nat.mul_le_mul_right _ hjl
    rw[List.length_take,List.length_drop]
    omega
  refine hc _ u ?_
  rw[List.getElem?_take]at hu
  split at hu
  · rw[List.getElem?_drop]at hu
    exact hu
  cases hu
theorem Cw {A:Option Addr}{k n c:Nat}(h:d.Q e w base ok (.slice A n c) xs) (hk:k<=xs.length):d.Q e w base ok (.slice (if c=k then A else A.map (·.add (k*d.sz))) (n - k) (c - k)) (xs.drop k):=by
  have hn:n=xs.length:=(Af h).1
  subst hn
  obtain⟨h0,inner,ho,hr⟩:=h
  have hb:(Value.slice (if c=k then A else A.map (·.add (k*d.sz))) (xs.length - k) (c - k)).ownBlock=(Value.slice A xs.length c).ownBlock:=by
    split
    · cases A<;>rfl
    cases A with
    |none=>rfl
    |some a=>simp[Value.ownBlock];unfold Addr.add;split<;>rfl
  refine⟨fun j hj=>h0 j (by rw[←hb];exact hj),inner.drop (k*d.sz),?_,?_⟩
  · rw[List.length_drop]
    exact KX ho hk
  rw[hb]
  exact La hr
theorem GK {okp:Nat->Prop}{v1:Value}{p:α}{inner cs:List Value}(h0:∀k,v.ownBlock=some k->ok k) (hr:kT (d.M W base (fun k=>ok k/\some k≠v.ownBlock)) d.sz xs inner) (hp:d.M W base okp p cs) (qo:∀k,okp k->ok k/\some k≠v.ownBlock) (hfresh:∀k,W.heap.size<=k->ok k)
    (hown:qW w1 base e d.sz v1 (xs.length+1) (inner++cs)) (hg:W.grownBy w1 v.ownBlock) (hat:v1.ownBlock=v.ownBlock\/∃b,v1.ownBlock=some b/\W.heap.size<=b):d.Q e w1 base ok v1 (xs++[p]):=by
  have hne:∀k,some k≠v.ownBlock->k<W.heap.size->some k≠v1.ownBlock:=by
    intro k hk hlt
    rcases hat with hat|⟨b,hb,hle⟩
    · rw[hat];exact hk
    rw[hb]
    intro he
    injection he with he
    omega
  have step:∀ {q:α}{c:List Value}{o:Nat->Prop},d.M W base o q c->(∀k,o k->ok k/\some k≠v.ownBlock)->d.M w1 base (fun k=>ok k/\some k≠v1.ownBlock) q c:=by
    intro q c o hq ho
    have h1:=d.M_move (w1:=w1) (fun k hk=>hg.block k hk.2.2.1 (ho k hk.1).2) (d.M_bound hq)
    exact d.M_mono (fun k hk=>⟨(ho k hk.1).1,hne k (ho k hk.1).2 hk.2.2.1⟩) h1
  refine⟨fun k hk=>?_,inner++cs,by rw[List.length_append,List.length_singleton];exact hown,?_⟩
  · rcases hat with hat|⟨b,hb,hle⟩
    · exact h0 k (hat▸hk)
    rw[hb]at hk
    injection hk with hk
    exact hfresh k (by omega)
  exact(hr.p8 (fun _ _ hq=>step hq (fun _ hk=>hk))).snoc (step hp qo) (d.K_len (d.K_of_M hp))
end
section
variable {P:Program}{ops:Array Oper}{rest:List Oper}{o:Oper}{a:Act}{Q':Exit->Act->World->Prop}{Kc:Act->World->Prop}{α:Type}
theorem GN (d:Kd α) {w0 W:World}(base:Nat) (t ty e:TypeId) (z:Value) (bytes:Nat)
    (ht:P.underlying t=some (.slice e)) (hinfo:(P.info? e).map (fun i=>(i.zero,i.size,i.bytes))=some (some z,d.sz,bytes)) (hz:z.cells.size=d.sz) (hs0:0<d.sz) (hb0:0<bytes)
    (v:Value) (xs:List α) (p:α) (cs:List Value) (ok okp:Nat->Prop) (hp:d.M W base okp p cs) (qo:∀k,okp k->ok k/\some k≠v.ownBlock) (hfresh:∀k,W.heap.size<=k->ok k)
    (HO:d.Q e W base ok v xs) (HB:Below base w0 W) (hbase:base<=W.heap.size) (hl:(xs.length+1)*bytes<=140737488355328):
    ∃v1 w1,(Builtin.append_ #[t,t] ty #[v,.slice (some ⟨W.heap.size,0,none⟩) 1 1]).run P (W.alloc (.cells cs.toArray e))=.ok v1 w1/\d.Q e w1 base ok v1 (xs++[p])/\Below base w0 w1/\W.grownBy w1 v.ownBlock/\(v1.ownBlock=v.ownBlock\/∃b,v1.ownBlock=some b/\W.heap.size<=b):=by
  obtain⟨h0,inner,hown,hr⟩:=HO
  obtain⟨i0,hi,hzz⟩:=Option.map_eq_some_iff.1 hinfo
  simp only [Prod.mk.injEq]at hzz
  obtain⟨hz0,hz1,hz2⟩:=hzz
  have hlen:xs.length+1<=140737488355328:=Nat.le_trans (Nat.le_mul_of_pos_right _ hb0) hl
  have hcl:=d.K_len (d.K_of_M hp)
  have hq:qW (W.alloc (.cells cs.toArray e)) base e d.sz v xs.length inner:=FP hown (fun k hk=>Below.heap_alloc W _ k (BP hown k hk))
  obtain⟨v1,w1,hrun,hq1,hg1,hat⟩:=KV (P:=P) (W.alloc (.cells cs.toArray e)) base t ty e i0 z d.sz bytes ht hi hz0 hz1 hz2 hz hs0 v xs.length inner hq ⟨W.heap.size,0,none⟩ 1 1 cs (by rw[hcl,Nat.one_mul])
    (by simpa using World.news_of_block (cs:=cs.toArray) (t:=e) (fr:=(0,0)) (heap_alloc_new W (.cells cs.toArray e))) (d.K_one (d.K_of_M hp)) (by omega) (by simp only [maxLen];omega) hl (by simp;omega)
  have hg:W.grownBy w1 v.ownBlock:=World.grownBy.trans (World.grownBy_alloc W _ _) hg1
  have hat':v1.ownBlock=v.ownBlock\/∃b,v1.ownBlock=some b/\W.heap.size<=b:=by
    rcases hat with hat|⟨b,hb,hle⟩
    · exact .inl hat
    exact .inr ⟨b,hb,by rw[World.size_alloc]at hle;omega⟩
  exact⟨v1,w1,hrun,GK h0 hr hp qo hfresh hq1 hg hat',HB.grown hg hbase (fun k hk=>(yf hown k hk).1),hg,hat'⟩
theorem Cv (d:Kd α) {w0 W:World}(base:Nat) (hgd:o.guard=none) (s x:Operand) (t e:TypeId) (z:Value) (bytes:Nat)
    (ho:o.op=.call {callee:=.builtin .append,args:= #[s,x],argTypes:= #[t,t]})
    (ht:P.underlying t=some (.slice e)) (hinfo:(P.info? e).map (fun i=>(i.zero,i.size,i.bytes))=some (some z,d.sz,bytes)) (hz:z.cells.size=d.sz) (hs0:0<d.sz) (hb0:0<bytes)
    (v:Value) (xs:List α) (p:α) (cs:List Value) (ok okp:Nat->Prop) (hs:a.eval s=v) (hx:a.eval x=.slice (some ⟨W.heap.size,0,none⟩) 1 1) (hp:d.M W base okp p cs) (qo:∀k,okp k->ok k/\some k≠v.ownBlock) (hfresh:∀k,W.heap.size<=k->ok k)
    (HO:d.Q e W base ok v xs) (HB:Below base w0 W) (hbase:base<=W.heap.size) (hl:(xs.length+1)*bytes<=140737488355328)
    (h:∀v1 w1,d.Q e w1 base ok v1 (xs++[p])->Below base w0 w1->W.grownBy w1 v.ownBlock->(v1.ownBlock=v.ownBlock\/∃b,v1.ownBlock=some b/\W.heap.size<=b)->wpList P ops Q' rest (a.put o.dst v1) w1):
    wpList P ops Q' (o::rest) a (W.alloc (.cells cs.toArray e)):=by
  obtain⟨v1,w1,hr,h1,h2,h3,h4⟩:=GN (P:=P) d base t o.type e z bytes ht hinfo hz hs0 hb0 v xs p cs ok okp hp qo hfresh HO HB hbase hl
  refine wpList_plain hgd fun K hK=>?_
  unfold Oper.wp execOp
  simp only [ho,resolve,invoke,builtin,Sem.run_bind,Sem.run_pure,Result.andThen_ok,List.map_toArray,List.map_cons,List.map_nil,hs,hx,hr]
  exact hK _ _ (h v1 w1 h1 h2 h3 h4)
end
end Kd
namespace Kd
section
variable {α:Type}{d:Kd α}{e e':Nat}{w w1 W:World}{base:Nat}{ok:Nat->Prop}{u v:Value}{xs:List α}
theorem pF (h:d.R e w base ok v xs):∀k,v.ownBlock=some k->∃cells,w.heap[k]? =some (.cells cells e (0,0)):=by
  obtain⟨inner,ho⟩:=xu h
  exact fun k hk=>zR ho k hk
theorem pq (h:d.R e W base ok u xs) (hty:∀k,v.ownBlock=some k->∃cells,W.heap[k]? =some (.cells cells e' (0,0))) (ht:∀q,q∈e::d.E->q≠e') (hg:W.grownBy w1 v.ownBlock):d.R e w1 base ok u xs:=by
  refine kv (wE (su h) (fun k hk=>hg.block k hk.2.2.1 (fun he=>?_))) (fun _ hk=>hk.1)
  obtain⟨_,_,_,q,hq,cells,hc⟩:=hk
  obtain⟨cells',hc'⟩:=hty k he.symm
  rw[hc]at hc'
  injection hc' with hc'
  injection hc' with _ hc'
  exact ht q hq hc'
theorem yD (h:d.R e W base ok u xs) (hty:∀k,v.ownBlock=some k->∃cells,W.heap[k]? =some (.cells cells e' (0,0))) (ht:∀q,q∈e::d.E->q≠e'):d.R e W base (fun k=>ok k/\some k≠v.ownBlock) u xs:=by
  refine kv (su h) (fun k hk=>⟨hk.1,fun he=>?_⟩)
  obtain⟨_,_,_,q,hq,cells,hc⟩:=hk
  obtain⟨cells',hc'⟩:=hty k he.symm
  rw[hc]at hc'
  injection hc' with hc'
  injection hc' with _ hc'
  exact ht q hq hc'
theorem Ai (hu:d.R e W base ok u xs) (hbase:∀k,v.ownBlock=some k->W.heap.size<=k) (hb:Below W.heap.size W w1):d.R e w1 base (fun k=>ok k/\some k≠v.ownBlock) u xs:=
  kv (wE (su hu) (fun k hk=>hb.block k hk.2.2.1)) (fun k hk=>⟨hk.1,fun he=>by have:=hbase k he.symm;have:=hk.2.2.1;omega⟩)
theorem lK (h:d.R e w1 W.heap.size ok v xs) (hlt:∀k,u.ownBlock=some k->k<W.heap.size):d.R e w1 W.heap.size (fun k=>ok k/\some k≠u.ownBlock) v xs:=
  kv (su h) (fun k hk=>⟨hk.1,fun he=>by have:=hlt k he.symm;have:=hk.2.1;omega⟩)
theorem GQ (h:d.Q e w base ok v xs):∀k,v.ownBlock=some k->∃cells,w.heap[k]? =some (.cells cells e (0,0)):=by
  obtain⟨_,inner,ho,_⟩:=h
  exact fun k hk=>(yf ho k hk).2
theorem GM (h:d.Q e W base ok u xs) (hty:∀k,v.ownBlock=some k->∃cells,W.heap[k]? =some (.cells cells e' (0,0))) (ht:∀q,q∈e::d.E->q≠e') (hg:W.grownBy w1 v.ownBlock):d.Q e w1 base ok u xs:=by
  refine uB (Ad (yB h) (fun k hk=>hg.block k hk.2.2.1 (fun he=>?_))) (fun _ hk=>hk.1)
  obtain⟨_,_,_,q,hq,cells,hc⟩:=hk
  obtain⟨cells',hc'⟩:=hty k he.symm
  rw[hc]at hc'
  injection hc' with hc'
  injection hc' with _ hc'
  exact ht q hq hc'
theorem Cx (hu:d.Q e W base ok u xs) (hbase:∀k,v.ownBlock=some k->W.heap.size<=k) (hb:Below W.heap.size W w1):d.Q e w1 base (fun k=>ok k/\some k≠v.ownBlock) u xs:=
  uB (Ad (yB hu) (fun k hk=>hb.block k hk.2.2.1)) (fun k hk=>⟨hk.1,fun he=>by have:=hbase k he.symm;have:=hk.2.2.1;omega⟩)
theorem fresh' (hlt:∀k,u.ownBlock=some k->k<W.heap.size):∀k,W.heap.size<=k->some k≠u.ownBlock:=fun k hk he=>by have:=hlt k he.symm;omega
end
end Kd
theorem yl {α:Type}(a seg:List α) (o:Nat) (h:o+seg.length<=a.length) (q:Nat):
    (a.take o++seg++a.drop (o+seg.length))[q]? =if q<o then a[q]? else if q<o+seg.length then seg[q - o]? else a[q]? :=by
  have hl:(a.take o).length=o:=by rw[List.length_take];omega
  rw[List.append_assoc]
  by_cases h1:q<o
  · rw[if_pos h1,List.getElem?_append_left (by omega),List.getElem?_take,if_pos h1]
  rw[if_neg h1,List.getElem?_append_right (by omega),hl]
  by_cases h2:q<o+seg.length
  · rw[if_pos h2,List.getElem?_append_left (by omega)]
  rw[if_neg h2,List.getElem?_append_right (by omega),List.getElem?_drop]
  congr 1
  omega
namespace Kd
section
variable {α:Type}{d:Kd α}{e base g n cap:Nat}{ok okp:Nat->Prop}{W:World}{xs:List α}
theorem Aj (h:d.R e W base ok (.slice (some ⟨g,0,none⟩) n cap) xs) (z:α) (i:Int) (h0:0<=i) (h1:i<n):
    ∃c,c.length=d.sz/\d.M W base (fun k=>ok k/\k≠g) (xs.getD i.toNat z) c/\(∀j u,c[j]? =some u->W.cell? ⟨g,i.toNat*d.sz+j,none⟩=some u)/\∀j,W.frozen? ⟨g,i.toNat*d.sz+j,none⟩=false:=by
  obtain⟨hn,hnc,hC⟩:=ku h
  obtain⟨_,inner,ho,hr⟩:=h
  have hil:i.toNat<xs.length:=by omega
  have hseg:i.toNat*d.sz+d.sz<=inner.length:=by rw[hr.1,←Nat.succ_mul];exact Nat.mul_le_mul_right _ hil
  have hM:=hr.2 i.toNat _ (List.getElem?_eq_getElem hil)
  refine⟨(inner.drop (i.toNat*d.sz)).take d.sz,by rw[List.length_take,List.length_drop];omega,?_,fun j u hu=>?_,fun j=>?_⟩
  · rw[List.getD_eq_getElem?_getD,List.getElem?_eq_getElem hil]
    exact d.M_mono (fun k hk=>⟨hk.1,fun he=>hk.2 (by rw[he];simp[Value.ownBlock])⟩) hM
  · rw[List.getElem?_take]at hu
    split at hu
    · rw[List.getElem?_drop]at hu
      have:=ho.cells (g:=g) (by simp[Value.ownBlock]) _ u hu
      rwa [add_plain]at this
    cases hu
  obtain⟨cells,hc⟩:=zR ho g (by simp[Value.ownBlock])
  exact l9 hc _
theorem GY (h:d.R e W base ok (.slice (some ⟨g,0,none⟩) n cap) xs) (i:Int) (h0:0<=i) (h1:i<n) {c seg:List Value}{j:Nat}(hcl:c.length=d.sz) (hcc:∀j u,c[j]? =some u->W.cell? ⟨g,i.toNat*d.sz+j,none⟩=some u)
    (hj:j+seg.length<=d.sz) {x':α}(hM:d.M W base okp x' (c.take j++seg++c.drop (j+seg.length))) (qo:∀k,okp k->ok k/\k≠g):
    d.R e (W.setCells g (i.toNat*d.sz+j) seg) base ok (.slice (some ⟨g,0,none⟩) n cap) (xs.set i.toNat x')/\W.grownBy (W.setCells g (i.toNat*d.sz+j) seg) (some g):=by
  obtain⟨hn,hnc,_⟩:=ku h
  obtain⟨hok,inner,ho,hr⟩:=h
  have hil:i.toNat<xs.length:=by omega
  have hseg:i.toNat*d.sz+d.sz<=inner.length:=by rw[hr.1,←Nat.succ_mul];exact Nat.mul_le_mul_right _ hil
  have hin:inner.length=n*d.sz:=by rw[hr.1,hn]
  obtain⟨ho1,ho2⟩:=ho
  rcases ho2 with⟨hv,_⟩|⟨g',cap',cur,hv,hb,hh,hnc',hcm,hcs,ht⟩
  · cases hv
  injection hv with ha _ hc
  injection ha with ha
  injection ha with hg
  subst hg;subst hc
  have hfit:i.toNat*d.sz+j+seg.length<=cur.size:=by
    have:n*d.sz<=cap*d.sz:=Nat.mul_le_mul_right _ hnc
    omega
  obtain⟨cur',h3,h4,h5⟩:=BX seg (i.toNat*d.sz+j) W cur hh hfit
  obtain⟨s1,s2,s3,s4⟩:=BZ g seg (i.toNat*d.sz+j) W
  have hfar:∀k,k≠g->(W.setCells g (i.toNat*d.sz+j) seg).heap[k]? =W.heap[k]? :=fun k hk=>BV seg _ k hk
  -- the element's cells before are what was read
  have hcin:∀q,q<d.sz->c[q]? =inner[i.toNat*d.sz+q]? :=by
    intro q hq
    have hq':q<c.length:=by omega
    have h6:=hcc q _ (List.getElem?_eq_getElem hq')
    rw[cell_of_row W g _ cur e (0,0) hh]at h6
    rw[List.getElem?_eq_getElem hq',←h6,←ht,List.getElem?_take,if_pos (by rw[←hn];omega),Array.getElem?_toList]
  refine⟨⟨hok,inner.take (i.toNat*d.sz+j)++seg++inner.drop (i.toNat*d.sz+j+seg.length),⟨?_,.inr ⟨g,cap,cur',by rw[List.length_set,hn],hb,h3,by rw[List.length_set,←hn];exact hnc,hcm,by rw[h4,hcs],?_⟩⟩,?_⟩,
    ⟨s1,s2,s3,by rw[s4];exact Nat.le_refl _,fun k _ hk=>hfar k (fun he=>hk (by rw[he]))⟩⟩
  · rw[List.length_set]
    simp only [List.length_append,List.length_take,List.length_drop]
    rw[hr.1]at hseg⊢
    omega
  · rw[List.length_set,←hn]
    apply List.ext_getElem?
    intro q
    rw[List.getElem?_take,h5]
    rw[yl cur.toList seg (i.toNat*d.sz+j) (by rw[Array.length_toList];omega) q,yl inner seg (i.toNat*d.sz+j) (by omega) q]
    have hcur:∀q,q<n*d.sz->cur.toList[q]? =inner[q]? :=by
      intro q hq
      rw[←ht,List.getElem?_take,if_pos (by rw[←hn];exact hq)]
    by_cases hq:q<n*d.sz
    · rw[if_pos hq,hcur q hq]
    rw[if_neg hq,if_neg (by omega),if_neg (by omega),List.getElem?_eq_none (by omega)]
  refine⟨?_,fun m p hm=>?_⟩
  · rw[List.length_set]
    simp only [List.length_append,List.length_take,List.length_drop]
    rw[hr.1]at hseg⊢
    omega
  have hml:m<xs.length:=by
    have:=(List.getElem?_eq_some_iff.1 hm).1
    rwa [List.length_set]at this
  have hmfit:m*d.sz+d.sz<=inner.length:=by rw[hr.1,←Nat.succ_mul];exact Nat.mul_le_mul_right _ hml
  have hgo:some g=(Value.slice (some ⟨g,0,none⟩) n cap).ownBlock:=by simp[Value.ownBlock]
  by_cases hmi:m=i.toNat
  · subst hmi
    rw[List.getElem?_set_self (by omega)]at hm
    injection hm with hm
    subst hm
    have hcells:((inner.take (i.toNat*d.sz+j)++seg++inner.drop (i.toNat*d.sz+j+seg.length)).drop (i.toNat*d.sz)).take d.sz=c.take j++seg++c.drop (j+seg.length):=by
      apply List.ext_getElem?
      intro q
      rw[List.getElem?_take,List.getElem?_drop,yl inner seg _ (by omega),yl c seg j (by omega) q]
      by_cases hq:q<d.sz
      · rw[if_pos hq,hcin q hq]
        by_cases hq1:q<j
        · rw[if_pos (by omega),if_pos hq1]
        rw[if_neg (by omega),if_neg hq1]
        by_cases hq2:q<j+seg.length
        · rw[if_pos (by omega),if_pos hq2]
          congr 1
          omega
        rw[if_neg (by omega),if_neg hq2]
      rw[if_neg hq,if_neg (by omega),if_neg (by omega),List.getElem?_eq_none (by omega)]
    rw[hcells]
    refine d.M_mono (fun k hk=>?_) (d.M_move (w1:=W.setCells g (i.toNat*d.sz+j) seg) (fun k hk=>hfar k (qo k hk).2) hM)
    exact⟨(qo k hk).1,fun he=>(qo k hk).2 (by rw[←hgo]at he;injection he)⟩
  rw[List.getElem?_set_ne (by omega)]at hm
  have hold:=hr.2 m p hm
  have hcells:((inner.take (i.toNat*d.sz+j)++seg++inner.drop (i.toNat*d.sz+j+seg.length)).drop (m*d.sz)).take d.sz=(inner.drop (m*d.sz)).take d.sz:=by
    apply List.ext_getElem?
    intro q
    rw[List.getElem?_take,List.getElem?_take,List.getElem?_drop,List.getElem?_drop,yl inner seg _ (by omega)]
    by_cases hq:q<d.sz
    · rw[if_pos hq,if_pos hq]
      rcases Nat.lt_or_gt_of_ne hmi with hlt|hgt
      · have:m*d.sz+d.sz<=i.toNat*d.sz:=by rw[←Nat.succ_mul];exact Nat.mul_le_mul_right _ hlt
        rw[if_pos (by omega)]
      have:i.toNat*d.sz+d.sz<=m*d.sz:=by rw[←Nat.succ_mul];exact Nat.mul_le_mul_right _ hgt
      rw[if_neg (by omega),if_neg (by omega)]
    rw[if_neg hq,if_neg hq]
  rw[hcells]
  refine d.M_move (fun k hk=>hfar k (fun he=>hk.2 (by rw[he];exact hgo))) hold
end
end Kd
namespace Kd
theorem F4 {α:Type}{R:α->List Value->Prop}{size:Nat}{ps qs:List α}{cs ds:List Value}(h:kT R size ps cs) (h':kT R size qs ds):kT R size (ps++qs) (cs++ds):=by
  refine⟨by rw[List.length_append,List.length_append,h.1,h'.1,Nat.add_mul],fun j p hj=>?_⟩
  rcases Nat.lt_or_ge j ps.length with hlt|hge
  · rw[List.getElem?_append_left hlt]at hj
    have hle:j*size+size<=cs.length:=by rw[h.1,←Nat.succ_mul];exact Nat.mul_le_mul_right _ hlt
    rw[List.drop_append_of_le_length (by omega),List.take_append_of_le_length (by rw[List.length_drop];omega)]
    exact h.2 j p hj
  rw[List.getElem?_append_right hge]at hj
  have h2:=h'.2 (j - ps.length) p hj
  have hle:ps.length*size<=j*size:=Nat.mul_le_mul_right _ hge
  rw[List.drop_append,List.drop_eq_nil_of_le (by rw[h.1];exact hle),List.nil_append,h.1,←Nat.sub_mul]
  exact h2
section
variable {P:Program}{ops:Array Oper}{rest:List Oper}{o:Oper}{a:Act}{Q:Exit->Act->World->Prop}{α:Type}
theorem Ag (d:Kd α) {Rr:α->List Value->Prop}{w0 W:World}(base:Nat) (hgd:o.guard=none) (s x:Operand) (t e:TypeId) (z:Value) (bytes:Nat)
    (ho:o.op=.call {callee:=.builtin .append,args:= #[s,x],argTypes:= #[t,t]})
    (ht:P.underlying t=some (.slice e)) (hinfo:(P.info? e).map (fun i=>(i.zero,i.size,i.bytes))=some (some z,d.sz,bytes)) (hz:z.cells.size=d.sz) (hs0:0<d.sz) (hb0:0<bytes)
    (v:Value) (xs ys:List α) (A:Option Addr) (m c:Nat) (ok okp:Nat->Prop) (hs:a.eval s=v) (hx:a.eval x=.slice A m c)
    (HO:d.R e W base ok v xs) (HR:rM Rr d.sz W A m ys) (hKM:∀x cs,Rr x cs->d.M W base okp x cs) (qo:∀k,okp k->ok k/\some k≠v.ownBlock) (hfresh:∀k,W.heap.size<=k->ok k)
    (HB:Below base w0 W) (hbase:base<=W.heap.size) (hl:(xs.length+m)*bytes<=140737488355328)
    (h:∀v1 w1,d.R e w1 base ok v1 (xs++ys)->Below base w0 w1->W.grownBy w1 v.ownBlock->(v1.ownBlock=v.ownBlock\/∃b,v1.ownBlock=some b/\W.heap.size<=b)->wpList P ops Q rest (a.put o.dst v1) w1):
    wpList P ops Q (o::rest) a W:=by
  obtain⟨i0,hi,hzz⟩:=Option.map_eq_some_iff.1 hinfo
  simp only [Prod.mk.injEq]at hzz
  obtain⟨hz0,hz1,hz2⟩:=hzz
  have hm:ys.length=m:=HR.1
  have hlen:xs.length+m<=140737488355328:=Nat.le_trans (Nat.le_mul_of_pos_right _ hb0) hl
  obtain⟨hok,inner,hown,hr⟩:=HO
  have hrun:∃v1 w1,(Builtin.append_ #[t,t] o.type #[v,.slice A m c]).run P W=.ok v1 w1/\d.R e w1 base ok v1 (xs++ys)/\W.grownBy w1 v.ownBlock/\(v1.ownBlock=v.ownBlock\/∃b,v1.ownBlock=some b/\W.heap.size<=b):=by
    rcases A with _|ad
    · have h0:m=0:=by
        rcases Nat.eq_zero_or_pos m with h0|h0
        · exact h0
        obtain⟨ad,h,_⟩:=HR.2.2 h0
        cases h
      subst h0
      obtain rfl:ys=[]:=List.eq_nil_of_length_eq_zero hm
      refine⟨v,W,?_,by rw[List.append_nil];exact⟨hok,inner,hown,hr⟩,World.grownBy.refl W _,.inl rfl⟩
      rcases hown.2 with⟨rfl,hn⟩|⟨g,cap,cur,rfl,_,_,hnc,_⟩
      · simp[Builtin.append_,run_underlying ht,sizeOf,typeInfo,hi,Builtin.lenOf,Builtin.firstCells]
      simp[Builtin.append_,run_underlying ht,sizeOf,typeInfo,hi,Builtin.lenOf,Builtin.firstCells,hnc,storeCells]
    obtain⟨news,hnr,hnc⟩:=rM.E5 HR
    have hnM:kT (d.M W base okp) d.sz ys news:=hnr.p8 (fun p c hp=>hKM p c hp)
    have hone:∀u∈news,u.oneCell'=true:=by
      intro u hu
      obtain⟨q,hq,rfl⟩:=List.mem_iff_getElem.1 hu
      have hql:q/d.sz<ys.length:=by
        rw[Nat.div_lt_iff_lt_mul hs0]
        rw[←hnM.1]
        exact hq
      have hc:=hnM.2 (q/d.sz) _ (List.getElem?_eq_getElem hql)
      refine d.K_one (d.K_of_M hc) _ ?_
      rw[List.mem_iff_getElem?]
      refine⟨q%d.sz,?_⟩
      rw[List.getElem?_take,if_pos (Nat.mod_lt _ hs0),List.getElem?_drop,Nat.mul_comm,Nat.div_add_mod,List.getElem?_eq_getElem hq]
    obtain⟨v1,w1,hrun,h2,hg,_,hat⟩:=run_append_own_at (P:=P) W base t o.type e i0 z d.sz bytes ht hi hz0 hz1 hz2 hz hs0 v xs.length inner hown ad m c news (by rw[hnM.1,hm]) hnc hone (by simp only [maxLen];omega) hl hbase
    have hat':v1.ownBlock=v.ownBlock\/∃b,v1.ownBlock=some b/\W.heap.size<=b:=by
      rcases hat with hat|hat
      · exact .inl hat
      exact .inr ⟨_,hat,Nat.le_refl _⟩
    have hne:∀k,some k≠v.ownBlock->k<W.heap.size->some k≠v1.ownBlock:=by
      intro k hk hlt
      rcases hat' with hat|⟨b,hb,hle⟩
      · rw[hat];exact hk
      rw[hb]
      intro he
      injection he with he
      omega
    have step:∀ {q:α}{c:List Value}{o:Nat->Prop},d.M W base o q c->(∀k,o k->ok k/\some k≠v.ownBlock)->d.M w1 base (fun k=>ok k/\some k≠v1.ownBlock) q c:=by
      intro q c o hq ho
      have h1:=d.M_move (w1:=w1) (fun k hk=>hg.block k hk.2.2.1 (ho k hk.1).2) (d.M_bound hq)
      exact d.M_mono (fun k hk=>⟨(ho k hk.1).1,hne k (ho k hk.1).2 hk.2.2.1⟩) h1
    refine⟨v1,w1,hrun,⟨fun k hk=>?_,inner++news,by rw[List.length_append,hm];exact h2,F4 (hr.p8 (fun _ _ hq=>step hq (fun _ hk=>hk))) (hnM.p8 (fun _ _ hq=>step hq qo))⟩,hg,hat'⟩
    rcases hat' with hat|⟨b,hb,hle⟩
    · exact hok k (hat▸hk)
    rw[hb]at hk
    injection hk with hk
    exact hfresh k (by omega)
  obtain⟨v1,w1,hr1,h1,hg,hat⟩:=hrun
  refine wpList_plain hgd fun K hK=>?_
  unfold Oper.wp execOp
  simp only [ho,resolve,invoke,builtin,Sem.run_bind,Sem.run_pure,Result.andThen_ok,List.map_toArray,List.map_cons,List.map_nil,hs,hx,hr1]
  exact hK _ _ (h v1 w1 h1 (HB.grown hg hbase (wm hown)) hg hat)
end
end Kd
namespace Kd
section
variable {α:Type}{k:Kd α}{w:World}{A:Option Addr}{xs:List α}{m c:Nat}
theorem Mt (h:k.C w A xs.length xs) (hm:m<=xs.length):k.C w A (xs.take m).length (xs.take m):=by
  have hl:(xs.take m).length=m:=by rw[List.length_take];omega
  refine⟨rfl,by rw[hl];have:=h.2.1;omega,fun hp=>?_⟩
  obtain⟨ad,e,hc⟩:=h.2.2 (by omega)
  refine⟨ad,e,fun j p hj=>hc j p ?_⟩
  rw[List.getElem?_take]at hj
  split at hj
  · exact hj
  cases hj
end
end Kd
theorem kN {w W:World}(h:Below w.heap.size w W):w.heap.size<=W.heap.size:=h.size
theorem l5 {w W w2:World}(h:Below w.heap.size w W) (k:Below W.heap.size W w2):Below w.heap.size w w2:=Hw h h.size k
theorem qP.nil (W:World) (k:IntKind):qP W k none ([]:List Int).length []:=⟨rfl,by simp,fun h=>absurd h (Nat.lt_irrefl 0)⟩
theorem qP.drewN {W:World}{k:IntKind}{A:Option Addr}{n:Nat}{xs:List Int}(h:qP W k A n xs) (m:Nat):qP (W.drewN m) k A n xs:=h
theorem nT {w W:World}{g j:Nat}{v:Value}(h:Below w.heap.size w W) (hg:w.heap.size<=g):Below w.heap.size w (W.setCell ⟨g,j,none⟩ v):=h.setCell hg _
theorem zK {w W:World}{g:Nat}{row:Option Nat}(h:kZ w W g row) (m:Nat):kZ w (W.drewN m) g row:=h
theorem zJ {w W:World}{g:Nat}(h:kZ w W g none) (o:Obj):kZ w (W.alloc o) g none:=h.trans (kZ.wX (World.grownBy_alloc W o none) g) (.inl rfl)
theorem E9 {w W:World}{g:Nat}(h:kZ w W g none) {a:Addr}{v:Value}(hc:w.cell? a=some v) (hne:a.block≠g):W.cell? a=some v:=by
  have:=h.2 a.block (World.block_lt_of_cell? w a hc) hne (by simp)
  simpa [World.cell?,this] using hc
theorem add_block (a:Addr) (i:Nat):(a.add i).block=a.block:=by unfold Addr.add;split<;>rfl
theorem yP {w0 w w1:World}{B:Nat}(h:Below w0.heap.size w0 w) (hB:w0.heap.size<=B) (k:Below B w w1):Below w0.heap.size w0 w1:=
  h.trans ⟨k.os,k.tape,k.output,k.size,fun i hi=>k.block i (Nat.lt_of_lt_of_le hi hB)⟩
theorem own_base' {w:World}{base:Nat}{e:TypeId}{size n:Nat}{v:Value}{xs:List Value}(h:w.ownsRow base e size v n xs):v.ownBlock=none\/∃b,v.ownBlock=some b/\base<=b:=by
  cases hv:v.ownBlock with
  |none=>exact .inl rfl
  |some b=>exact .inr ⟨b,rfl,wm h b hv⟩
theorem nR {w W:World}{g:Nat}{row:Option Nat}(h:kZ w W g row):w.heap.size<=W.heap.size:=h.1
theorem og.nil {α:Type}(enc:α->Value) (d:α) (W:World):og enc d W none ([]:List α).length []:=⟨rfl,by simp,fun h=>absurd h (Nat.lt_irrefl 0)⟩
theorem og.drewN {α:Type}{enc:α->Value}{d:α}{W:World}{A:Option Addr}{n:Nat}{xs:List α}(h:og enc d W A n xs) (m:Nat):og enc d (W.drewN m) A n xs:=h
theorem qP.keep {w W:World}{k:IntKind}{A:Option Addr}{n g:Nat}{xs:List Int}(h:qP w k A n xs) (hk:kZ w W g none) (hf:∀ad,A=some ad->0<n->ad.block≠g):qP W k A n xs:=
  ⟨h.1,h.2.1,fun hn=>by
    obtain⟨ad,e,hc⟩:=h.2.2 hn
    exact⟨ad,e,fun j hj=>E9 hk (hc j hj) (by rw[add_block];exact hf ad e hn)⟩⟩
theorem og.keep {α:Type}{enc:α->Value}{d:α}{w W:World}{A:Option Addr}{n g:Nat}{xs:List α}(h:og enc d w A n xs) (hk:kZ w W g none) (hf:∀ad,A=some ad->0<n->ad.block≠g):og enc d W A n xs:=
  ⟨h.1,h.2.1,fun hn=>by
    obtain⟨ad,e,hc⟩:=h.2.2 hn
    exact⟨ad,e,fun j hj=>E9 hk (hc j hj) (by rw[add_block];exact hf ad e hn)⟩⟩
theorem cell_far {W:World}{p a:Addr}(h:a.block≠p.block) (u:Value):(W.setCell p u).cell? a=W.cell? a:=by
  have:=Below.heap_setCell W p u a.block h
  simp[World.cell?,this]
theorem vS {w:World}{g:Nat}{t:TypeId}{cs cs':Array Value}(h:w.heap[g]? =some (.cells cs t (0,0))) (i:Nat) (u:Value) (e:cs.setIfInBounds i u=cs'):(w.setCell ⟨g,i,none⟩ u).heap[g]? =some (.cells cs' t (0,0)):=e▸yU h i u
theorem vY {w W:World}{g:Nat}{row:Option Nat}(h:kZ w W g row) {p:Addr}(hp:w.heap.size<=p.block) (u:Value):kZ w (W.setCell p u) g row:=
  ⟨by simpa [World.setCell] using h.1,fun i hi hg hr=>(Below.heap_setCell W p u i (by omega)).trans (h.2 i hi hg hr)⟩
theorem ma {base:Nat}{w W:World}(h:Below base w W):Below base w W.drew:=h.drew
theorem rZ {w W:World}{g:Nat}{row:Option Nat}(h:kZ w W g row):kZ w W.drew g row:=h
namespace Kd
section
variable {α β:Type}{d:Kd α}{d':Kd β}{e e' base base' n:Nat}{ok ok':Nat->Prop}{w W w1 W1:World}{v u:Value}{xs:List α}{ys:List β}{A:Option Addr}{c:Nat}
theorem yE (h:d.R e w base ok v xs):v.ownBlock=none\/∃k,v.ownBlock=some k/\base<=k:=by
  obtain⟨inner,ho⟩:=xu h
  exact own_base' ho
end
end Kd
namespace Kd
section
variable {α:Type}{d:Kd α}{e base g:Nat}{ok:Nat->Prop}{w w1:World}{v:Value}{xs:List α}{o:Obj}
theorem yF (h:d.R e w base ok v xs) (a:Nat) (ha:w.heap.size<=a):d.R e w base (fun k=>ok k/\k≠a) v xs:=kv (su h) (fun k hk=>⟨hk.1,by have:=hk.2.2.1;omega⟩)
theorem yG (h:d.R e w1 w.heap.size ok v xs) (hb:w.heap[g]? =some o):d.R e w1 w.heap.size (fun k=>ok k/\k≠g) v xs:=kv (su h) (fun k hk=>⟨hk.1,by have:=lL hb;have:=hk.2.1;omega⟩)
theorem vI (hb:w.heap[g]? =some o):∀k,w.heap.size<=k->k≠g:=fun k hk=>by have:=lL hb;omega
end
end Kd
section
variable {P:Program}{ops:Array Oper}{rest:List Oper}{o:Oper}{a:Act}{Q:Exit->Act->World->Prop}
theorem Ic {W:World}(hgd:o.guard=none) {N:Tmp}(_hd:o.dst=some N) {cs:Array Value}{t:TypeId}
    (hrun:(execOp a.eval o).run P W=.ok (.value (.pointer (some ⟨W.heap.size,0,none⟩))) (W.alloc (.cells cs t (0,0))))
    (h:∀g,g=W.heap.size->∀w1,w1.heap[g]? =some (.cells cs t (0,0))->Below W.heap.size W w1->wpList P ops Q rest (a.put o.dst (.pointer (some ⟨g,0,none⟩))) w1):wpList P ops Q (o::rest) a W:=
  Kd.Bp hgd hrun (h _ rfl _ (yT W _) (pJ (Below.refl _ _) _))
end
namespace Kd
section
variable {α:Type}{enc:α->Value}{h1:∀x,(enc x).oneCell'=true}{e base g n cap:Nat}{ok:Nat->Prop}{W:World}{xs:List α}
theorem sM (d:α) (h:(scalar enc h1).R e W base ok (.slice (some ⟨g,0,none⟩) n cap) xs) (i:Int) (h0:0<=i) (hi:i<n):W.cell? ⟨g,i.toNat,none⟩=some (enc (l8 d xs i))/\W.frozen? ⟨g,i.toNat,none⟩=false:=by
  obtain⟨rfl,_⟩:=ku h
  exact GR d h i h0 hi
theorem Am (h:(scalar enc h1).R e W base ok (.slice (some ⟨g,0,none⟩) n cap) xs) (i:Int) (x:α):(scalar enc h1).R e (W.setCell ⟨g,i.toNat,none⟩ (enc x)) base ok (.slice (some ⟨g,0,none⟩) n cap) (xs.set i.toNat x):=by
  obtain⟨rfl,_⟩:=ku h
  exact(CK h i x).1
end
end Kd
section
variable {P:Program}{ops:Array Oper}{rest:List Oper}{o:Oper}{a:Act}{Q:Exit->Act->World->Prop}
theorem wB {W w1:World}(hgd:o.guard=none) {t:TypeId}{p:Tmp}{v:Operand}(_ho:o.op=.store t (.tmp p) v) (hN:o.dst=none)
    (hrun:(execOp a.eval o).run P W=.ok .skip w1) (h:∀w',w'=w1->wpList P ops Q rest a w'):wpList P ops Q (o::rest) a W:=by
  refine wpList_plain hgd fun K hK=>?_
  unfold Oper.wp
  rw[hrun]
  show K (a.put o.dst undef) w1
  rw[hN]
  exact hK _ _ (h _ rfl)
end
namespace Kd
section
variable {α:Type}{enc:α->Value}{h1:∀x,(enc x).oneCell'=true}{e base g n cap:Nat}{ok:Nat->Prop}{W:World}{xs:List α}
theorem wF (h:(scalar enc h1).R e W base ok (.slice (some ⟨g,0,none⟩) n cap) xs) (i:Int) (x:α):(scalar enc h1).R e (W.setCell ⟨g,i.toNat,none⟩ (enc x)) base ok (.slice (some ⟨g,0,none⟩) n cap) (xs.set i.toNat x)/\W.grownBy (W.setCell ⟨g,i.toNat,none⟩ (enc x)) (some g):=by
  obtain⟨rfl,_⟩:=ku h
  exact CK h i x
end
end Kd
section
variable {P:Program}{ops:Array Oper}{rest:List Oper}{o:Oper}{a:Act}{Q:Exit->Act->World->Prop}{W:World}
theorem MI {N:Tmp}(_hN:o.dst=some N) (h:wpList P ops Q (o::rest) a W):wpList P ops Q (o::rest) a W:=h
theorem vW {t:TypeId}{p:Tmp}{v:Operand}(_ho:o.op=.store t (.tmp p) v) (h:wpList P ops Q (o::rest) a W):wpList P ops Q (o::rest) a W:=h
end
section
variable {P:Program}{ops:Array Oper}{o:Oper}{a:Act}{Q:Exit->Act->World->Prop}{Kc:Act->World->Prop}
theorem EP {W w1:World}{v:Value}(hw:Region.wanted o (yielded ops a.tmps)=true) (hrun:(execOp a.eval o).run P W=.ok (.value v) w1) (h:Kc (a.put o.dst v) w1):if Region.wanted o (yielded ops a.tmps)=true then Oper.wp P o a W Kc Q else Kc (a.put o.dst undef) W:=by
  rw[if_pos hw]
  unfold Oper.wp
  rw[hrun]
  exact h
theorem pR {W:World}(hw:Region.wanted o (yielded ops a.tmps)=true) {N:Tmp}(_hd:o.dst=some N) {cs:Array Value}{t:TypeId}
    (hrun:(execOp a.eval o).run P W=.ok (.value (.pointer (some ⟨W.heap.size,0,none⟩))) (W.alloc (.cells cs t (0,0))))
    (h:∀g,g=W.heap.size->∀w1,w1.heap[g]? =some (.cells cs t (0,0))->Below W.heap.size W w1->Kc (a.put o.dst (.pointer (some ⟨g,0,none⟩))) w1):if Region.wanted o (yielded ops a.tmps)=true then Oper.wp P o a W Kc Q else Kc (a.put o.dst undef) W:=
  EP hw hrun (h _ rfl _ (yT W _) (pJ (Below.refl _ _) _))
namespace Kd
variable {α:Type}
theorem sw (d:Kd α) {w0 W:World}(base e:Nat) (hw:Region.wanted o (yielded ops a.tmps)=true) {N:Tmp}(_hd:o.dst=some N) {xs:List α}{inner:List Value}{ok okp:Nat->Prop}
    (hrun:(execOp a.eval o).run P W=.ok (.value (.slice (some ⟨W.heap.size,0,none⟩) xs.length xs.length)) (W.alloc (.cells inner.toArray e)))
    (hrep:kT (d.M W base okp) d.sz xs inner) (hok:∀k,okp k->ok k) (hfresh:ok W.heap.size) (HB:Below base w0 W) (hbase:base<=W.heap.size) (hm:xs.length<=9223372036854775807)
    (h:∀v1 w1,d.R e w1 base ok v1 xs->Below base w0 w1->W.grownBy w1 none->(∃b,v1.ownBlock=some b/\W.heap.size<=b)->Kc (a.put o.dst v1) w1):if Region.wanted o (yielded ops a.tmps)=true then Oper.wp P o a W Kc Q else Kc (a.put o.dst undef) W:=by
  refine EP hw hrun (h _ _ ⟨fun k hk=>?_,inner,?_,?_⟩ (HB.alloc hbase _) (World.grownBy_alloc W _ none) ⟨W.heap.size,by simp[Value.ownBlock],Nat.le_refl _⟩)
  · have:W.heap.size=k:=by simpa [Value.ownBlock] using hk
    subst this
    exact hfresh
  · have h2:=World.ownsRow_lit (base:=base) (e:=e) (size:=d.sz) W inner.toArray xs.length hbase (by simpa [maxLen] using hm) (by simpa using hrep.1)
    simpa using h2
  refine hrep.p8 (fun p c hp=>d.M_mono (fun k hk=>⟨hok k hk.1,fun he=>?_⟩) (Cs (d.M_bound hp) (pJ (Below.refl _ _) _)))
  have h3:k=W.heap.size:=by simpa [Value.ownBlock] using he
  have:=hk.2.2.1
  omega
theorem Ah (d:Kd α) {Rr:α->List Value->Prop}{w0 W:World}(base:Nat) (hw:Region.wanted o (yielded ops a.tmps)=true) (s x:Operand) (t e:TypeId) (z:Value) (bytes:Nat)
    (ho:o.op=.call {callee:=.builtin .append,args:= #[s,x],argTypes:= #[t,t]})
    (ht:P.underlying t=some (.slice e)) (hinfo:(P.info? e).map (fun i=>(i.zero,i.size,i.bytes))=some (some z,d.sz,bytes)) (hz:z.cells.size=d.sz) (hs0:0<d.sz) (hb0:0<bytes)
    (v:Value) (xs ys:List α) (A:Option Addr) (m c:Nat) (ok okp:Nat->Prop) (hs:a.eval s=v) (hx:a.eval x=.slice A m c)
    (HO:d.R e W base ok v xs) (HR:rM Rr d.sz W A m ys) (hKM:∀x cs,Rr x cs->d.M W base okp x cs) (qo:∀k,okp k->ok k/\some k≠v.ownBlock) (hfresh:∀k,W.heap.size<=k->ok k)
    (HB:Below base w0 W) (hbase:base<=W.heap.size) (hl:(xs.length+m)*bytes<=140737488355328)
    (h:∀v1 w1,d.R e w1 base ok v1 (xs++ys)->Below base w0 w1->W.grownBy w1 v.ownBlock->(v1.ownBlock=v.ownBlock\/∃b,v1.ownBlock=some b/\W.heap.size<=b)->Kc (a.put o.dst v1) w1):
    if Region.wanted o (yielded ops a.tmps)=true then Oper.wp P o a W Kc Q else Kc (a.put o.dst undef) W:=by
  obtain⟨i0,hi,hzz⟩:=Option.map_eq_some_iff.1 hinfo
  simp only [Prod.mk.injEq]at hzz
  obtain⟨hz0,hz1,hz2⟩:=hzz
  have hm:ys.length=m:=HR.1
  have hlen:xs.length+m<=140737488355328:=Nat.le_trans (Nat.le_mul_of_pos_right _ hb0) hl
  obtain⟨hok,inner,hown,hr⟩:=HO
  have hrun:∃v1 w1,(Builtin.append_ #[t,t] o.type #[v,.slice A m c]).run P W=.ok v1 w1/\d.R e w1 base ok v1 (xs++ys)/\W.grownBy w1 v.ownBlock/\(v1.ownBlock=v.ownBlock\/∃b,v1.ownBlock=some b/\W.heap.size<=b):=by
    rcases A with _|ad
    · have h0:m=0:=by
        rcases Nat.eq_zero_or_pos m with h0|h0
        · exact h0
        obtain⟨ad,h,_⟩:=HR.2.2 h0
        cases h
      subst h0
      obtain rfl:ys=[]:=List.eq_nil_of_length_eq_zero hm
      refine⟨v,W,?_,by rw[List.append_nil];exact⟨hok,inner,hown,hr⟩,World.grownBy.refl W _,.inl rfl⟩
      rcases hown.2 with⟨rfl,hn⟩|⟨g,cap,cur,rfl,_,_,hnc,_⟩
      · simp[Builtin.append_,run_underlying ht,sizeOf,typeInfo,hi,Builtin.lenOf,Builtin.firstCells]
      simp[Builtin.append_,run_underlying ht,sizeOf,typeInfo,hi,Builtin.lenOf,Builtin.firstCells,hnc,storeCells]
    obtain⟨news,hnr,hnc⟩:=rM.E5 HR
    have hnM:kT (d.M W base okp) d.sz ys news:=hnr.p8 (fun p c hp=>hKM p c hp)
    have hone:∀u∈news,u.oneCell'=true:=by
      intro u hu
      obtain⟨q,hq,rfl⟩:=List.mem_iff_getElem.1 hu
      have hql:q/d.sz<ys.length:=by
        rw[Nat.div_lt_iff_lt_mul hs0]
        rw[←hnM.1]
        exact hq
      have hc:=hnM.2 (q/d.sz) _ (List.getElem?_eq_getElem hql)
      refine d.K_one (d.K_of_M hc) _ ?_
      rw[List.mem_iff_getElem?]
      refine⟨q%d.sz,?_⟩
      rw[List.getElem?_take,if_pos (Nat.mod_lt _ hs0),List.getElem?_drop,Nat.mul_comm,Nat.div_add_mod,List.getElem?_eq_getElem hq]
    obtain⟨v1,w1,hrun,h2,hg,_,hat⟩:=run_append_own_at (P:=P) W base t o.type e i0 z d.sz bytes ht hi hz0 hz1 hz2 hz hs0 v xs.length inner hown ad m c news (by rw[hnM.1,hm]) hnc hone (by simp only [maxLen];omega) hl hbase
    have hat':v1.ownBlock=v.ownBlock\/∃b,v1.ownBlock=some b/\W.heap.size<=b:=by
      rcases hat with hat|hat
      · exact .inl hat
      exact .inr ⟨_,hat,Nat.le_refl _⟩
    have hne:∀k,some k≠v.ownBlock->k<W.heap.size->some k≠v1.ownBlock:=by
      intro k hk hlt
      rcases hat' with hat|⟨b,hb,hle⟩
      · rw[hat];exact hk
      rw[hb]
      intro he
      injection he with he
      omega
    have step:∀ {q:α}{c:List Value}{o:Nat->Prop},d.M W base o q c->(∀k,o k->ok k/\some k≠v.ownBlock)->d.M w1 base (fun k=>ok k/\some k≠v1.ownBlock) q c:=by
      intro q c o hq ho
      have h1:=d.M_move (w1:=w1) (fun k hk=>hg.block k hk.2.2.1 (ho k hk.1).2) (d.M_bound hq)
      exact d.M_mono (fun k hk=>⟨(ho k hk.1).1,hne k (ho k hk.1).2 hk.2.2.1⟩) h1
    refine⟨v1,w1,hrun,⟨fun k hk=>?_,inner++news,by rw[List.length_append,hm];exact h2,F4 (hr.p8 (fun _ _ hq=>step hq (fun _ hk=>hk))) (hnM.p8 (fun _ _ hq=>step hq qo))⟩,hg,hat'⟩
    rcases hat' with hat|⟨b,hb,hle⟩
    · exact hok k (hat▸hk)
    rw[hb]at hk
    injection hk with hk
    exact hfresh k (by omega)
  obtain⟨v1,w1,hr1,h1,hg,hat⟩:=hrun
  rw[if_pos hw]
  unfold Oper.wp execOp
  simp only [ho,resolve,invoke,builtin,Sem.run_bind,Sem.run_pure,Result.andThen_ok,List.map_toArray,List.map_cons,List.map_nil,hs,hx,hr1]
  exact h v1 w1 h1 (HB.grown hg hbase (wm hown)) hg hat
end Kd
end
end Go.Proofs.YtgeonpciodepgaaW.PrintWords
namespace Go.Proofs.YtgeonpciodepgaaW.PrintLast
section
variable {P:Program}{ops:Array Oper}{Q:Exit->Act->World->Prop}{md:Region.Mode}{S:World->Prop}{ds:List Nat}
def Region.sZ (md:Region.Mode) (ops:Array Oper) (i:Nat):Nat->Nat->Bool
  |0,_=>false
  |fuel+1,d=>match ops[d]? with
    |some o=>o.after.any fun e=>Region.binds md e&&(e.on==i||Region.sZ md ops i fuel e.on)
    |none=>false
def Region.xQ (md:Region.Mode) (ops:Array Oper) (listed:Array Bool):Bool:=
  (List.range ops.size).all fun j=> !listed.getD j false||match ops[j]? with
    |some o=>o.after.all fun e=> !Region.binds md e||listed.getD e.on false
    |none=>true
def Region.lastB (md:Region.Mode) (ops:Array Oper) (listed:Array Bool) (ds:List Nat) (i:Nat):Bool:=
  ds.all fun d=>listed.getD d true||Region.sZ md ops i ops.size d
def vO (md:Region.Mode) (ops:Array Oper) (listed:Array Bool):Prop:=
  ∀j oj,ops[j]? =some oj->listed.getD j false=true->∀e∈oj.after,Region.binds md e=true->listed.getD e.on false=true
theorem Region.Iu {listed:Array Bool}(h:Region.xQ md ops listed=true):vO md ops listed:=by
  intro j oj hj hl e he hb
  have hlt:j<ops.size:=(Array.getElem?_eq_some_iff.1 hj).1
  have h1:=List.all_eq_true.1 h j (List.mem_range.2 hlt)
  simp only [hl,hj,Bool.not_true,Bool.false_or]at h1
  have h2:=Array.all_eq_true_iff_forall_mem.1 h1 e he
  simpa [hb] using h2
theorem vO.set {listed:Array Bool}{i:Nat}(h:vO md ops listed) (hi:i∈Region.ready md ops listed):vO md ops (listed.setIfInBounds i true):=by
  obtain⟨_,oi,hoi,hall⟩:=mem_ready.1 hi
  intro j oj hj hl e he hb
  by_cases hij:i=j
  · subst hij
    have:oj=oi:=Option.some.inj (hj.symm.trans hoi)
    subst this
    exact getD_set_true (hall e he hb)
  rw[getD_set_ne false hij]at hl
  exact getD_set_true (h j oj hj hl e he hb)
theorem Region.FZ {listed:Array Bool}{i:Nat}(hc:vO md ops listed):∀ (fuel d:Nat),Region.sZ md ops i fuel d=true->listed.getD d false=true->listed.getD i false=true
  |0,_,h,_=>by simp[Region.sZ]at h
  |fuel+1,d,h,hl=>by
    unfold Region.sZ at h
    cases ho:ops[d]? with
    |none=>rw[ho]at h;simp at h
    |some o=>
      rw[ho]at h
      obtain⟨e,he,h1⟩:=Array.any_eq_true'.1 h
      simp only [Bool.and_eq_true,Bool.or_eq_true,beq_iff_eq]at h1
      have hle:=hc d o ho hl e he h1.1
      rcases h1.2 with h2|h2
      · rw[←h2];exact hle
      exact Region.FZ hc fuel e.on h2 hle
theorem Region.K8 {listed:Array Bool}{i d fuel:Nat}(hc:vO md ops listed) (hr:Region.sZ md ops i fuel d=true) (hun:listed.getD i true=false):d∉Region.ready md ops listed:=by
  intro hd
  obtain⟨_,o,ho,hall⟩:=mem_ready.1 hd
  have hi:listed.getD i false=true:=by
    cases fuel with
    |zero=>simp[Region.sZ]at hr
    |succ n=>
      unfold Region.sZ at hr
      rw[ho]at hr
      obtain⟨e,he,h1⟩:=Array.any_eq_true'.1 hr
      simp only [Bool.and_eq_true,Bool.or_eq_true,beq_iff_eq]at h1
      have hle:=hall e he h1.1
      rcases h1.2 with h2|h2
      · rw[←h2];exact hle
      exact Region.FZ hc n e.on h2 hle
  rcases Nat.lt_or_ge i listed.size with h'|h'
  · simp[h']at hun hi
    rw[hun]at hi
    cases hi
  simp[Array.getElem?_eq_none h']at hun
def lQ (P:Program) (md:Region.Mode) (ops:Array Oper) (Q:Exit->Act->World->Prop) (S:World->Prop) (ds:List Nat):Nat->Array Bool->Act->World->Prop
  |0,listed,a,w=>Region.ready md ops listed=[]/\Q .normal a w
  |fuel+1,listed,a,w=>
    (Region.ready md ops listed=[]->Q .normal a w)/\
    ∀i∈Region.ready md ops listed,wpOp P ops Q i (fun a' w'=>(i∉ds->S w->S w')/\lQ P md ops Q S ds fuel (listed.setIfInBounds i true) a' w') a w
theorem Gr:∀ (fuel:Nat) (listed:Array Bool) (a:Act) (w:World),lQ P md ops Q S ds fuel listed a w->wpAny P md ops Q fuel listed a w
  |0,_,_,_,h=>h
  |fuel+1,_,_,_,h=>⟨h.1,fun i hi=>wpOp_mono (fun a' w' h'=>Gr fuel _ a' w' h'.2) (h.2 i hi)⟩
theorem Mk {i:Nat}{oi:Oper}{v:Value}(hi:ops[i]? =some oi) (hsel:∀ (j:Nat) (o:Oper) cs b,ops[j]? =some o->o.op≠.select cs b)
    (hQ:∀c a w,Q (.panic c) (a.put oi.dst v) w->Q (.panic c) a w) (n:Nat):
    ∀ (fuel:Nat) (listed:Array Bool) (a:Act) (w:World),
      (∀j oj,ops[j]? =some oj->j≠i->listed.getD j true=false->(∀e∈oj.after,Region.binds md e=true->e.on≠i)->oi.apart ops oj=true)->
      vO md ops listed->(∀d∈ds,listed.getD d true=false->Region.sZ md ops i n d=true)->
      i∈Region.ready md ops listed->YieldsIf P ops S oi v a->S w->
      lQ P md ops Q S ds fuel (listed.setIfInBounds i true) (a.put oi.dst v) w->lQ P md ops Q S ds (fuel+1) listed a w:=by
  intro fuel
  induction fuel with
  |zero=>
    intro listed a w _ _ _ hr hy hS H
    refine⟨fun h=>(by rw[h]at hr;cases hr),fun j hj=>?_⟩
    by_cases hji:j=i
    · subst hji;exact hy.wpOp hi hS ⟨fun _ h=>h,H⟩
    have:=ready_mono hj hji
    rw[H.1]at this
    cases this
  |succ fuel ih=>
    intro listed a w hfree hc hd hr hy hS H
    refine⟨fun h=>(by rw[h]at hr;cases hr),fun j hj=>?_⟩
    by_cases hji:j=i
    · subst hji;exact hy.wpOp hi hS ⟨fun _ h=>h,H⟩
    have h1:=H.2 j (ready_mono hj hji)
    obtain⟨hjun,oj,hoj,hall⟩:=mem_ready.1 hj
    have hiun:=(mem_ready.1 hr).1
    have hnot:∀e∈oj.after,Region.binds md e=true->e.on≠i:=fun e he hb heq=>by
      have h1:=hall e he hb
      rw[heq]at h1
      rcases Nat.lt_or_ge i listed.size with h'|h'
      · simp[h']at hiun h1;rw[hiun]at h1;cases h1
      simp[Array.getElem?_eq_none h']at h1
    have hjd:j∉ds:=fun hm=>Region.K8 hc (hd j hm hjun) hiun hj
    have h2:=wpOp_putIf hoj (hfree j oj hoj hji hjun hnot) (fun cs b=>hsel i oi cs b hi) (fun cs b=>hsel j oj cs b hoj) hQ hy h1
    have hfree':∀k ok,ops[k]? =some ok->k≠i->(listed.setIfInBounds j true).getD k true=false->
        (∀e∈ok.after,Region.binds md e=true->e.on≠i)->oi.apart ops ok=true:=fun k ok hk hki hun hno=>by
      refine hfree k ok hk hki ?_ hno
      by_cases hjk:j=k
      · subst hjk;exact hjun
      rw[getD_set_ne true hjk]at hun;exact hun
    have hd':∀d∈ds,(listed.setIfInBounds j true).getD d true=false->Region.sZ md ops i n d=true:=fun d hm hun=>by
      refine hd d hm ?_
      by_cases hjk:j=d
      · subst hjk;exact hjun
      rw[getD_set_ne true hjk]at hun;exact hun
    refine wpOp_mono (fun a' w' h3=>⟨h3.2.1,ih (listed.setIfInBounds j true) a' w' hfree' (hc.set hj) hd' (ready_mono hr (Ne.symm hji)) h3.1 (h3.2.1 hjd hS) ?_⟩) h2
    rw[Array.setIfInBounds_comm _ _ hji]
    exact h3.2.2
theorem Mi {i:Nat}{oi:Oper}{v:Value}(hi:ops[i]? =some oi) (hsel:∀ (j:Nat) (o:Oper) cs b,ops[j]? =some o->o.op≠.select cs b)
    (hQ:∀c a w,Q (.panic c) (a.put oi.dst v) w->Q (.panic c) a w):
    ∀ (fuel:Nat) (listed:Array Bool) (a:Act) (w:World),
      (∀j oj,ops[j]? =some oj->j≠i->listed.getD j true=false->(∀e∈oj.after,Region.binds md e=true->e.on≠i)->oi.apart ops oj=true)->
      i∈Region.ready md ops listed->Yields P ops oi v a->
      lQ P md ops Q S ds fuel (listed.setIfInBounds i true) (a.put oi.dst v) w->lQ P md ops Q S ds (fuel+1) listed a w:=by
  intro fuel
  induction fuel with
  |zero=>
    intro listed a w _ hr hy H
    refine⟨fun h=>(by rw[h]at hr;cases hr),fun j hj=>?_⟩
    by_cases hji:j=i
    · subst hji;exact(hy.yieldsIf (S:=fun _=>True)).wpOp hi trivial ⟨fun _ h=>h,H⟩
    have:=ready_mono hj hji
    rw[H.1]at this
    cases this
  |succ fuel ih=>
    intro listed a w hfree hr hy H
    refine⟨fun h=>(by rw[h]at hr;cases hr),fun j hj=>?_⟩
    by_cases hji:j=i
    · subst hji;exact(hy.yieldsIf (S:=fun _=>True)).wpOp hi trivial ⟨fun _ h=>h,H⟩
    have h1:=H.2 j (ready_mono hj hji)
    obtain⟨hjun,oj,hoj,hall⟩:=mem_ready.1 hj
    have hiun:=(mem_ready.1 hr).1
    have hnot:∀e∈oj.after,Region.binds md e=true->e.on≠i:=fun e he hb heq=>by
      have h1:=hall e he hb
      rw[heq]at h1
      rcases Nat.lt_or_ge i listed.size with h'|h'
      · simp[h']at hiun h1;rw[hiun]at h1;cases h1
      simp[Array.getElem?_eq_none h']at h1
    have h2:=wpOp_put hoj (hfree j oj hoj hji hjun hnot) (fun cs b=>hsel i oi cs b hi) (fun cs b=>hsel j oj cs b hoj) hQ hy h1
    have hfree':∀k ok,ops[k]? =some ok->k≠i->(listed.setIfInBounds j true).getD k true=false->
        (∀e∈ok.after,Region.binds md e=true->e.on≠i)->oi.apart ops ok=true:=fun k ok hk hki hun hno=>by
      refine hfree k ok hk hki ?_ hno
      by_cases hjk:j=k
      · subst hjk;exact hjun
      rw[getD_set_ne true hjk]at hun;exact hun
    refine wpOp_mono (fun a' w' h3=>⟨h3.2.1,ih (listed.setIfInBounds j true) a' w' hfree' (ready_mono hr (Ne.symm hji)) h3.1 ?_⟩) h2
    rw[Array.setIfInBounds_comm _ _ hji]
    exact h3.2.2
theorem Ml {i:Nat}{oi:Oper}{v:Value}{fuel:Nat}{listed:Array Bool}{a:Act}{w:World}(hi:ops[i]? =some oi)
    (hs:Region.noSelect ops=true) (hf:Region.free md ops listed i=true) (hr:(Region.ready md ops listed).contains i=true)
    (hc:Region.xQ md ops listed=true) (hl:Region.lastB md ops listed ds i=true)
    (hQ:∀c a w,Q (.panic c) (a.put oi.dst v) w->Q (.panic c) a w) (hy:YieldsIf P ops S oi v a) (hS:S w)
    (h:lQ P md ops Q S ds fuel (listed.setIfInBounds i true) (a.put oi.dst v) w):lQ P md ops Q S ds (fuel+1) listed a w:=
  Mk hi (Region.noSelect_spec hs) hQ ops.size fuel listed a w (Region.free_spec hi hf) (Region.Iu hc)
    (fun d hm hun=>by have:=List.all_eq_true.1 hl d hm;rw[hun]at this;simpa using this) (by simpa using hr) hy hS h
theorem Mh {rs:List Nat}{fuel:Nat}{listed:Array Bool}{a:Act}{w:World}(hr:Region.ready md ops listed=rs) (hne:rs≠[])
    (h:∀i∈rs,wpOp P ops Q i (fun a' w'=>(i∉ds->S w->S w')/\lQ P md ops Q S ds fuel (listed.setIfInBounds i true) a' w') a w):lQ P md ops Q S ds (fuel+1) listed a w:=
  ⟨fun h0=>absurd (hr▸h0) hne,hr▸h⟩
theorem Mj {listed:Array Bool}{a:Act}{w:World}(hr:Region.ready md ops listed=[]) (h:Q .normal a w):
    ∀fuel,lQ P md ops Q S ds fuel listed a w
  |0=>⟨hr,h⟩
  |_+1=>⟨fun _=>h,by rw[hr];simp⟩
theorem Mm {id:Nat}{a:Act}{w:World}(hm:P.follows .mixedOrders=true)
    (h:lQ P .any ops Q S ds ops.size (Array.replicate ops.size false) a {w with drawn:=w.drawn+1}):(Code.region id ops true).wp P Q a w:=
  wp_region_any hm (Gr _ _ _ _ h)
end
section
variable {P:Program}{ops:Array Oper}{Q:Exit->Act->World->Prop}{md:Region.Mode}{S:World->Prop}{ds:List Nat}
def rJ (P:Program) (md:Region.Mode) (ops:Array Oper) (Q:Exit->Act->World->Prop) (S:World->Prop) (ds:List Nat) (fuel:Nat) (listed:Array Bool) (a:Act) (w:World) (rs:List Nat):Prop:=
  ∀i∈rs,wpOp P ops Q i (fun a' w'=>(i∉ds->S w->S w')/\lQ P md ops Q S ds fuel (listed.setIfInBounds i true) a' w') a w
theorem rJ.nil {fuel:Nat}{listed:Array Bool}{a:Act}{w:World}:rJ P md ops Q S ds fuel listed a w []:=fun _ h=>by cases h
theorem rJ.cons {fuel:Nat}{listed:Array Bool}{a:Act}{w:World}{i:Nat}{o:Oper}{rs:List Nat}(ho:ops[i]? =some o) (hd:i∉ds)
    (h:∀K':Act->World->Prop,Shut (∀a w,S w->(S w->lQ P md ops Q S ds fuel (listed.setIfInBounds i true) a w)->K' a w)->if Region.wanted o (yielded ops a.tmps)=true then Oper.wp P o a w K' Q else K' (a.put o.dst undef) w)
    (hs:rJ P md ops Q S ds fuel listed a w rs):rJ P md ops Q S ds fuel listed a w (i::rs):=fun j hj=>by
  rcases List.mem_cons.1 hj with rfl|hj
  · exact wpOp_step ho (fun K' hK=>h K' (fun a w hS hW=>hK a w ⟨fun _ _=>hS,hW hS⟩))
  exact hs j hj
theorem rJ.IA {fuel:Nat}{listed:Array Bool}{a:Act}{w:World}{i:Nat}{o:Oper}{rs:List Nat}(ho:ops[i]? =some o) (hd:i∈ds)
    (h:∀K':Act->World->Prop,Shut (∀a w,lQ P md ops Q S ds fuel (listed.setIfInBounds i true) a w->K' a w)->if Region.wanted o (yielded ops a.tmps)=true then Oper.wp P o a w K' Q else K' (a.put o.dst undef) w)
    (hs:rJ P md ops Q S ds fuel listed a w rs):rJ P md ops Q S ds fuel listed a w (i::rs):=fun j hj=>by
  rcases List.mem_cons.1 hj with rfl|hj
  · exact wpOp_step ho (fun K' hK=>h K' (fun a w hW=>hK a w ⟨fun hn=>absurd hd hn,hW⟩))
  exact hs j hj
theorem Co {rs:List Nat}{fuel:Nat}{listed:Array Bool}{a:Act}{w:World}(hr:Region.ready md ops listed=rs) (hne:rs≠[])
    (h:rJ P md ops Q S ds fuel listed a w rs):lQ P md ops Q S ds (fuel+1) listed a w:=Mh hr hne h
theorem uX {id n:Nat}{a:Act}{w:World}(l:Array Bool) (hm:P.follows .mixedOrders=true) (hn:ops.size=n) (hl:Array.replicate n false=l) (hS:S w.drew)
    (h:S w.drew->lQ P .any ops Q S ds n l a w.drew):(Code.region id ops true).wp P Q a w:=by
  subst hn
  subst hl
  exact Mm hm (h hS)
def takeB (md:Region.Mode) (ops:Array Oper) (ds:List Nat) (l l':Array Bool) (i:Nat):Bool:=
  Region.noSelect ops&&Region.free md ops l i&&(Region.ready md ops l).contains i&&Region.xQ md ops l&&Region.lastB md ops l ds i&&(l.setIfInBounds i true==l')
theorem qN {i:Nat}{N:Option Tmp}{oi:Oper}{v:Value}{fuel:Nat}{l:Array Bool}{a:Act}{w:World}(l':Array Bool) (hi:ops[i]? =some oi) (hN:oi.dst=N) (hc:takeB md ops ds l l' i=true)
    (hQ:∀c a w,Q (.panic c) (a.put oi.dst v) w->Q (.panic c) a w) (hy:YieldsIf P ops S oi v a) (hS:S w) {a':Act}(ha:a.put N v=a')
    (h:lQ P md ops Q S ds fuel l' a' w):lQ P md ops Q S ds (fuel+1) l a w:=by
  subst ha
  subst hN
  simp only [takeB,Bool.and_eq_true,beq_iff_eq]at hc
  obtain⟨⟨⟨⟨⟨h1,h2⟩,h3⟩,h4⟩,h5⟩,h6⟩:=hc
  subst h6
  exact Ml hi h1 h2 h3 h4 h5 hQ hy hS h
def vC (md:Region.Mode) (ops:Array Oper) (l l':Array Bool) (i:Nat):Bool:=
  Region.noSelect ops&&Region.free md ops l i&&(Region.ready md ops l).contains i&&(l.setIfInBounds i true==l')
theorem zS {i:Nat}{N:Option Tmp}{oi:Oper}{v:Value}{fuel:Nat}{l:Array Bool}{a:Act}{w:World}(l':Array Bool) (hi:ops[i]? =some oi) (hN:oi.dst=N) (hc:vC md ops l l' i=true)
    (hQ:∀c a w,Q (.panic c) (a.put oi.dst v) w->Q (.panic c) a w) (hy:Yields P ops oi v a) {a':Act}(ha:a.put N v=a')
    (h:lQ P md ops Q S ds fuel l' a' w):lQ P md ops Q S ds (fuel+1) l a w:=by
  subst ha
  subst hN
  simp only [vC,Bool.and_eq_true,beq_iff_eq]at hc
  obtain⟨⟨⟨h1,h2⟩,h3⟩,h6⟩:=hc
  subst h6
  exact Mi hi (Region.noSelect_spec h1) hQ fuel l a w (Region.free_spec hi h2) (by simpa using h3) hy h
def uV (md:Region.Mode) (ops:Array Oper) (l l':Array Bool) (i:Nat):Bool:=(Region.ready md ops l==[i])&&(l.setIfInBounds i true==l')
theorem qz {i:Nat}{N:Option Tmp}{oi:Oper}{fuel:Nat}{l:Array Bool}{a:Act}{w:World}(l':Array Bool) (hi:ops[i]? =some oi) (hN:oi.dst=N) (hc:uV md ops l l' i=true) (hd:i∉ds)
    (h:∀K:Act->World->Prop,Shut (∀a' w',S w'->(S w'->lQ P md ops Q S ds fuel l' a' w')->K a' w')->if Region.wanted oi (yielded ops a.tmps)=true then Oper.wp P oi a w K Q else K (a.put N undef) w):
    lQ P md ops Q S ds (fuel+1) l a w:=by
  subst hN
  simp only [uV,Bool.and_eq_true,beq_iff_eq]at hc
  obtain⟨h1,h2⟩:=hc
  subst h2
  exact Co h1 (by simp) (rJ.cons hi hd (fun K hK=>h K hK) rJ.nil)
theorem Bu {i:Nat}{N:Option Tmp}{oi:Oper}{fuel:Nat}{l:Array Bool}{a:Act}{w:World}(l':Array Bool) (hi:ops[i]? =some oi) (hN:oi.dst=N) (hc:uV md ops l l' i=true) (hd:i∈ds)
    (h:∀K:Act->World->Prop,Shut (∀a' w',lQ P md ops Q S ds fuel l' a' w'->K a' w')->if Region.wanted oi (yielded ops a.tmps)=true then Oper.wp P oi a w K Q else K (a.put N undef) w):
    lQ P md ops Q S ds (fuel+1) l a w:=by
  subst hN
  simp only [uV,Bool.and_eq_true,beq_iff_eq]at hc
  obtain⟨h1,h2⟩:=hc
  subst h2
  exact Co h1 (by simp) (rJ.IA hi hd (fun K hK=>h K hK) rJ.nil)
theorem mH {l:Array Bool}{a:Act}{w:World}{n:Nat}(hr:(Region.ready md ops l==[])=true) (h:Q .normal a w):lQ P md ops Q S ds n l a w:=Mj (by simpa using hr) h n
theorem qF {i j:Nat}{Ni Nj:Option Tmp}{oi oj:Oper}{fuel:Nat}{l:Array Bool}{a:Act}{w:World}(li lj:Array Bool) (hi:ops[i]? =some oi) (hj:ops[j]? =some oj) (hNi:oi.dst=Ni) (hNj:oj.dst=Nj)
    (hc:(Region.ready md ops l==[i,j]&&l.setIfInBounds i true==li&&l.setIfInBounds j true==lj)=true) (hdi:i∉ds) (hdj:j∉ds)
    (h1:∀K:Act->World->Prop,Shut (∀a' w',S w'->(S w'->lQ P md ops Q S ds fuel li a' w')->K a' w')->if Region.wanted oi (yielded ops a.tmps)=true then Oper.wp P oi a w K Q else K (a.put Ni undef) w)
    (h2:∀K:Act->World->Prop,Shut (∀a' w',S w'->(S w'->lQ P md ops Q S ds fuel lj a' w')->K a' w')->if Region.wanted oj (yielded ops a.tmps)=true then Oper.wp P oj a w K Q else K (a.put Nj undef) w):
    lQ P md ops Q S ds (fuel+1) l a w:=by
  subst hNi
  subst hNj
  simp only [Bool.and_eq_true,beq_iff_eq]at hc
  obtain⟨⟨h3,h4⟩,h5⟩:=hc
  subst h4
  subst h5
  exact Co h3 (by simp) (rJ.cons hi hdi (fun K hK=>h1 K hK) (rJ.cons hj hdj (fun K hK=>h2 K hK) rJ.nil))
def nE:Act->List (Tmp×Value)->Act
  |a,[]=>a
  |a,(n,v)::r=>nE (a.put (some n) v) r
theorem qZ {σ:Type}{fuel:Nat}{l:Array Bool}{a:Act}{w:World}(fuel':Nat) (l':Array Bool) (ns:σ->List (Tmp×Value)) (F:σ->World->Prop)
    (hcont:∀s w',F s w'->lQ P md ops Q S ds fuel' l' (nE a (ns s)) w')
    (h:(∀s w',F s w'->lQ P md ops Q S ds fuel' l' (nE a (ns s)) w')->lQ P md ops Q S ds fuel l a w):lQ P md ops Q S ds fuel l a w:=h hcont
theorem mK {fuel:Nat}{l:Array Bool}{a a':Act}{w:World}(ha:a=a') (h:lQ P md ops Q S ds fuel l a' w):lQ P md ops Q S ds fuel l a w:=by
  subst ha
  exact h
theorem call_ {oi:Oper}{N:Option Tmp}{a:Act}{w:World}{K:Act->World->Prop}(f:FuncId) (args:Array Value) (hw:Region.wanted oi (yielded ops a.tmps)=true) (hN:oi.dst=N) (hrun:(execOp a.eval oi).run P w=.ok (.enter f args) w)
    (h:Calls P f args w fun e w'=>∃v,e=.returned v/\K (a.put N v) w'):if Region.wanted oi (yielded ops a.tmps)=true then Oper.wp P oi a w K Q else K (a.put N undef) w:=by
  rw[if_pos hw]
  subst hN
  unfold Oper.wp
  rw[hrun,Oper.upon_enter]
  refine h.mono fun e w'' hh=>?_
  obtain⟨v,rfl,hk⟩:=hh
  exact hk
theorem zF {f : FuncId} {fn : Func} (hf : P.funcs[f]? = some fn) (hname : (fn.name == "runtime.NumGoroutine") = false) (hb : fn.body.isSome = true) (args : Array Value) (w : World) : (callFunc f args).run P w = .ok (.enter f args) w := by
  have h1 : fn.name ≠ "runtime.NumGoroutine" := by simpa using hname
  obtain⟨c,hc⟩:=Option.isSome_iff_exists.1 hb
  simp[callFunc,hf,h1,hc]
theorem qg {oi : Oper} {N : Option Tmp} {a : Act} {w : World} {K : Act → World → Prop} {f : FuncId} {fn : Func} {as_ : Array Operand} {ts : Array TypeId} (hf : P.funcs[f]? = some fn) (hname : (fn.name == "runtime.NumGoroutine") = false) (hb : fn.body.isSome = true) (args : Array Value)
    (hw:Region.wanted oi (yielded ops a.tmps)=true) (hN:oi.dst=N) (hop:oi.op=.call {callee:=.value (.func f),args:=as_,argTypes:=ts}) (hargs:as_.map a.eval=args)
    (h:Calls P f args w fun e w'=>∃v,e=.returned v/\K (a.put N v) w'):if Region.wanted oi (yielded ops a.tmps)=true then Oper.wp P oi a w K Q else K (a.put N undef) w:=by
  refine call_ f args hw hN ?_ h
  have he:=zF hf hname hb args w
  unfold execOp
  simp[hop,resolve,Deferred.ofValue,invoke,Act.eval,hargs,he]
theorem sW {rest : List Oper} {oi : Oper} {a : Act} {w : World} (N : Option Tmp) (hd : oi.dst = N) (hg : oi.guard = none) {f : FuncId} {fn : Func} {as_ : Array Operand} {ts : Array TypeId} (hf : P.funcs[f]? = some fn) (hname : (fn.name == "runtime.NumGoroutine") = false) (hb : fn.body.isSome = true) (args : Array Value)
    (hop:oi.op=.call {callee:=.value (.func f),args:=as_,argTypes:=ts}) (hargs:as_.map a.eval=args)
    (h:Calls P f args w fun e w'=>∃v,e=.returned v/\wpList P ops Q rest (a.put N v) w'):wpList P ops Q (oi::rest) a w:=by
  refine wpList_plain hg fun K hK=>?_
  have he:=zF hf hname hb args w
  have hrun:(execOp a.eval oi).run P w=.ok (.enter f args) w:=by
    unfold execOp
    simp[hop,resolve,Deferred.ofValue,invoke,Act.eval,hargs,he]
  unfold Oper.wp
  rw[hrun,Oper.upon_enter]
  refine h.mono fun e w'' hh=>?_
  obtain⟨v,rfl,hk⟩:=hh
  subst hd
  exact hK _ _ hk
theorem uY {oi:Oper}{N:Option Tmp}{a:Act}{w w1:World}{v:Value}{K:Act->World->Prop}(hw:Region.wanted oi (yielded ops a.tmps)=true) (hN:oi.dst=N) (hrun:(execOp a.eval oi).run P w=.ok (.value v) w1)
    (h:K (a.put N v) w1):if Region.wanted oi (yielded ops a.tmps)=true then Oper.wp P oi a w K Q else K (a.put N undef) w:=by
  rw[if_pos hw]
  subst hN
  unfold Oper.wp
  rw[hrun]
  exact h
theorem pM {oi:Oper}{a:Act}{w w1:World}{K:Act->World->Prop}(hw:Region.wanted oi (yielded ops a.tmps)=true) (hN:oi.dst=none) (hrun:(execOp a.eval oi).run P w=.ok .skip w1)
    (h:K a w1):if Region.wanted oi (yielded ops a.tmps)=true then Oper.wp P oi a w K Q else K (a.put none undef) w:=by
  rw[if_pos hw]
  unfold Oper.wp
  rw[hrun]
  show K (a.put oi.dst undef) w1
  rw[hN]
  exact h
theorem mJ (n:Int):IntKind.i64.wrap n=Go.RowKit.wrap64 n:=by unfold Go.RowKit.wrap64;exact IntKind.wrap_i64 n
theorem nz (n:Int):IntKind.i32.wrap n=Go.RowKit.wrap32 n:=by unfold Go.RowKit.wrap32;exact IntKind.wrap_i32 n
end
end Go.Proofs.YtgeonpciodepgaaW.PrintLast
namespace Go.Proofs.YtgeonpciodepgaaW.PrintWords
open Go.RowKit
namespace Kd
def tag {α:Type}(f:Nat->Nat) (d:Kd α):Kd (α×Nat) where
  sz:=d.sz
  E:=d.E
  K:=fun w x cs=>d.K w x.1 cs
  M:=fun w base ok x cs=>d.M w base (fun k=>ok k/\f k=x.2) x.1 cs
  K_len:=fun h=>d.K_len h
  K_one:=fun h=>d.K_one h
  K_below:=fun hb h=>d.K_below hb h
  K_of_M:=fun h=>d.K_of_M h
  M_mono:=fun hok h=>d.M_mono (fun k hk=>⟨hok k hk.1,hk.2⟩) h
  M_bound:=fun h=>d.M_mono (fun _ hk=>⟨⟨hk.1.1,hk.2⟩,hk.1.2⟩) (d.M_bound h)
  M_move:=fun hm h=>d.M_move (fun k hk=>hm k hk.1) h
  M_lower:=fun hb h=>d.M_lower hb h
def bare {α:Type}(d:Kd α):Kd α where
  sz:=d.sz
  E:=d.E
  K:=d.K
  M:=fun w base _ x cs=>d.M w base (fun _=>False) x cs
  K_len:=fun h=>d.K_len h
  K_one:=fun h=>d.K_one h
  K_below:=fun hb h=>d.K_below hb h
  K_of_M:=fun h=>d.K_of_M h
  M_mono:=fun _ h=>h
  M_bound:=fun h=>h
  M_move:=fun _ h=>d.M_move (fun _ hk=>hk.elim) h
  M_lower:=fun hb h=>d.M_lower hb h
def raw (sz:Nat):Kd (List Value) where
  sz:=sz
  E:=[]
  K:=fun _ x cs=>cs=x/\cs.length=sz/\∀u∈cs,u.oneCell'=true
  M:=fun _ _ _ x cs=>cs=x/\cs.length=sz/\∀u∈cs,u.oneCell'=true
  K_len:=fun h=>h.2.1
  K_one:=fun h=>h.2.2
  K_below:=fun _ h=>h
  K_of_M:=fun h=>h
  M_mono:=fun _ h=>h
  M_bound:=fun h=>h
  M_move:=fun _ h=>h
  M_lower:=fun _ h=>h
def S {α:Type}(d:Kd α) (e:Nat) (w:World) (base:Nat) (ok:Nat->Prop) (v:Value) (xs:List α):Prop:=∃f,(tag f d).R e w base ok v xs.zipIdx
section
variable {α β:Type}{d:Kd α}{d':Kd β}{e e':Nat}{w w1 W:World}{base b:Nat}{ok ok' okv oku:Nat->Prop}{u v:Value}{xs:List α}{ys:List β}
theorem Aa {xs:List α}{j:Nat}{p:α}(h:xs[j]? =some p):xs.zipIdx[j]? =some (p,j):=by rw[List.getElem?_zipIdx,h,Nat.zero_add];rfl
theorem S_R (h:S d e w base ok v xs):d.R e w base ok v xs:=by
  obtain⟨f,h0,inner,ho,hr⟩:=h
  rw[List.length_zipIdx]at ho
  exact⟨h0,inner,ho,by have:=hr.1;rw[List.length_zipIdx]at this;exact this,fun j p hj=>d.M_mono (fun _ hk=>hk.1) (hr.2 j (p,j) (Aa hj))⟩
theorem CG {ad:Addr}{n cap:Nat}(h:d.R e w base ok (.slice (some ad) n cap) xs):∃g,ad=⟨g,0,none⟩:=by
  obtain⟨_,inner,ho,hr⟩:=h
  rcases ho.2 with⟨hv,_⟩|⟨g,cap',cur,hv,_⟩
  · cases hv
  injection hv with ha _ _
  injection ha with ha
  exact⟨g,ha⟩
theorem GU {ad:Addr}{n cap:Nat}(h:d.R e W base ok (.slice (some ad) n cap) xs) (z:α) (i:Int) (h0:0<=i) (h1:i<n):
    ∃c,c.length=d.sz/\d.M W base (fun k=>ok k/\some k≠(Value.slice (some ad) n cap).ownBlock) (xs.getD i.toNat z) c/\∀j u,c[j]? =some u->W.cell? (ad.add (i.toNat*d.sz+j))=some u:=by
  obtain⟨g,rfl⟩:=CG h
  obtain⟨c,hcl,hM,hcc,_⟩:=Aj h z i h0 h1
  refine⟨c,hcl,d.M_mono (fun k hk=>⟨hk.1,fun he=>hk.2 (by simpa [Value.ownBlock] using he)⟩) hM,fun j u hu=>?_⟩
  rw[sO,Nat.zero_add]
  exact hcc j u hu
theorem Mx (h:d.R e w base ok v xs):v.cells.toList=[v]/\v.oneCell'=true:=by
  obtain⟨A,c,rfl⟩:=kM h
  exact⟨rfl,rfl⟩
theorem Au (hE:d.E=[]) (h:d.R e w base ok v xs):d.R e w base (fun k=>some k=v.ownBlock) v xs:=by
  obtain⟨h0,inner,ho,hr⟩:=h
  refine⟨fun k hk=>hk.symm,inner,ho,hr.p8 (fun p c hp=>d.M_mono (fun k hk=>?_) (d.M_bound hp))⟩
  obtain⟨_,_,_,q,hq,_⟩:=hk
  rw[hE]at hq
  cases hq
theorem vw (d:Kd α) (e:Nat) (w:World) (base:Nat) (ok:Nat->Prop):S d e w base ok (.slice none 0 0) []:=⟨fun _=>0,sN _ _ _ _ _⟩
theorem rW (h:S d e w base ok v xs) (hok:∀k,ok k->ok' k):S d e w base ok' v xs:=by
  obtain⟨f,h⟩:=h
  exact⟨f,kv h hok⟩
theorem G6 (h:S d e w base ok v xs):S d e w base (fun k=>ok k/\base<=k/\k<w.heap.size/\∃q,q∈e::d.E/\∃cells,w.heap[k]? =some (.cells cells q (0,0))) v xs:=by
  obtain⟨f,h⟩:=h
  exact⟨f,su h⟩
theorem G8 (h:S d e w base ok v xs) (hm:∀k,ok k->w1.heap[k]? =w.heap[k]?):S d e w1 base ok v xs:=by
  obtain⟨f,h⟩:=h
  exact⟨f,wE h hm⟩
theorem sD {base':Nat}(h:S d e w base ok v xs) (hb:base'<=base):S d e w base' ok v xs:=by
  obtain⟨f,h⟩:=h
  exact⟨f,kU h hb⟩
theorem CP (h:S d e w base ok v xs) (hm:∀k,ok k->k<w.heap.size->w1.heap[k]? =w.heap[k]?):S d e w1 base ok v xs:=
  rW (G8 (G6 h) (fun k hk=>hm k hk.1 hk.2.2.1)) (fun _ hk=>hk.1)
theorem oD (h:S d e w base ok v xs) (hb:Below w.heap.size w w1):S d e w1 base ok v xs:=CP h (fun k _ hk=>hb.block k hk)
theorem pG (h:S d e w base ok v xs) (o:Obj):S d e (w.alloc o) base ok v xs:=oD h (pJ (Below.refl _ _) o)
theorem oL (h:S d e w base ok v xs):S d e w.drew base ok v xs:=oD h (xw (Below.refl _ _))
theorem pI (h:S d e w base ok v xs) (m:Nat):S d e (w.drewN m) base ok v xs:=oD h (qb (Below.refl _ _) m)
theorem vo (h:S d e w base ok v xs) {p:Addr}(hok:∀k,ok k->k≠p.block) (u:Value):S d e (w.setCell p u) base ok v xs:=CP h (fun k ho _=>Below.heap_setCell w p u k (hok k ho))
theorem yL (h:S d e w base ok v xs) {g t:Nat}{cells:Array Value}(hb:w.heap[g]? =some (.cells cells t (0,0))) (ht:∀q,q∈e::d.E->q≠t):S d e w base (fun k=>ok k/\k≠g) v xs:=by
  obtain⟨f,h⟩:=h
  exact⟨f,lG h hb ht⟩
theorem t_ (h:S d e w base ok v xs):∀k,v.ownBlock=some k->∃cells,w.heap[k]? =some (.cells cells e (0,0)):=pF (S_R h)
theorem wI (h:S d e w base ok v xs):∀k,v.ownBlock=some k->k<w.heap.size:=lg (S_R h)
theorem wH (h:S d e w base ok v xs):∀k,v.ownBlock=some k->base<=k:=qO (S_R h)
theorem yK (h:S d e W base ok u xs) (hty:∀k,v.ownBlock=some k->∃cells,W.heap[k]? =some (.cells cells e' (0,0))) (ht:∀q,q∈e::d.E->q≠e') (hg:W.grownBy w1 v.ownBlock):S d e w1 base ok u xs:=by
  obtain⟨f,h⟩:=h
  exact⟨f,pq h hty ht hg⟩
theorem MU (h:S d e W base ok u xs) (hty:∀k,v.ownBlock=some k->∃cells,W.heap[k]? =some (.cells cells e' (0,0))) (ht:∀q,q∈e::d.E->q≠e'):S d e W base (fun k=>ok k/\some k≠v.ownBlock) u xs:=by
  obtain⟨f,h⟩:=h
  exact⟨f,yD h hty ht⟩
theorem rC (h:S d e W base ok u xs) (hbase:∀k,v.ownBlock=some k->W.heap.size<=k) (hb:Below W.heap.size W w1):S d e w1 base (fun k=>ok k/\some k≠v.ownBlock) u xs:=by
  obtain⟨f,h⟩:=h
  exact⟨f,Ai h hbase hb⟩
theorem vv (h:S d e w1 W.heap.size ok v xs) (hlt:∀k,u.ownBlock=some k->k<W.heap.size):S d e w1 W.heap.size (fun k=>ok k/\some k≠u.ownBlock) v xs:=by
  obtain⟨f,h⟩:=h
  exact⟨f,lK h hlt⟩
theorem Av {v1:Value}(h:S d e W base (fun k=>ok k/\some k≠v.ownBlock) u xs) (hg:W.grownBy w1 v.ownBlock) (hat:v1.ownBlock=v.ownBlock\/∃b,v1.ownBlock=some b/\W.heap.size<=b):S d e w1 base (fun k=>ok k/\some k≠v1.ownBlock) u xs:=by
  obtain⟨f,h⟩:=h
  exact⟨f,oO h hg hat⟩
theorem G5 (h:(bare d).R e w base ok v xs):S d e w base ok v xs:=by
  obtain⟨h0,inner,ho,hr⟩:=h
  refine⟨fun _=>0,h0,inner,by rw[List.length_zipIdx];exact ho,by rw[List.length_zipIdx];exact hr.1,fun j p hj=>?_⟩
  rw[List.getElem?_zipIdx,Nat.zero_add]at hj
  obtain⟨x,hx,rfl⟩:=Option.map_eq_some_iff.1 hj
  exact d.M_mono (fun _ hk=>hk.elim) (hr.2 j x hx)
theorem GZ {f f':Nat->Nat}{zs:List (α×Nat)}(h:(tag f d).R e w base ok v zs) (hf:∀k,ok k->k<w.heap.size->f' k=f k):(tag f' d).R e w base ok v zs:=by
  obtain⟨h0,inner,ho,hr⟩:=su h
  exact⟨fun k hk=>(h0 k hk).1,inner,ho,hr.1,fun j p hj=>d.M_mono (fun k hk=>⟨⟨hk.1.1.1,hk.1.2⟩,(hf k hk.1.1.1 hk.1.1.2.2.1).trans hk.2⟩) (hr.2 j p hj)⟩
end
section
variable {α β:Type}{d:Kd α}{d':Kd β}{e e' g:Nat}{w w1 W:World}{base b:Nat}{ok ok' okv oku:Nat->Prop}{u v:Value}{xs:List α}{ys:List β}
theorem yJ (h:S d e w base ok v xs) {t:Nat}{cells:Array Value}(hb:w.heap[g]? =some (.cells cells t (0,0))) (ht:e≠t):some g≠v.ownBlock:=lS (S_R h) hb ht
theorem MV (h:S d e w base ok v xs) (hp:0<xs.length):∃g cap,v=.slice (some ⟨g,0,none⟩) xs.length cap/\base<=g/\g<w.heap.size/\∃cells,w.heap[g]? =some (.cells cells e (0,0)):=wD (S_R h) hp
theorem vz (h:S d e w base ok v xs):∃A c,v=.slice A xs.length c:=kM (S_R h)
theorem qX {A:Option Addr}{n c:Nat}(h:S d e w base ok (.slice A n c) xs):n=xs.length/\n<=c/\d.C w A xs.length xs:=ku (S_R h)
theorem MC {ad:Addr}{n cap:Nat}(h:S d e W base ok (.slice (some ad) n cap) xs) (z:α) (i:Int) (h0:0<=i) (h1:i<n):
    ∃c,c.length=d.sz/\d.M W base (fun k=>ok k/\some k≠(Value.slice (some ad) n cap).ownBlock) (xs.getD i.toNat z) c/\∀j u,c[j]? =some u->W.cell? (ad.add (i.toNat*d.sz+j))=some u:=GU (S_R h) z i h0 h1
theorem Ms (xs:List α) (p:α):(xs++[p]).zipIdx=xs.zipIdx++[(p,xs.length)]:=by rw[List.zipIdx_append];simp
end
section
open Classical in
theorem G9 {α:Type}{d:Kd α}{e base:Nat}{okv:Nat->Prop}{w:World}{v:Value}{xs:List α}(h:S d e w base okv v xs) (m:Nat) (okp:Nat->Prop) (hap:∀k,okp k->¬okv k):∃f,(∀k,okp k->f k=m)/\(tag f d).R e w base okv v xs.zipIdx:=by
  obtain⟨f,h⟩:=h
  exact⟨fun k=>if okp k then m else f k,fun k hk=>if_pos hk,GZ h (fun k hk _=>if_neg (fun h2=>hap k h2 hk))⟩
variable {P:Program}{ops:Array Oper}{rest:List Oper}{o:Oper}{a:Act}{Q:Exit->Act->World->Prop}{Kc:Act->World->Prop}{α:Type}
theorem CO (d:Kd α) {w0 W:World}(base:Nat) (hgd:o.guard=none) (s x:Operand) (t e:TypeId) (z:Value) (bytes:Nat)
    (ho:o.op=.call {callee:=.builtin .append,args:= #[s,x],argTypes:= #[t,t]})
    (ht:P.underlying t=some (.slice e)) (hinfo:(P.info? e).map (fun i=>(i.zero,i.size,i.bytes))=some (some z,d.sz,bytes)) (hz:z.cells.size=d.sz) (hs0:0<d.sz) (hb0:0<bytes)
    (v:Value) (xs:List α) (p:α) (cs:List Value) (ok okp:Nat->Prop) (hs:a.eval s=v) (hx:a.eval x=.slice (some ⟨W.heap.size,0,none⟩) 1 1) (hp:d.M W base okp p cs) (qo:∀k,okp k->ok k/\some k≠v.ownBlock) (hfresh:∀k,W.heap.size<=k->ok k)
    (HO:S d e W base (fun k=>ok k/\¬okp k) v xs) (HB:Below base w0 W) (hbase:base<=W.heap.size) (hl:(xs.length+1)*bytes<=140737488355328)
    (h:∀v1 w1,S d e w1 base ok v1 (xs++[p])->Below base w0 w1->W.grownBy w1 v.ownBlock->(v1.ownBlock=v.ownBlock\/∃b,v1.ownBlock=some b/\W.heap.size<=b)->wpList P ops Q rest (a.put o.dst v1) w1):
    wpList P ops Q (o::rest) a (W.alloc (.cells cs.toArray e)):=by
  obtain⟨f,hf,hR⟩:=G9 HO xs.length okp (fun _ hk h2=>h2.2 hk)
  refine qc (tag f d) base hgd s x t e z bytes ho ht hinfo hz hs0 hb0 v xs.zipIdx (p,xs.length) cs ok okp hs hx (d.M_mono (fun k hk=>⟨hk,hf k hk⟩) hp) qo hfresh (kv hR (fun _ hk=>hk.1)) HB hbase (by rw[List.length_zipIdx];exact hl) ?_
  intro v1 w1 hr
  rw[←Ms]at hr
  exact h v1 w1 ⟨f,hr⟩
theorem yI (d:Kd α) {w0 W:World}(base e:Nat) (hgd:o.guard=none) {N:Tmp}(_hd:o.dst=some N) {xs:List α}{inner:List Value}{ok okp:Nat->Prop}
    (hrun:(execOp a.eval o).run P W=.ok (.value (.slice (some ⟨W.heap.size,0,none⟩) xs.length xs.length)) (W.alloc (.cells inner.toArray e)))
    (hrep:kT (d.M W base (fun _=>False)) d.sz xs inner) (_hok:∀k,okp k->ok k) (hfresh:ok W.heap.size) (HB:Below base w0 W) (hbase:base<=W.heap.size) (hm:xs.length<=9223372036854775807)
    (h:∀v1 w1,S d e w1 base ok v1 xs->Below base w0 w1->W.grownBy w1 none->(∃b,v1.ownBlock=some b/\W.heap.size<=b)->wpList P ops Q rest (a.put o.dst v1) w1):wpList P ops Q (o::rest) a W:=
  Ak (bare d) base e hgd _hd (ok:=ok) (okp:=ok) hrun hrep (fun _ hk=>hk) hfresh HB hbase hm (fun v1 w1 hr=>h v1 w1 (G5 hr))
end
def gap {α:Type}(f:Nat->Nat) (d:Kd α) (i:Nat) (c:List Value):Kd (α×Nat) where
  sz:=d.sz
  E:=d.E
  K:=fun w x cs=>(x.2=i->cs=c/\cs.length=d.sz/\∀u∈cs,u.oneCell'=true)/\(x.2≠i->d.K w x.1 cs)
  M:=fun w base ok x cs=>(x.2=i->cs=c/\cs.length=d.sz/\∀u∈cs,u.oneCell'=true)/\(x.2≠i->d.M w base (fun k=>ok k/\f k=x.2) x.1 cs)
  K_len:=fun{w x cs} h=>by
    by_cases hx:x.2=i
    · exact(h.1 hx).2.1
    exact d.K_len (h.2 hx)
  K_one:=fun{w x cs} h=>by
    by_cases hx:x.2=i
    · exact(h.1 hx).2.2
    exact d.K_one (h.2 hx)
  K_below:=fun hb h=>⟨h.1,fun hx=>d.K_below hb (h.2 hx)⟩
  K_of_M:=fun h=>⟨h.1,fun hx=>d.K_of_M (h.2 hx)⟩
  M_mono:=fun hok h=>⟨h.1,fun hx=>d.M_mono (fun k hk=>⟨hok k hk.1,hk.2⟩) (h.2 hx)⟩
  M_bound:=fun h=>⟨h.1,fun hx=>d.M_mono (fun _ hk=>⟨⟨hk.1.1,hk.2⟩,hk.1.2⟩) (d.M_bound (h.2 hx))⟩
  M_move:=fun hm h=>⟨h.1,fun hx=>d.M_move (fun k hk=>hm k hk.1) (h.2 hx)⟩
  M_lower:=fun hb h=>⟨h.1,fun hx=>d.M_lower hb (h.2 hx)⟩
def H {α:Type}(d:Kd α) (e:Nat) (w:World) (base:Nat) (ok:Nat->Prop) (v:Value) (xs:List α) (i:Int) (oki:Nat->Prop) (c:List Value):Prop:=
  (∀k,oki k->ok k)/\∃f,(gap f d i.toNat c).R e w base (fun k=>ok k/\¬oki k) v xs.zipIdx
section
variable {α β:Type}{d:Kd α}{e e' g n cap:Nat}{w w1 W:World}{base:Nat}{ok ok' oki okp:Nat->Prop}{u v:Value}{xs:List α}{i:Int}{c:List Value}
theorem G7 (h:S d e W base ok (.slice (some ⟨g,0,none⟩) n cap) xs) (z:α) (i:Int) (h0:0<=i) (h1:i<n):
    ∃ (oki:Nat->Prop) (c:List Value),c.length=d.sz/\d.M W base oki (xs.getD i.toNat z) c/\(∀j u,c[j]? =some u->W.cell? ⟨g,i.toNat*d.sz+j,none⟩=some u)/\(∀k,oki k->ok k/\k≠g)/\H d e W base ok (.slice (some ⟨g,0,none⟩) n cap) xs i oki c:=by
  obtain⟨f,hR⟩:=h
  have hn:=(ku hR).1
  rw[List.length_zipIdx]at hn
  have hgo:some g=(Value.slice (some ⟨g,0,none⟩) n cap).ownBlock:=by simp[Value.ownBlock]
  obtain⟨hok0,inner,ho,hr⟩:=hR
  have hil:i.toNat<xs.length:=by omega
  have hlen:inner.length=xs.length*d.sz:=by have:=hr.1;rw[List.length_zipIdx]at this;exact this
  have hseg:i.toNat*d.sz+d.sz<=inner.length:=by rw[hlen,←Nat.succ_mul];exact Nat.mul_le_mul_right _ hil
  have hM:=hr.2 i.toNat _ (Aa (List.getElem?_eq_getElem hil))
  have hkg:∀k,some k≠(Value.slice (some ⟨g,0,none⟩) n cap).ownBlock->k≠g:=fun k hk he=>hk (by rw[he];exact hgo)
  refine⟨fun k=>(ok k/\k≠g)/\f k=i.toNat,(inner.drop (i.toNat*d.sz)).take d.sz,by rw[List.length_take,List.length_drop];omega,?_,fun j u hu=>?_,fun k hk=>hk.1,fun k hk=>hk.1.1,f,fun k hk=>⟨hok0 k hk,fun h2=>h2.1.2 ?_⟩,inner,ho,hr.1,fun m p hm=>?_⟩
  · rw[List.getD_eq_getElem?_getD,List.getElem?_eq_getElem hil]
    exact d.M_mono (fun k hk=>⟨⟨hk.1.1,hkg k hk.1.2⟩,hk.2⟩) hM
  · rw[List.getElem?_take]at hu
    split at hu
    · rw[List.getElem?_drop]at hu
      have:=ho.cells (g:=g) hgo.symm _ u hu
      rwa [add_plain]at this
    cases hu
  · rw[←hgo]at hk;injection hk with hk;exact hk.symm
  have hold:=hr.2 m p hm
  have hp2:p.2=m:=by
    rw[List.getElem?_zipIdx,Nat.zero_add]at hm
    obtain⟨q,_,rfl⟩:=Option.map_eq_some_iff.1 hm
    rfl
  refine⟨fun hx=>?_,fun hx=>d.M_mono (fun k hk=>⟨⟨⟨hk.1.1,fun h2=>hx ?_⟩,hk.1.2⟩,hk.2⟩) hold⟩
  · have hmi:m=i.toNat:=by omega
    subst hmi
    exact⟨rfl,d.K_len (d.K_of_M hM),d.K_one (d.K_of_M hM)⟩
  rw[←hk.2];exact h2.2
open Classical in
theorem GH (h:H d e w base ok v xs i oki c) {x':α}(hM:d.M w base okp x' c) (hok:∀k,okp k->oki k):S d e w base ok v (xs.set i.toNat x'):=by
  obtain⟨ho,f,h0,inner,hown,hr⟩:=h
  refine⟨fun k=>if oki k then i.toNat else f k,fun k hk=>(h0 k hk).1,inner,by rw[List.length_zipIdx,List.length_set];rw[List.length_zipIdx]at hown;exact hown,by have:=hr.1;rw[List.length_zipIdx]at this;rw[List.length_zipIdx,List.length_set];exact this,fun m p hm=>?_⟩
  rw[List.getElem?_zipIdx,Nat.zero_add]at hm
  obtain⟨q,hq,rfl⟩:=Option.map_eq_some_iff.1 hm
  have hml:m<xs.length:=by
    have:=(List.getElem?_eq_some_iff.1 hq).1
    rwa [List.length_set]at this
  by_cases hmi:m=i.toNat
  · subst hmi
    rw[List.getElem?_set_self hml]at hq
    injection hq with hq
    subst hq
    have hc:=((hr.2 i.toNat _ (Aa (List.getElem?_eq_getElem hml))).1 rfl).1
    show d.M w base _ x' ((inner.drop (i.toNat*d.sz)).take d.sz)
    rw[show(inner.drop (i.toNat*d.sz)).take d.sz=c from hc]
    exact d.M_mono (fun k hk=>⟨⟨ho k (hok k hk),fun he=>(h0 k he.symm).2 (hok k hk)⟩,if_pos (hok k hk)⟩) hM
  rw[List.getElem?_set_ne (Ne.symm hmi)]at hq
  exact d.M_mono (fun k hk=>⟨⟨hk.1.1.1,hk.1.2⟩,(if_neg hk.1.1.2).trans hk.2⟩) ((hr.2 m (q,m) (Aa hq)).2 hmi)
theorem GJ (h:H d e w base ok v xs i oki c) (hm:∀k,ok k->¬oki k->k<w.heap.size->w1.heap[k]? =w.heap[k]?):H d e w1 base ok v xs i oki c:=by
  obtain⟨ho,f,h⟩:=h
  exact⟨ho,f,wG h (fun k hk hlt=>hm k hk.1 hk.2 hlt)⟩
theorem GI (h:H d e w base ok v xs i oki c) {row:Option Nat}(hg:w.grownBy w1 row) (hrow:∀k,row=some k->oki k):H d e w1 base ok v xs i oki c:=
  GJ h (fun k _ hn hlt=>hg.block k hlt (fun he=>hn (hrow k he.symm)))
theorem MB {ad:Addr}(h:S d e W base ok (.slice (some ad) n cap) xs) (z:α) (i:Int) (h0:0<=i) (h1:i<n):
    ∃ (oki:Nat->Prop) (c:List Value),c.length=d.sz/\d.M W base oki (xs.getD i.toNat z) c/\(∀j u,c[j]? =some u->W.cell? (ad.add (i.toNat*d.sz+j))=some u)/\(∀k,oki k->ok k/\some k≠(Value.slice (some ad) n cap).ownBlock)/\
      ∀ {w1:World}{row:Option Nat}{x':α},W.grownBy w1 row->(∀k,row=some k->oki k)->d.M w1 base oki x' c->S d e w1 base ok (.slice (some ad) n cap) (xs.set i.toNat x'):=by
  obtain⟨g,rfl⟩:=CG (S_R h)
  obtain⟨oki,c,hcl,hM,hcc,hoki,hH⟩:=G7 h z i h0 h1
  refine⟨oki,c,hcl,hM,fun j u hu=>?_,fun k hk=>⟨(hoki k hk).1,fun he=>(hoki k hk).2 ?_⟩,fun hg hrow hM1=>GH (GI hH hg hrow) hM1 (fun _ hk=>hk)⟩
  · rw[sO,Nat.zero_add]
    exact hcc j u hu
  simpa [Value.ownBlock] using he
end
end Kd
end Go.Proofs.YtgeonpciodepgaaW.PrintWords
namespace Go.Proofs.YtgeonpciodepgaaW.PrintWords
open Go.RowKit
namespace Kd
structure Heap {α:Type}(d:Kd α):Prop where
  K:∀ {w w1:World}{x:α}{cs:List Value},(∀k,k<w.heap.size->w1.heap[k]? =w.heap[k]?)->d.K w x cs->d.K w1 x cs
theorem Iq {w w1:World}(hb:∀k,k<w.heap.size->w1.heap[k]? =w.heap[k]?) {a:Addr}{v:Value}(h:w.cell? a=some v):w1.cell? a=some v:=by
  have:=hb a.block (World.block_lt_of_cell? w a h)
  simpa [World.cell?,this] using h
theorem Heap.C {α:Type}{d:Kd α}(hd:Heap d) {w w1:World}{A:Option Addr}{n:Nat}{xs:List α}(hb:∀k,k<w.heap.size->w1.heap[k]? =w.heap[k]?) (h:d.C w A n xs):d.C w1 A n xs:=
  ⟨h.1,h.2.1,fun hn=>by
    obtain⟨ad,e,hc⟩:=h.2.2 hn
    refine⟨ad,e,fun j p hj=>?_⟩
    obtain⟨c,hs,hr,hcell⟩:=hc j p hj
    exact⟨c,hs,hd.K hb hr,fun i u hu=>Iq hb (hcell i u hu)⟩⟩
section
variable {α:Type}{d:Kd α}{e base g n c:Nat}{ok:Nat->Prop}{w w0 W:World}{A:Option Addr}{xs:List α}
theorem Gt (h:d.R e W base ok (.slice A n c) xs) (hok:∀k,ok k->k≠g):∀W',kZ W W' g none->d.C W' A n xs:=fun W' hk=>by
  have h2:=ku (nK h hk hok)
  rw[h2.1]
  exact h2.2.2
theorem uZ (h:∀W',kZ w W' g none->d.C W' A n xs) (hk:kZ w W g none):d.C W A n xs:=h W hk
end
end Kd
end Go.Proofs.YtgeonpciodepgaaW.PrintWords
namespace Go.Proofs.YtgeonpciodepgaaW.PrintWords
open Go.RowKit
def Kept (w W:World) (S:Nat->Prop):Prop:=w.heap.size<=W.heap.size/\∀i,i<w.heap.size->¬S i->W.heap[i]? =w.heap[i]?
section
variable {w W W2:World}{S S2 S':Nat->Prop}
theorem Kept.refl (w:World) (S:Nat->Prop):Kept w w S:=⟨Nat.le_refl _,fun _ _ _=>rfl⟩
theorem Kept.of_below (h:Below w.heap.size w W) (S:Nat->Prop):Kept w W S:=⟨h.size,fun i hi _=>h.block i hi⟩
theorem Kept.mono (h:Kept w W S) (hs:∀k,S k->S' k):Kept w W S':=⟨h.1,fun i hi hn=>h.2 i hi (fun hk=>hn (hs i hk))⟩
theorem Kept.Cc (h:Kept w W S) (k:Kept W W2 S2) (hs:∀k,S2 k->S k\/w.heap.size<=k):Kept w W2 S:=
  ⟨Nat.le_trans h.1 k.1,fun i hi hn=>(k.2 i (Nat.lt_of_lt_of_le hi h.1) (fun h2=>(hs i h2).elim hn (fun h3=>by omega))).trans (h.2 i hi hn)⟩
theorem Kept.wX {row:Option Nat}(hg:W.grownBy W2 row) (h:Kept w W S) (hr:∀k,row=some k->S k\/w.heap.size<=k):Kept w W2 S:=
  h.Cc (S2:=fun k=>row=some k) ⟨hg.size,fun i hi hn=>hg.block i hi (fun he=>hn he.symm)⟩ hr
theorem Kept.below (h:Kept w W S) (hb:Below W.heap.size W W2):Kept w W2 S:=h.Cc (Kept.of_below hb (fun _=>False)) (fun _ hk=>hk.elim)
theorem Kept.alloc (h:Kept w W S) (o:Obj):Kept w (W.alloc o) S:=h.below (pJ (Below.refl _ _) o)
theorem Kept.drew (h:Kept w W S):Kept w W.drew S:=h
theorem Kept.drewN (h:Kept w W S) (m:Nat):Kept w (W.drewN m) S:=h
theorem Kept.setCell (h:Kept w W S) {p:Addr}(hp:S p.block\/w.heap.size<=p.block) (u:Value):Kept w (W.setCell p u) S:=
  h.Cc (S2:=fun k=>k=p.block) ⟨by simp[World.setCell],fun i _ hn=>Below.heap_setCell W p u i hn⟩ (fun k hk=>by rw[hk];exact hp)
theorem Kept.keep {g:Nat}(h:kZ w W g none) (k:Kept W W2 S2) (hs:∀k,S2 k->w.heap.size<=k):kZ w W2 g none:=
  ⟨Nat.le_trans h.1 k.1,fun i hi hg hr=>(k.2 i (Nat.lt_of_lt_of_le hi h.1) (fun h2=>by have:=hs i h2;omega)).trans (h.2 i hi hg hr)⟩
theorem H8 {g:Nat}{o:Obj}(hb:W.heap[g]? =some o) (hk:Kept W W2 S) (hne:¬S g):W2.heap[g]? =some o:=(hk.2 g (lL hb) hne).trans hb
end
namespace Kd
section
variable {α:Type}{d:Kd α}{e base n c:Nat}{ok oki S S2:Nat->Prop}{w w0 W W1 W2:World}{v:Value}{A:Option Addr}{xs:List α}{i:Int}{cs:List Value}
theorem MO (h:d.R e W base ok v xs) (hk:Kept W W2 S) (hne:∀k,ok k->¬S k):d.R e W2 base ok v xs:=wG h (fun k ho hlt=>hk.2 k hlt (hne k ho))
theorem MP (h:Kd.S d e W base ok v xs) (hk:Kept W W2 S) (hne:∀k,ok k->¬S k):Kd.S d e W2 base ok v xs:=CP h (fun k ho hlt=>hk.2 k hlt (hne k ho))
end
end Kd
end Go.Proofs.YtgeonpciodepgaaW.PrintWords
namespace Go.Proofs.YtgeonpciodepgaaW.PrintWords
open Go.RowKit
def qV (P:World->Prop) (W:World) (ok:Nat->Prop):Prop:=∀W':World,(∀k,ok k->k<W.heap.size->W'.heap[k]? =W.heap[k]?)->P W'
theorem JC {W W1:World}{k:Nat}(h:W1.heap[k]? =W.heap[k]?) (hlt:k<W.heap.size):k<W1.heap.size:=by
  rw[Array.getElem?_eq_getElem hlt]at h
  exact(Array.getElem?_eq_some_iff.1 h).1
namespace qV
variable {P Q:World->Prop}{W W1:World}{ok ok':Nat->Prop}
theorem now (h:qV P W ok):P W:=h W (fun _ _ _=>rfl)
theorem mono (h:qV P W ok) (hok:∀k,ok k->ok' k):qV P W ok':=fun W' hW=>h W' (fun k hk hlt=>hW k (hok k hk) hlt)
theorem bound (h:qV P W ok):qV P W (fun k=>ok k/\k<W.heap.size):=fun W' hW=>h W' (fun k hk hlt=>hW k ⟨hk,hlt⟩ hlt)
theorem step (h:qV P W ok) (hm:∀k,ok k->k<W.heap.size->W1.heap[k]? =W.heap[k]?):qV P W1 ok:=fun W' hW=>h W' (fun k hk hlt=>(hW k hk (JC (hm k hk hlt) hlt)).trans (hm k hk hlt))
theorem imp (h:qV P W ok) (hi:∀W',P W'->Q W'):qV Q W ok:=fun W' hW=>hi W' (h W' hW)
theorem old (h:qV P W ok) (hb:Below W.heap.size W W1):qV P W1 (fun k=>ok k/\k<W.heap.size):=(h.bound).step (fun k _ hlt=>hb.block k hlt)
end qV
namespace Kd
def F {α:Type}(d:Kd α) (W:World) (ok:Nat->Prop) (A:Option Addr) (n:Nat) (xs:List α):Prop:=qV (fun W=>d.C W A n xs) W ok
def FK {α:Type}(d:Kd α) (W:World) (ok:Nat->Prop) (x:α) (c:List Value):Prop:=qV (fun W=>d.K W x c) W ok
section
variable {α β:Type}{d:Kd α}{e base n n' cc g N:Nat}{ok ok' okp S:Nat->Prop}{w w0 w1 W W1:World}{A A':Option Addr}{u v v1:Value}{xs:List α}{xs':List β}{d':Kd β}{x:α}{c:List Value}
theorem Cr (h:F d W ok A n xs) (hok:∀k,ok k->ok' k):F d W ok' A n xs:=qV.mono h hok
theorem GD (h:F d W ok A n xs) (hm:∀k,ok k->k<W.heap.size->W1.heap[k]? =W.heap[k]?):F d W1 ok A n xs:=qV.step h hm
theorem yA (h:F d W ok A n xs) (hb:Below W.heap.size W W1):F d W1 ok A n xs:=GD h (fun k _ hlt=>hb.block k hlt)
theorem Gw (h:F d W ok A n xs) (o:Obj):F d (W.alloc o) ok A n xs:=yA h (pJ (Below.refl _ _) o)
theorem Gx (h:F d W ok A n xs):F d W.drew ok A n xs:=yA h (xw (Below.refl _ _))
theorem Gy (h:F d W ok A n xs) (m:Nat):F d (W.drewN m) ok A n xs:=yA h (qb (Below.refl _ _) m)
theorem GA (d:Kd α) (W:World) (ok:Nat->Prop):F d W ok none ([]:List α).length []:=fun W' _=>Gu d W'
theorem Gz (h:F d W ok A n xs) (hbase:∀k,v.ownBlock=some k->W.heap.size<=k) (hb:Below W.heap.size W W1):F d W1 (fun k=>ok k/\some k≠v.ownBlock) A n xs:=
  Cr (qV.old h hb) (fun k hk=>⟨hk.1,fun he=>by have:=hbase k he.symm;have:=hk.2;omega⟩)
theorem R_F (h:d.R e W base ok (.slice A n cc) xs):F d W ok A n xs:=fun W' hW=>by
  have h2:=ku (wG h hW)
  rw[h2.1]
  exact h2.2.2
theorem Gv (h:d.M W base ok x c):FK d W ok x c:=fun _ hW=>d.K_of_M (Cu h hW)
end
end Kd
end Go.Proofs.YtgeonpciodepgaaW.PrintWords
namespace Go.Proofs.YtgeonpciodepgaaW.PrintWords
open Go.RowKit
namespace Kd
def chunks (sz:Nat) (n:Nat) (inner:List Value):List (List Value):=(List.range n).map fun j=>(inner.drop (j*sz)).take sz
theorem xP (sz n:Nat) (inner:List Value):(chunks sz n inner).length=n:=by simp[chunks]
theorem Ir {sz n:Nat}{inner:List Value}{j:Nat}(hj:j<n):(chunks sz n inner)[j]? =some ((inner.drop (j*sz)).take sz):=by simp[chunks,hj]
theorem Ew {sz n:Nat}{inner:List Value}{j:Nat}{c:List Value}(h:(chunks sz n inner)[j]? =some c):c=(inner.drop (j*sz)).take sz:=by
  have hj:j<n:=by have:=(List.getElem?_eq_some_iff.1 h).1;rwa [xP]at this
  rw[Ir hj]at h
  injection h with h
  exact h.symm
theorem Lc {α:Type}{Rr:α->List Value->Prop}{sz:Nat}{xs:List α}{inner:List Value}(h:kT Rr sz xs inner) (hR:∀x c,Rr x c->c.length=sz/\∀u∈c,u.oneCell'=true):kT (fun x cs=>cs=x/\cs.length=sz/\∀u∈cs,u.oneCell'=true) sz (chunks sz xs.length inner) inner:=by
  refine⟨by rw[xP];exact h.1,fun j p hj=>?_⟩
  have hjl:j<xs.length:=by have:=(List.getElem?_eq_some_iff.1 hj).1;rwa [xP]at this
  have hp:=Ew hj
  exact⟨hp.symm,hR _ _ (h.2 j _ (List.getElem?_eq_getElem hjl))⟩
section
variable {α:Type}{d:Kd α}{e base n cc g:Nat}{ok ok' okp S:Nat->Prop}{w w1 W W1:World}{A:Option Addr}{u v v1:Value}{xs:List α}{x:α}{c:List Value}
def N {α:Type}(d:Kd α) (e:Nat) (w:World) (base:Nat) (ok:Nat->Prop) (v:Value) (xs:List α):Prop:=
  (∀k,v.ownBlock=some k->ok k)/\∃rows:List (List Value),rows.length=xs.length/\(raw d.sz).R e w base (fun k=>some k=v.ownBlock) v rows/\∀ (j:Nat) (x:α) (c:List Value),xs[j]? =some x->rows[j]? =some c->FK d w (fun k=>ok k/\some k≠v.ownBlock) x c
theorem R_N (h:d.R e w base ok v xs):N d e w base ok v xs:=by
  obtain⟨h0,inner,ho,hr⟩:=h
  refine⟨h0,chunks d.sz xs.length inner,xP _ _ _,⟨fun k hk=>hk.symm,inner,by rw[xP];exact ho,Lc hr (fun x c hp=>⟨d.K_len (d.K_of_M hp),d.K_one (d.K_of_M hp)⟩)⟩,fun j x c hx hc=>?_⟩
  rw[Ew hc]
  exact Gv (hr.2 j x hx)
theorem u_ (d:Kd α) (e:Nat) (w:World) (base:Nat) (ok:Nat->Prop):N d e w base ok (.slice none 0 0) []:=R_N (sN _ _ _ _ _)
theorem Mv (h:N d e w base ok v xs) {t:Nat}{cells:Array Value}(hb:w.heap[g]? =some (.cells cells t (0,0))) (ht:e≠t):some g≠v.ownBlock:=by
  obtain⟨_,rows,_,hR,_⟩:=h
  exact lS hR hb ht
end
end Kd
end Go.Proofs.YtgeonpciodepgaaW.PrintWords
namespace Go.Proofs.YtgeonpciodepgaaW.PrintWords
open Go.RowKit
section
variable {P:Program}{d:Nat}{xs ys:Array Value}{f:Field}{fs:List Field}{a b:Value}{r s:Bool}{w:World}
theorem EN (hn : (f.name == "_") = false) (ha : (part f.type xs f.offset).run P w = .ok a w) (hb : (part f.type ys f.offset).run P w = .ok b w) (he : (Op.equalIn d f.type a b).run P w = .ok r w) : (Op.eqFields d xs ys [f]).run P w = .ok r w := by
  have hn' : f.name ≠ "_" := by simpa using hn
  simp only [Op.eqFields,if_pos hn',Sem.run_bind,ha,hb,he,Result.andThen_ok]
  cases r<;>simp
theorem EM (hn : (f.name == "_") = false) (ha : (part f.type xs f.offset).run P w = .ok a w) (hb : (part f.type ys f.offset).run P w = .ok b w) (he : (Op.equalIn d f.type a b).run P w = .ok r w) (hr : (Op.eqFields d xs ys fs).run P w = .ok s w) : (Op.eqFields d xs ys (f :: fs)).run P w = .ok (r && s) w := by
  have hn' : f.name ≠ "_" := by simpa using hn
  rw[Op.eqFields]
  simp only [if_pos hn',Sem.run_bind,ha,hb,he,Result.andThen_ok]
  cases r
  · simp
  simpa using hr
theorem EL {t:TypeId}{fs:Array Field}(hu:P.underlying t=some (.struct fs)) (hp:P.stoodInHeld t=false) (h:(Op.eqFields d xs ys fs.toList).run P w=.ok r w):(Op.equalIn (d+1) t (.agg xs) (.agg ys)).run P w=.ok r w:=by
  have hf:P.fieldsOf t=fs:=by simp[Program.fieldsOf,hu]
  rw[run_equalIn_struct (P:=P) w d t xs ys (by rw[hf];exact hu) hp,hf]
  exact h
end
end Go.Proofs.YtgeonpciodepgaaW.PrintWords
namespace Go.Proofs.YtgeonpciodepgaaW.PrintLast
open Go.Proofs.YtgeonpciodepgaaW.PrintWords (jP)
def wV (md:Region.Mode) (o:Oper):List Nat:=(o.after.toList.filter (fun e=>Region.binds md e)).map (fun e=>e.on)
def Bi (md:Region.Mode) (ops:Array Oper) (i:Nat) (oi:Oper):List Nat:=(List.range ops.size).filter fun j=> !(j==i)&&match ops[j]? with
  |some oj=> !(oj.after.any (fun e=>Region.binds md e&&e.on==i)||oi.apart ops oj)
  |none=>false
def mR (md:Region.Mode) (ops:Array Oper):Bool×List (List Nat×List Nat):=(Region.noSelect ops,(List.range ops.size).map fun i=>match ops[i]? with
  |some o=>(wV md o,Bi md ops i o)
  |none=>([],[]))
def vL (T:List (List Nat×List Nat)) (l:List Bool) (i:Nat):Bool:= !l.getD i true&&match T[i]? with
  |some r=>r.1.all (fun j=>l.getD j false)
  |none=>false
def xe (T:List (List Nat×List Nat)) (l:List Bool):List Nat:=(List.range T.length).filter (vL T l)
def xU (T:List (List Nat×List Nat)) (l:List Bool) (i:Nat):Bool:=match T[i]? with
  |some r=>r.2.all (fun j=>l.getD j true)
  |none=>false
def zD (T:List (List Nat×List Nat)) (l:List Bool):Bool:=(List.range T.length).all fun j=> !l.getD j false||match T[j]? with
  |some r=>r.1.all (fun k=>l.getD k false)
  |none=>true
def xc (T:List (List Nat×List Nat)) (i:Nat):Nat->Nat->Bool
  |0,_=>false
  |fuel+1,d=>match T[d]? with
    |some r=>r.1.any fun j=>j==i||xc T i fuel j
    |none=>false
def lastT (T:List (List Nat×List Nat)) (l:List Bool) (ds:List Nat) (i:Nat):Bool:=ds.all fun d=>l.getD d true||xc T i T.length d
section
variable {md:Region.Mode}{ops:Array Oper}{T:Bool×List (List Nat×List Nat)}{l l' li lj lk:Array Bool}{ds:List Nat}{i j k:Nat}
theorem gd (l:Array Bool) (j:Nat) (b:Bool):l.getD j b=l.toList.getD j b:=by simp[Array.getD_eq_getD_getElem?,List.getD_eq_getElem?_getD]
theorem FB (o:Oper) (p:Nat->Bool):o.after.all (fun e=> !Region.binds md e||p e.on)=(wV md o).all p:=by
  unfold wV
  rw[←Array.all_toList]
  induction o.after.toList with
  |nil=>rfl
  |cons e r ih=>
    rw[List.all_cons,ih,List.filter_cons]
    cases h:Region.binds md e<;>simp
theorem Kt (o:Oper) (p:Nat->Bool):o.after.any (fun e=>Region.binds md e&&p e.on)=(wV md o).any p:=by
  unfold wV
  rw[←Array.any_toList]
  induction o.after.toList with
  |nil=>rfl
  |cons e r ih=>
    rw[List.any_cons,ih,List.filter_cons]
    cases h:Region.binds md e<;>simp
theorem zT:(mR md ops).2.length=ops.size:=by simp[mR]
theorem zV {o:Oper}(h:ops[i]? =some o):(mR md ops).2[i]? =some (wV md o,Bi md ops i o):=by
  have hi:=(Array.getElem?_eq_some_iff.1 h).1
  unfold mR
  rw[List.getElem?_map,List.getElem?_range hi,Option.map_some,h]
theorem zU (h:ops[i]? =none):(mR md ops).2[i]? =none:=by
  have hi:ops.size<=i:=Array.getElem?_eq_none_iff.1 h
  exact List.getElem?_eq_none (by rw[zT];exact hi)
theorem K_:vL (mR md ops).2 l.toList i=(!l.getD i true&&((ops[i]?).map (·.after.all fun e=> !Region.binds md e||l.getD e.on false)).getD false):=by
  unfold vL
  rw[gd]
  cases h:ops[i]? with
  |none=>rw[zU h];rfl
  |some o=>
    rw[zV h]
    simp only [Option.map_some,Option.getD_some]
    rw[←FB]
    simp only [gd]
theorem ready_eq:Region.ready md ops l=xe (mR md ops).2 l.toList:=by
  unfold Region.ready xe
  rw[zT]
  refine List.filter_congr (fun i _=>?_)
  rw[K_]
theorem free_eq:Region.free md ops l i=xU (mR md ops).2 l.toList i:=by
  unfold Region.free xU
  cases h:ops[i]? with
  |none=>rw[zU h]
  |some oi=>
    rw[zV h]
    simp only [Bi]
    rw[List.all_filter]
    congr 1
    funext j
    rw[gd]
    cases hj:ops[j]? with
    |none=>cases(j==i)<;>cases(l.toList.getD j true)<;>simp
    |some oj=>
      cases(j==i)<;>cases(l.toList.getD j true)<;>cases(oj.after.any (fun e=>Region.binds md e&&e.on==i)||oi.apart ops oj)<;>simp_all
theorem Iw:Region.xQ md ops l=zD (mR md ops).2 l.toList:=by
  unfold Region.xQ zD
  rw[zT]
  congr 1
  funext j
  rw[gd]
  cases h:ops[j]? with
  |none=>rw[zU h]
  |some o=>
    rw[zV h]
    simp only
    rw[←FB]
    simp only [gd]
theorem FY:∀ (fuel d:Nat),Region.sZ md ops i fuel d=xc (mR md ops).2 i fuel d
  |0,_=>rfl
  |fuel+1,d=>by
    unfold Region.sZ xc
    cases h:ops[d]? with
    |none=>rw[zU h]
    |some o=>
      rw[zV h]
      simp only
      rw[←Kt]
      congr 1
      funext e
      rw[FY fuel]
theorem JQ:Region.lastB md ops l ds i=lastT (mR md ops).2 l.toList ds i:=by
  unfold Region.lastB lastT
  rw[zT]
  congr 1
  funext d
  rw[gd,FY]
theorem F3 (h:vL T.2 l.toList i=true) (hT:mR md ops=T):(Region.ready md ops l).contains i=true:=by
  subst hT
  rw[ready_eq]
  unfold xe
  rw[List.contains_iff_mem,List.mem_filter,List.mem_range]
  refine⟨?_,h⟩
  unfold vL at h
  rw[Bool.and_eq_true]at h
  cases hq:(mR md ops).2[i]? with
  |none=>rw[hq]at h;simp at h
  |some r=>exact(List.getElem?_eq_some_iff.1 hq).1
theorem yn (h:(l.toList.set i true==l'.toList)=true):(l.setIfInBounds i true==l')=true:=by
  rw[beq_iff_eq]at h⊢
  apply Array.ext'
  rw[Array.toList_setIfInBounds]
  exact h
def CU (T:Bool×List (List Nat×List Nat)) (l l':List Bool) (i:Nat):Bool:=T.1&&xU T.2 l i&&vL T.2 l i&&(l.set i true==l')
theorem yM (hT:mR md ops=T) (h:CU T l.toList l'.toList i=true):vC md ops l l' i=true:=by
  simp only [CU,Bool.and_eq_true]at h
  obtain⟨⟨⟨h1,h2⟩,h3⟩,h4⟩:=h
  have h5:=F3 h3 hT
  have h6:=yn h4
  subst hT
  simp only [vC,Bool.and_eq_true]
  exact⟨⟨⟨h1,by rw[free_eq];exact h2⟩,h5⟩,h6⟩
def Cb (T:Bool×List (List Nat×List Nat)) (ds:List Nat) (l l':List Bool) (i:Nat):Bool:=T.1&&xU T.2 l i&&vL T.2 l i&&zD T.2 l&&lastT T.2 l ds i&&(l.set i true==l')
theorem LK (hT:mR md ops=T) (h:Cb T ds l.toList l'.toList i=true):takeB md ops ds l l' i=true:=by
  simp only [Cb,Bool.and_eq_true]at h
  obtain⟨⟨⟨⟨⟨h1,h2⟩,h3⟩,h4⟩,h5⟩,h6⟩:=h
  have h7:=F3 h3 hT
  have h8:=yn h6
  subst hT
  simp only [takeB,Bool.and_eq_true]
  exact⟨⟨⟨⟨⟨h1,by rw[free_eq];exact h2⟩,h7⟩,by rw[Iw];exact h4⟩,by rw[JQ];exact h5⟩,h8⟩
theorem qR (hT:mR md ops=T) (h:(xe T.2 l.toList==[i]&&l.toList.set i true==l'.toList)=true):uV md ops l l' i=true:=by
  simp only [Bool.and_eq_true]at h
  obtain⟨h1,h2⟩:=h
  subst hT
  simp only [uV,Bool.and_eq_true]
  exact⟨by rw[ready_eq];exact h1,yn h2⟩
theorem qG (hT:mR md ops=T) (h:(xe T.2 l.toList==[i,j]&&l.toList.set i true==li.toList&&l.toList.set j true==lj.toList)=true):(Region.ready md ops l==[i,j]&&l.setIfInBounds i true==li&&l.setIfInBounds j true==lj)=true:=by
  simp only [Bool.and_eq_true]at h⊢
  obtain⟨⟨h1,h2⟩,h3⟩:=h
  subst hT
  exact⟨⟨by rw[ready_eq];exact h1,yn h2⟩,yn h3⟩
theorem mP (hT:mR md ops=T) (h:(xe T.2 l.toList==[])=true):(Region.ready md ops l==[])=true:=by
  subst hT
  rw[ready_eq]
  exact h
def upM (B:List Nat) (d:Nat):List Nat->Nat
  |[]=>0
  |n::r=>(2^n|||(if n<d then B.getD n 0 else 0))|||upM B d r
def nS (T:List (List Nat×List Nat)) (B:List Nat):Bool:=(List.range T.length).all fun d=>match T[d]? with
  |some r=>(B.getD d 0|||upM B d r.1)==upM B d r.1
  |none=>false
theorem Gn {B:List Nat}{d i:Nat}:∀ {ns:List Nat},(upM B d ns).testBit i=true->∃n∈ns,n=i\/(n<d/\(B.getD n 0).testBit i=true)
  |[],h=>by simp[upM]at h
  |n::r,h=>by
    unfold upM at h
    rw[Nat.testBit_or,Nat.testBit_or,Bool.or_eq_true,Bool.or_eq_true]at h
    rcases h with(h|h)|h
    · rw[Nat.testBit_two_pow]at h
      exact⟨n,List.mem_cons_self,.inl (by simpa using h)⟩
    · by_cases hn:n<d
      · rw[if_pos hn]at h
        exact⟨n,List.mem_cons_self,.inr ⟨hn,h⟩⟩
      rw[if_neg hn]at h
      simp at h
    obtain⟨m,hm,h2⟩:=Gn h
    exact⟨m,List.mem_cons_of_mem _ hm,h2⟩
theorem FW {T:List (List Nat×List Nat)}{B:List Nat}(hB:nS T B=true):∀ (fuel d:Nat),d<fuel->d<T.length->(B.getD d 0).testBit i=true->xc T i fuel d=true
  |0,d,h,_,_=>by omega
  |fuel+1,d,h,hd,hb=>by
    have h1:=List.all_eq_true.1 hB d (List.mem_range.2 hd)
    cases hr:T[d]? with
    |none=>rw[hr]at h1;simp at h1
    |some r=>
      rw[hr]at h1
      simp only [beq_iff_eq]at h1
      have h2:(upM B d r.1).testBit i=true:=by rw[←h1,Nat.testBit_or,hb,Bool.true_or]
      obtain⟨n,hn,h3⟩:=Gn h2
      unfold xc
      rw[hr]
      simp only
      rw[List.any_eq_true]
      refine⟨n,hn,?_⟩
      rcases h3 with rfl|⟨h4,h5⟩
      · simp
      rw[FW hB fuel n (by omega) (by omega) h5,Bool.or_true]
def Fe (T:List (List Nat×List Nat)) (B:List Nat) (l:List Bool) (ds:List Nat) (i:Nat):Bool:=ds.all fun d=>l.getD d true||(decide (d<T.length)&&(B.getD d 0).testBit i)
def Gg (T:Bool×List (List Nat×List Nat)) (B:List Nat) (ds:List Nat) (l l':List Bool) (i:Nat):Bool:=T.1&&xU T.2 l i&&vL T.2 l i&&zD T.2 l&&Fe T.2 B l ds i&&(l.set i true==l')
theorem rV {B:List Nat}(hT:mR md ops=T) (hB:nS T.2 B=true) (h:Gg T B ds l.toList l'.toList i=true):takeB md ops ds l l' i=true:=by
  refine LK hT ?_
  simp only [Gg,Cb,Bool.and_eq_true]at h⊢
  obtain⟨⟨⟨⟨⟨h1,h2⟩,h3⟩,h4⟩,h5⟩,h6⟩:=h
  refine⟨⟨⟨⟨⟨h1,h2⟩,h3⟩,h4⟩,?_⟩,h6⟩
  unfold Fe at h5
  unfold lastT
  rw[List.all_eq_true]at h5⊢
  intro d hd
  have h7:=h5 d hd
  rw[Bool.or_eq_true,Bool.and_eq_true,decide_eq_true_eq]at h7
  rcases h7 with h7|⟨h8,h9⟩
  · rw[h7,Bool.true_or]
  rw[FW hB _ d h8 h8 h9,Bool.or_true]
theorem xn {P:Program}{Q:Exit->Act->World->Prop}{S:World->Prop}{n:Nat}{a:Act}{w:World}{B:List Nat}(hT:mR md ops=T) (hB:nS T.2 B=true) (h:jP (mR md ops=T)->jP (nS T.2 B=true)->lQ P md ops Q S ds n l a w):lQ P md ops Q S ds n l a w:=h ⟨hT⟩ ⟨hB⟩
end
def uu:Code->Nat->Option (Array Oper)
  | .region id ops _,k=>if id==k then some ops else none
  | .seq a b,k=>match uu a k with
    |some o=>some o
    |none=>uu b k
  | .cond _ a b,k=>match uu a k with
    |some o=>some o
    |none=>uu b k
  | .block _ c,k=>uu c k
  | .loop c,k=>uu c k
  | .scope c,k=>uu c k
  | .rangeFunc _ _ a b,k=>match uu a k with
    |some o=>some o
    |none=>uu b k
  |_,_=>none
def opsOf (f:Func) (k:Nat):Array Oper:=((f.body.bind fun c=>uu c k)).getD #[]
end Go.Proofs.YtgeonpciodepgaaW.PrintLast
namespace Go.Proofs.YtgeonpciodepgaaW.PrintWords
open Go.RowKit
section
variable {P:Program}{ops:Array Oper}{rest:List Oper}{o:Oper}{a:Act}{Q:Exit->Act->World->Prop}{W:World}
theorem nQ (hw:Region.wanted o (yielded ops a.tmps)=true) (h:wpList P ops Q ({o with guard:=none}::rest) a W):wpList P ops Q (o::rest) a W:=by
  have h1:Region.wanted {o with guard:=none} (yielded ops a.tmps)=true:=rfl
  unfold wpList at h⊢
  rw[if_pos h1]at h
  rw[if_pos hw]
  exact h
end
end Go.Proofs.YtgeonpciodepgaaW.PrintWords
namespace Go.Proofs.YtgeonpciodepgaaW.PrintMore
open Go.RowKit Go.Proofs.YtgeonpciodepgaaW.PrintWords
namespace Kd
open Go.Proofs.YtgeonpciodepgaaW.PrintWords.Kd
section
variable {α:Type}{d:Kd α}{e base g N:Nat}{ok:Nat->Prop}{W w1:World}{u v:Value}{xs:List α}
theorem CJ (hu:d.R e W base (fun k=>ok k/\k≠g) u xs) (hk:kZ W w1 g none):d.R e w1 base (fun k=>ok k/\k<W.heap.size) u xs:=
  kv (nK (su hu) hk (fun _ h=>h.1.2)) (fun _ h=>⟨h.1.1,h.2.2.1⟩)
theorem CL (h:d.R e w1 base (fun k=>ok k/\k<N) u xs) (hbase:∀k,v.ownBlock=some k->N<=k):d.R e w1 base (fun k=>(ok k/\some k≠v.ownBlock)/\k<N) u xs:=
  kv h (fun k hk=>⟨⟨hk.1,fun e=>Nat.lt_irrefl _ (Nat.lt_of_lt_of_le hk.2 (hbase k e.symm))⟩,hk.2⟩)
end
end Kd
theorem uM (k k':IntKind) (x y:Int):Builtin.max2 (.int k x) (.int k' y)=pure (.int k (if x<y then y else x)):=by simp only [Builtin.max2,gt_iff_lt]
theorem uQ (k k':IntKind) (x y:Int):Builtin.min2 (.int k x) (.int k' y)=pure (.int k (if y<x then y else x)):=by simp only [Builtin.min2]
theorem uP (ats:Array TypeId) (ty:TypeId) (a b:Value):Builtin.max_ ats ty #[a,b]=(Builtin.max2 a b>>= fun s=>pure s):=by simp only [Builtin.max_,List.foldlM_cons,List.foldlM_nil]
theorem uT (ats:Array TypeId) (ty:TypeId) (a b:Value):Builtin.min_ ats ty #[a,b]=(Builtin.min2 a b>>= fun s=>pure s):=by simp only [Builtin.min_,List.foldlM_cons,List.foldlM_nil]
theorem uO (ats:Array TypeId) (ty:TypeId) (a b c:Value):Builtin.max_ ats ty #[a,b,c]=(Builtin.max2 a b>>= fun s=>Builtin.max2 s c>>= fun s=>pure s):=by simp only [Builtin.max_,List.foldlM_cons,List.foldlM_nil]
theorem uS (ats:Array TypeId) (ty:TypeId) (a b c:Value):Builtin.min_ ats ty #[a,b,c]=(Builtin.min2 a b>>= fun s=>Builtin.min2 s c>>= fun s=>pure s):=by simp only [Builtin.min_,List.foldlM_cons,List.foldlM_nil]
theorem uN (ats:Array TypeId) (ty:TypeId) (a b c d:Value):Builtin.max_ ats ty #[a,b,c,d]=(Builtin.max2 a b>>= fun s=>Builtin.max2 s c>>= fun s=>Builtin.max2 s d>>= fun s=>pure s):=by simp only [Builtin.max_,List.foldlM_cons,List.foldlM_nil]
theorem uR (ats:Array TypeId) (ty:TypeId) (a b c d:Value):Builtin.min_ ats ty #[a,b,c,d]=(Builtin.min2 a b>>= fun s=>Builtin.min2 s c>>= fun s=>Builtin.min2 s d>>= fun s=>pure s):=by simp only [Builtin.min_,List.foldlM_cons,List.foldlM_nil]
end Go.Proofs.YtgeonpciodepgaaW.PrintMore
namespace Go.Proofs.YtgeonpciodepgaaW.PrintWords
open Go.RowKit
section
variable {P:Program}{ops:Array Oper}{rest:List Oper}{o:Oper}{a:Act}{Q:Exit->Act->World->Prop}{W:World}
theorem uj {f:FuncId}{as_:Array Operand}{ts:Array TypeId}(_ho:o.op=.call {callee:=.value (.func f),args:=as_,argTypes:=ts}) (h:wpList P ops Q (o::rest) a W):wpList P ops Q (o::rest) a W:=h
theorem oZ {b:Builtin}{xs:Array Operand}{ts:Array TypeId}(_ho:o.op=.call {callee:=.builtin b,args:=xs,argTypes:=ts}) (h:wpList P ops Q (o::rest) a W):wpList P ops Q (o::rest) a W:=h
end
def mx (a b:Int):Int:=if a<b then b else a
def mn (a b:Int):Int:=if b<a then b else a
def shl (k:IntKind) (x y:Int):Int:=k.wrap (x*2^min y.toNat k.bits)
def shr (k:IntKind) (x y:Int):Int:=x/2^min y.toNat k.bits
theorem ED (w:World) (n:Nat):w.drewN n=w.drewN n:=rfl
namespace Kd
section
variable {α:Type}{d:Kd α}{e base:Nat}{ok:Nat->Prop}{W w1:World}{v:Value}{xs:List α}
theorem GV (h:d.R e W base ok v xs) (hE:d.E=[]) {row:Option Nat}(hg:W.grownBy w1 row) (hne:row≠v.ownBlock):d.R e w1 base ok v xs:=
  kv (CF (Au hE h) hg (fun _ hk e_=>hne (e_.symm.trans hk))) (fun k hk=>h.1 k hk.symm)
end
section
variable {α:Type}{d:Kd α}{e base b b' g N:Nat}{ok ok1:Nat->Prop}{W W2 w1:World}{u v:Value}{xs ys:List α}{S:Nat->Prop}
theorem MS (hE:d.E=[]) (h:d.R e W base ok1 v xs) (hok:∀k,v.ownBlock=some k->ok k):d.R e W base ok v xs:=kv (Au hE h) (fun k hk=>hok k hk.symm)
theorem MR (h:d.R e W base ok v xs) (hk:Kept W W2 S) (hne:∀k,ok k->¬S k):d.R e W2 base (fun k=>ok k/\(¬S k/\k<W.heap.size)) v xs:=
  MO (kv (su h) (fun k hk=>⟨hk.1,hne k hk.1,hk.2.2.1⟩)) hk (fun _ hk=>hk.2.1)
theorem MW (h:Kd.S d e W base ok v xs) (hk:Kept W W2 S) (hne:∀k,ok k->¬S k):Kd.S d e W2 base (fun k=>ok k/\(¬S k/\k<W.heap.size)) v xs:=
  MP (rW (G6 h) (fun k hk=>⟨hk.1,hne k hk.1,hk.2.2.1⟩)) hk (fun _ hk=>hk.2.1)
end
end Kd
end Go.Proofs.YtgeonpciodepgaaW.PrintWords
namespace Go.Proofs.YtgeonpciodepgaaW.PrintWords
open Go.RowKit
namespace Kd
def V {α:Type}(d:Kd α) (_e:Nat) (W:World) (_base:Nat) (ok:Nat->Prop) (v:Value) (xs:List α):Prop:=∃A c,v=.slice A xs.length c/\xs.length<=c/\F d W ok A xs.length xs
section
variable {α β:Type}{d:Kd α}{e base base' n m c g N' lo hi:Nat}{ok ok' S:Nat->Prop}{w W w1:World}{A:Option Addr}{ad:Addr}{u v v1:Value}{xs:List α}
theorem wJ (h:V d e W base ok v xs) (hF:∀A,F d W ok A xs.length xs->F d w1 ok' A xs.length xs):V d e w1 base' ok' v xs:=by
  obtain⟨A,c,hv,hl,hf⟩:=h
  exact⟨A,c,hv,hl,hF A hf⟩
theorem vB (d:Kd α) (e:Nat) (W:World) (base:Nat) (ok:Nat->Prop):V d e W base ok (.slice none 0 0) []:=⟨none,0,rfl,Nat.le_refl _,GA d W ok⟩
theorem R_V (h:d.R e W base ok v xs):V d e W base' ok v xs:=by
  obtain⟨A,c,rfl⟩:=kM h
  exact⟨A,c,rfl,(ku h).2.1,R_F h⟩
theorem Hd (h:V d e W base ok v xs) (hok:∀k,ok k->ok' k):V d e W base ok' v xs:=wJ h (fun _ hf=>Cr hf hok)
theorem G_ (h:V d e W base ok v xs) (hb:Below W.heap.size W w1):V d e w1 base ok v xs:=wJ h (fun _ hf=>yA hf hb)
theorem Aw (h:V d e W base ok v xs) (o:Obj):V d e (W.alloc o) base ok v xs:=wJ h (fun _ hf=>Gw hf o)
theorem Ay (h:V d e W base ok v xs):V d e W.drew base ok v xs:=wJ h (fun _ hf=>Gx hf)
theorem Az (h:V d e W base ok v xs) (m:Nat):V d e (W.drewN m) base ok v xs:=wJ h (fun _ hf=>Gy hf m)
theorem Ha (h:V d e W base ok v xs) (hbase:∀k,u.ownBlock=some k->W.heap.size<=k) (hb:Below W.heap.size W w1):V d e w1 base (fun k=>ok k/\some k≠u.ownBlock) v xs:=wJ h (fun _ hf=>Gz hf hbase hb)
end
end Kd
end Go.Proofs.YtgeonpciodepgaaW.PrintWords
namespace Go.Proofs.YtgeonpciodepgaaW.PrintWords
theorem kT.one {α:Type}{R:α->List Value->Prop}{ps:List α}{cs:List Value}{p:α}{v:Value}(hp:R p [v]) (h:kT R 1 ps cs):kT R 1 (p::ps) (v::cs):=by
  refine⟨by simp[h.1],fun j q hq=>?_⟩
  cases j with
  |zero=>
    simp only [List.getElem?_cons_zero,Option.some.injEq]at hq
    subst hq
    simpa using hp
  |succ j=>
    simp only [List.getElem?_cons_succ]at hq
    have h1:=h.2 j q hq
    simpa [Nat.mul_one] using h1
theorem kT.front {α:Type}{R:α->List Value->Prop}{size:Nat}{ps:List α}{cs c all:List Value}{p:α}(hp:R p c) (hc:c.length=size) (h:kT R size ps cs) (ha:c++cs=all):kT R size (p::ps) all:=by
  subst ha
  refine⟨by rw[List.length_append,hc,h.1,List.length_cons,Nat.succ_mul,Nat.add_comm],fun j q hq=>?_⟩
  cases j with
  |zero=>
    simp only [List.getElem?_cons_zero,Option.some.injEq]at hq
    subst hq
    rw[Nat.zero_mul,List.drop_zero,List.take_append_of_le_length (by omega),List.take_of_length_le (by omega)]
    exact hp
  |succ j=>
    simp only [List.getElem?_cons_succ]at hq
    have h1:=h.2 j q hq
    rw[Nat.succ_mul,List.drop_append,List.drop_of_length_le (by rw[hc];exact Nat.le_add_left _ _),List.nil_append,hc,Nat.add_sub_cancel]
    exact h1
theorem kT.c2 {α:Type}{R:α->List Value->Prop}{ps:List α}{cs:List Value}{p:α}{va vb:Value}(hp:R p [va,vb]) (h:kT R 2 ps cs):kT R 2 (p::ps) (va::vb::cs):=kT.front hp rfl h rfl
theorem kT.c3 {α:Type}{R:α->List Value->Prop}{ps:List α}{cs:List Value}{p:α}{va vb vc:Value}(hp:R p [va,vb,vc]) (h:kT R 3 ps cs):kT R 3 (p::ps) (va::vb::vc::cs):=kT.front hp rfl h rfl
theorem kT.c4 {α:Type}{R:α->List Value->Prop}{ps:List α}{cs:List Value}{p:α}{va vb vc vd:Value}(hp:R p [va,vb,vc,vd]) (h:kT R 4 ps cs):kT R 4 (p::ps) (va::vb::vc::vd::cs):=kT.front hp rfl h rfl
theorem kT.c5 {α:Type}{R:α->List Value->Prop}{ps:List α}{cs:List Value}{p:α}{va vb vc vd ve:Value}(hp:R p [va,vb,vc,vd,ve]) (h:kT R 5 ps cs):kT R 5 (p::ps) (va::vb::vc::vd::ve::cs):=kT.front hp rfl h rfl
theorem kT.c6 {α:Type}{R:α->List Value->Prop}{ps:List α}{cs:List Value}{p:α}{va vb vc vd ve vf:Value}(hp:R p [va,vb,vc,vd,ve,vf]) (h:kT R 6 ps cs):kT R 6 (p::ps) (va::vb::vc::vd::ve::vf::cs):=kT.front hp rfl h rfl
theorem kT.c7 {α:Type}{R:α->List Value->Prop}{ps:List α}{cs:List Value}{p:α}{va vb vc vd ve vf vg:Value}(hp:R p [va,vb,vc,vd,ve,vf,vg]) (h:kT R 7 ps cs):kT R 7 (p::ps) (va::vb::vc::vd::ve::vf::vg::cs):=kT.front hp rfl h rfl
theorem kT.c8 {α:Type}{R:α->List Value->Prop}{ps:List α}{cs:List Value}{p:α}{va vb vc vd ve vf vg vh:Value}(hp:R p [va,vb,vc,vd,ve,vf,vg,vh]) (h:kT R 8 ps cs):kT R 8 (p::ps) (va::vb::vc::vd::ve::vf::vg::vh::cs):=kT.front hp rfl h rfl
theorem kT.c9 {α:Type}{R:α->List Value->Prop}{ps:List α}{cs:List Value}{p:α}{va vb vc vd ve vf vg vh vi:Value}(hp:R p [va,vb,vc,vd,ve,vf,vg,vh,vi]) (h:kT R 9 ps cs):kT R 9 (p::ps) (va::vb::vc::vd::ve::vf::vg::vh::vi::cs):=kT.front hp rfl h rfl
theorem kT.c10 {α:Type}{R:α->List Value->Prop}{ps:List α}{cs:List Value}{p:α}{va vb vc vd ve vf vg vh vi vj:Value}(hp:R p [va,vb,vc,vd,ve,vf,vg,vh,vi,vj]) (h:kT R 10 ps cs):kT R 10 (p::ps) (va::vb::vc::vd::ve::vf::vg::vh::vi::vj::cs):=kT.front hp rfl h rfl
end Go.Proofs.YtgeonpciodepgaaW.PrintWords
namespace Go.Proofs.Ytgeonpciodepgaa.G
open Go.Proofs.YtgeonpciodepgaaW.PrintWords
structure Tie where
 f0:Int
 f1:Int
deriving DecidableEq
theorem RV2 {α:Type}{d:Kd α}{e base base' base0:Nat}{W:World}{v:Value}{xs:List α}{P Q:Nat->Prop}(h:Kd.R d e W base (fun k=>base0<=k/\Q k) v xs):Kd.V d e W base' (fun k=>(P k\/base0<=k)/\Q k) v xs:=
 Kd.Hd (Kd.R_V h) (fun _ hk=>⟨.inr hk.1,hk.2⟩)
end Go.Proofs.Ytgeonpciodepgaa.G
namespace Go.Proofs.Ytgeonpciodepgaa.P
open Go.RowKit Go.Proofs.YtgeonpciodepgaaW.PrintWords Go.Proofs.YtgeonpciodepgaaW.PrintLast Go.Proofs.YtgeonpciodepgaaW.PrintWords.Kd
variable {p:Prop}
def lm (n b:Nat):Array Bool:=((List.range n).map fun i=>b.testBit i).toArray
section
variable {P:Program}{md:Region.Mode}{ops:Array Oper}{Q:Exit->Act->World->Prop}{S:World->Prop}{ds:List Nat}
theorem jR {fuel n b0:Nat}{a:Act}{w:World}{oi:Oper}{v:Value}{a':Act}(i:Nat) (N:Tmp) (b:Nat) (h:lQ P md ops Q S ds fuel (lm n b) a' w)
  (hi:ops[i]? =some oi:=by rfl) (hN:oi.dst=some N:=by rfl) (hc:vC md ops (lm n b0) (lm n b) i=true:=by first|exact yM HT_.out (by kernel_rfl)|kernel_rfl)
  (hQ:∀c a w,Q (.panic c) (a.put oi.dst v) w->Q (.panic c) a w:=by exact fun _ _ _ h=>h) (hy:Yields P ops oi v a:=by exact Or.inl ⟨by rfl,by(intro w';go_simp;with_reducible rfl)⟩)
  (ha:a.put (some N) v=a':=by first|(simp only [Act.put,List.setIfInBounds_toArray,List.set_cons_zero,List.set_cons_succ,mJ,nz];rfl)|rfl):lQ P md ops Q S ds (fuel+1) (lm n b0) a w:=
 zS (lm n b) hi hN hc hQ hy ha h
theorem l6 {fuel n b0:Nat}{a:Act}{w:World}{oi:Oper}{a':Act}(i:Nat) (N:Tmp) (b:Nat) (h:lQ P md ops Q S ds fuel (lm n b) a' w)
  (hi:ops[i]? =some oi:=by rfl) (hN:oi.dst=some N:=by rfl) (hc:vC md ops (lm n b0) (lm n b) i=true:=by first|exact yM HT_.out (by kernel_rfl)|kernel_rfl)
  (hQ:∀c a w,Q (.panic c) (a.put oi.dst undef) w->Q (.panic c) a w:=by exact fun _ _ _ h=>h) (hy:Yields P ops oi undef a:=by exact Or.inr ⟨by rfl,rfl⟩)
  (ha:a.put (some N) undef=a':=by first|(simp only [Act.put,List.setIfInBounds_toArray,List.set_cons_zero,List.set_cons_succ,mJ,nz];rfl)|rfl):lQ P md ops Q S ds (fuel+1) (lm n b0) a w:=
 zS (lm n b) hi hN hc hQ hy ha h
theorem ta0 {fuel n b0:Nat}{a:Act}{w:World}{oi:Oper}{v:Value}{a':Act}(i:Nat) (N:Tmp) (b:Nat) (h:lQ P md ops Q S ds fuel (lm n b) a' w)
  (hi:ops[i]? =some oi:=by rfl) (hN:oi.dst=some N:=by rfl) (hc:takeB md ops ds (lm n b0) (lm n b) i=true:=by first|exact rV HT_.out HW_.out (by kernel_rfl)|kernel_rfl)
  (hQ:∀c a w,Q (.panic c) (a.put oi.dst v) w->Q (.panic c) a w:=by exact fun _ _ _ h=>h) (hy:YieldsIf P ops S oi v a:=by exact Or.inl ⟨by rfl,by(intro w' _;go_simp;with_reducible rfl)⟩) (hS:S w:=by exact hHeld)
  (ha:a.put (some N) v=a':=by first|(simp only [Act.put,List.setIfInBounds_toArray,List.set_cons_zero,List.set_cons_succ,mJ,nz];rfl)|rfl):lQ P md ops Q S ds (fuel+1) (lm n b0) a w:=
 qN (lm n b) hi hN hc hQ hy hS ha h
theorem ta1 {fuel n b0:Nat}{a:Act}{w:World}{oi:Oper}{v:Value}{a':Act}(i:Nat) (N:Tmp) (b:Nat) (h:lQ P md ops Q S ds fuel (lm n b) a' w)
  (hi:ops[i]? =some oi:=by rfl) (hN:oi.dst=some N:=by rfl) (hc:takeB md ops ds (lm n b0) (lm n b) i=true:=by first|exact rV HT_.out HW_.out (by kernel_rfl)|kernel_rfl)
  (hQ:∀c a w,Q (.panic c) (a.put oi.dst v) w->Q (.panic c) a w:=by exact fun _ _ _ h=>h) (hy:YieldsIf P ops S oi v a:=by exact Or.inl ⟨by rfl,by(intro w' s0;go_simp;with_reducible rfl)⟩) (hS:S w:=by exact hHeld)
  (ha:a.put (some N) v=a':=by first|(simp only [Act.put,List.setIfInBounds_toArray,List.set_cons_zero,List.set_cons_succ,mJ,nz];rfl)|rfl):lQ P md ops Q S ds (fuel+1) (lm n b0) a w:=
 qN (lm n b) hi hN hc hQ hy hS ha h
theorem ta2 {fuel n b0:Nat}{a:Act}{w:World}{oi:Oper}{v:Value}{a':Act}(i:Nat) (N:Tmp) (b:Nat) (h:lQ P md ops Q S ds fuel (lm n b) a' w)
  (hi:ops[i]? =some oi:=by rfl) (hN:oi.dst=some N:=by rfl) (hc:takeB md ops ds (lm n b0) (lm n b) i=true:=by first|exact rV HT_.out HW_.out (by kernel_rfl)|kernel_rfl)
  (hQ:∀c a w,Q (.panic c) (a.put oi.dst v) w->Q (.panic c) a w:=by exact fun _ _ _ h=>h) (hy:YieldsIf P ops S oi v a:=by exact Or.inl ⟨by rfl,by(rintro w' ⟨s0,s1⟩;go_simp;with_reducible rfl)⟩) (hS:S w:=by exact hHeld)
  (ha:a.put (some N) v=a':=by first|(simp only [Act.put,List.setIfInBounds_toArray,List.set_cons_zero,List.set_cons_succ,mJ,nz];rfl)|rfl):lQ P md ops Q S ds (fuel+1) (lm n b0) a w:=
 qN (lm n b) hi hN hc hQ hy hS ha h
theorem ta3 {fuel n b0:Nat}{a:Act}{w:World}{oi:Oper}{v:Value}{a':Act}(i:Nat) (N:Tmp) (b:Nat) (h:lQ P md ops Q S ds fuel (lm n b) a' w)
  (hi:ops[i]? =some oi:=by rfl) (hN:oi.dst=some N:=by rfl) (hc:takeB md ops ds (lm n b0) (lm n b) i=true:=by first|exact rV HT_.out HW_.out (by kernel_rfl)|kernel_rfl)
  (hQ:∀c a w,Q (.panic c) (a.put oi.dst v) w->Q (.panic c) a w:=by exact fun _ _ _ h=>h) (hy:YieldsIf P ops S oi v a:=by exact Or.inl ⟨by rfl,by(rintro w' ⟨s0,s1,s2⟩;go_simp;with_reducible rfl)⟩) (hS:S w:=by exact hHeld)
  (ha:a.put (some N) v=a':=by first|(simp only [Act.put,List.setIfInBounds_toArray,List.set_cons_zero,List.set_cons_succ,mJ,nz];rfl)|rfl):lQ P md ops Q S ds (fuel+1) (lm n b0) a w:=
 qN (lm n b) hi hN hc hQ hy hS ha h
theorem ta4 {fuel n b0:Nat}{a:Act}{w:World}{oi:Oper}{v:Value}{a':Act}(i:Nat) (N:Tmp) (b:Nat) (h:lQ P md ops Q S ds fuel (lm n b) a' w)
  (hi:ops[i]? =some oi:=by rfl) (hN:oi.dst=some N:=by rfl) (hc:takeB md ops ds (lm n b0) (lm n b) i=true:=by first|exact rV HT_.out HW_.out (by kernel_rfl)|kernel_rfl)
  (hQ:∀c a w,Q (.panic c) (a.put oi.dst v) w->Q (.panic c) a w:=by exact fun _ _ _ h=>h) (hy:YieldsIf P ops S oi v a:=by exact Or.inl ⟨by rfl,by(rintro w' ⟨s0,s1,s2,s3⟩;go_simp;with_reducible rfl)⟩) (hS:S w:=by exact hHeld)
  (ha:a.put (some N) v=a':=by first|(simp only [Act.put,List.setIfInBounds_toArray,List.set_cons_zero,List.set_cons_succ,mJ,nz];rfl)|rfl):lQ P md ops Q S ds (fuel+1) (lm n b0) a w:=
 qN (lm n b) hi hN hc hQ hy hS ha h
theorem ta5 {fuel n b0:Nat}{a:Act}{w:World}{oi:Oper}{v:Value}{a':Act}(i:Nat) (N:Tmp) (b:Nat) (h:lQ P md ops Q S ds fuel (lm n b) a' w)
  (hi:ops[i]? =some oi:=by rfl) (hN:oi.dst=some N:=by rfl) (hc:takeB md ops ds (lm n b0) (lm n b) i=true:=by first|exact rV HT_.out HW_.out (by kernel_rfl)|kernel_rfl)
  (hQ:∀c a w,Q (.panic c) (a.put oi.dst v) w->Q (.panic c) a w:=by exact fun _ _ _ h=>h) (hy:YieldsIf P ops S oi v a:=by exact Or.inl ⟨by rfl,by(rintro w' ⟨s0,s1,s2,s3,s4⟩;go_simp;with_reducible rfl)⟩) (hS:S w:=by exact hHeld)
  (ha:a.put (some N) v=a':=by first|(simp only [Act.put,List.setIfInBounds_toArray,List.set_cons_zero,List.set_cons_succ,mJ,nz];rfl)|rfl):lQ P md ops Q S ds (fuel+1) (lm n b0) a w:=
 qN (lm n b) hi hN hc hQ hy hS ha h
theorem ta6 {fuel n b0:Nat}{a:Act}{w:World}{oi:Oper}{v:Value}{a':Act}(i:Nat) (N:Tmp) (b:Nat) (h:lQ P md ops Q S ds fuel (lm n b) a' w)
  (hi:ops[i]? =some oi:=by rfl) (hN:oi.dst=some N:=by rfl) (hc:takeB md ops ds (lm n b0) (lm n b) i=true:=by first|exact rV HT_.out HW_.out (by kernel_rfl)|kernel_rfl)
  (hQ:∀c a w,Q (.panic c) (a.put oi.dst v) w->Q (.panic c) a w:=by exact fun _ _ _ h=>h) (hy:YieldsIf P ops S oi v a:=by exact Or.inl ⟨by rfl,by(rintro w' ⟨s0,s1,s2,s3,s4,s5⟩;go_simp;with_reducible rfl)⟩) (hS:S w:=by exact hHeld)
  (ha:a.put (some N) v=a':=by first|(simp only [Act.put,List.setIfInBounds_toArray,List.set_cons_zero,List.set_cons_succ,mJ,nz];rfl)|rfl):lQ P md ops Q S ds (fuel+1) (lm n b0) a w:=
 qN (lm n b) hi hN hc hQ hy hS ha h
theorem ta7 {fuel n b0:Nat}{a:Act}{w:World}{oi:Oper}{v:Value}{a':Act}(i:Nat) (N:Tmp) (b:Nat) (h:lQ P md ops Q S ds fuel (lm n b) a' w)
  (hi:ops[i]? =some oi:=by rfl) (hN:oi.dst=some N:=by rfl) (hc:takeB md ops ds (lm n b0) (lm n b) i=true:=by first|exact rV HT_.out HW_.out (by kernel_rfl)|kernel_rfl)
  (hQ:∀c a w,Q (.panic c) (a.put oi.dst v) w->Q (.panic c) a w:=by exact fun _ _ _ h=>h) (hy:YieldsIf P ops S oi v a:=by exact Or.inl ⟨by rfl,by(rintro w' ⟨s0,s1,s2,s3,s4,s5,s6⟩;go_simp;with_reducible rfl)⟩) (hS:S w:=by exact hHeld)
  (ha:a.put (some N) v=a':=by first|(simp only [Act.put,List.setIfInBounds_toArray,List.set_cons_zero,List.set_cons_succ,mJ,nz];rfl)|rfl):lQ P md ops Q S ds (fuel+1) (lm n b0) a w:=
 qN (lm n b) hi hN hc hQ hy hS ha h
theorem ta8 {fuel n b0:Nat}{a:Act}{w:World}{oi:Oper}{v:Value}{a':Act}(i:Nat) (N:Tmp) (b:Nat) (h:lQ P md ops Q S ds fuel (lm n b) a' w)
  (hi:ops[i]? =some oi:=by rfl) (hN:oi.dst=some N:=by rfl) (hc:takeB md ops ds (lm n b0) (lm n b) i=true:=by first|exact rV HT_.out HW_.out (by kernel_rfl)|kernel_rfl)
  (hQ:∀c a w,Q (.panic c) (a.put oi.dst v) w->Q (.panic c) a w:=by exact fun _ _ _ h=>h) (hy:YieldsIf P ops S oi v a:=by exact Or.inl ⟨by rfl,by(rintro w' ⟨s0,s1,s2,s3,s4,s5,s6,s7⟩;go_simp;with_reducible rfl)⟩) (hS:S w:=by exact hHeld)
  (ha:a.put (some N) v=a':=by first|(simp only [Act.put,List.setIfInBounds_toArray,List.set_cons_zero,List.set_cons_succ,mJ,nz];rfl)|rfl):lQ P md ops Q S ds (fuel+1) (lm n b0) a w:=
 qN (lm n b) hi hN hc hQ hy hS ha h
theorem ta9 {fuel n b0:Nat}{a:Act}{w:World}{oi:Oper}{v:Value}{a':Act}(i:Nat) (N:Tmp) (b:Nat) (h:lQ P md ops Q S ds fuel (lm n b) a' w)
  (hi:ops[i]? =some oi:=by rfl) (hN:oi.dst=some N:=by rfl) (hc:takeB md ops ds (lm n b0) (lm n b) i=true:=by first|exact rV HT_.out HW_.out (by kernel_rfl)|kernel_rfl)
  (hQ:∀c a w,Q (.panic c) (a.put oi.dst v) w->Q (.panic c) a w:=by exact fun _ _ _ h=>h) (hy:YieldsIf P ops S oi v a:=by exact Or.inl ⟨by rfl,by(rintro w' ⟨s0,s1,s2,s3,s4,s5,s6,s7,s8⟩;go_simp;with_reducible rfl)⟩) (hS:S w:=by exact hHeld)
  (ha:a.put (some N) v=a':=by first|(simp only [Act.put,List.setIfInBounds_toArray,List.set_cons_zero,List.set_cons_succ,mJ,nz];rfl)|rfl):lQ P md ops Q S ds (fuel+1) (lm n b0) a w:=
 qN (lm n b) hi hN hc hQ hy hS ha h
theorem MJ {fuel n b0:Nat}{a:Act}{w:World}{oi:Oper}{v:Value}{a':Act}(i:Nat) (N:Tmp) (b:Nat) (h:lQ P md ops Q S ds fuel (lm n b) a' w)
  (hi:ops[i]? =some oi:=by rfl) (hN:oi.dst=some N:=by rfl) (hc:takeB md ops ds (lm n b0) (lm n b) i=true:=by first|exact rV HT_.out HW_.out (by kernel_rfl)|kernel_rfl)
  (hQ:∀c a w,Q (.panic c) (a.put oi.dst v) w->Q (.panic c) a w:=by exact fun _ _ _ h=>h) (hy:YieldsIf P ops S oi v a:=by exact Or.inl ⟨by rfl,by(rintro w' ⟨s0,s1,s2,s3,s4,s5,s6,s7,s8,s9⟩;go_simp;with_reducible rfl)⟩) (hS:S w:=by exact hHeld)
  (ha:a.put (some N) v=a':=by first|(simp only [Act.put,List.setIfInBounds_toArray,List.set_cons_zero,List.set_cons_succ,mJ,nz];rfl)|rfl):lQ P md ops Q S ds (fuel+1) (lm n b0) a w:=
 qN (lm n b) hi hN hc hQ hy hS ha h
theorem MK {fuel n b0:Nat}{a:Act}{w:World}{oi:Oper}{v:Value}{a':Act}(i:Nat) (N:Tmp) (b:Nat) (h:lQ P md ops Q S ds fuel (lm n b) a' w)
  (hi:ops[i]? =some oi:=by rfl) (hN:oi.dst=some N:=by rfl) (hc:takeB md ops ds (lm n b0) (lm n b) i=true:=by first|exact rV HT_.out HW_.out (by kernel_rfl)|kernel_rfl)
  (hQ:∀c a w,Q (.panic c) (a.put oi.dst v) w->Q (.panic c) a w:=by exact fun _ _ _ h=>h) (hy:YieldsIf P ops S oi v a:=by exact Or.inl ⟨by rfl,by(rintro w' ⟨s0,s1,s2,s3,s4,s5,s6,s7,s8,s9,s10⟩;go_simp;with_reducible rfl)⟩) (hS:S w:=by exact hHeld)
  (ha:a.put (some N) v=a':=by first|(simp only [Act.put,List.setIfInBounds_toArray,List.set_cons_zero,List.set_cons_succ,mJ,nz];rfl)|rfl):lQ P md ops Q S ds (fuel+1) (lm n b0) a w:=
 qN (lm n b) hi hN hc hQ hy hS ha h
theorem ML {fuel n b0:Nat}{a:Act}{w:World}{oi:Oper}{v:Value}{a':Act}(i:Nat) (N:Tmp) (b:Nat) (h:lQ P md ops Q S ds fuel (lm n b) a' w)
  (hi:ops[i]? =some oi:=by rfl) (hN:oi.dst=some N:=by rfl) (hc:takeB md ops ds (lm n b0) (lm n b) i=true:=by first|exact rV HT_.out HW_.out (by kernel_rfl)|kernel_rfl)
  (hQ:∀c a w,Q (.panic c) (a.put oi.dst v) w->Q (.panic c) a w:=by exact fun _ _ _ h=>h) (hy:YieldsIf P ops S oi v a:=by exact Or.inl ⟨by rfl,by(rintro w' ⟨s0,s1,s2,s3,s4,s5,s6,s7,s8,s9,s10,s11⟩;go_simp;with_reducible rfl)⟩) (hS:S w:=by exact hHeld)
  (ha:a.put (some N) v=a':=by first|(simp only [Act.put,List.setIfInBounds_toArray,List.set_cons_zero,List.set_cons_succ,mJ,nz];rfl)|rfl):lQ P md ops Q S ds (fuel+1) (lm n b0) a w:=
 qN (lm n b) hi hN hc hQ hy hS ha h
theorem MM {fuel n b0:Nat}{a:Act}{w:World}{oi:Oper}{v:Value}{a':Act}(i:Nat) (N:Tmp) (b:Nat) (h:lQ P md ops Q S ds fuel (lm n b) a' w)
  (hi:ops[i]? =some oi:=by rfl) (hN:oi.dst=some N:=by rfl) (hc:takeB md ops ds (lm n b0) (lm n b) i=true:=by first|exact rV HT_.out HW_.out (by kernel_rfl)|kernel_rfl)
  (hQ:∀c a w,Q (.panic c) (a.put oi.dst v) w->Q (.panic c) a w:=by exact fun _ _ _ h=>h) (hy:YieldsIf P ops S oi v a:=by exact Or.inl ⟨by rfl,by(rintro w' ⟨s0,s1,s2,s3,s4,s5,s6,s7,s8,s9,s10,s11,s12⟩;go_simp;with_reducible rfl)⟩) (hS:S w:=by exact hHeld)
  (ha:a.put (some N) v=a':=by first|(simp only [Act.put,List.setIfInBounds_toArray,List.set_cons_zero,List.set_cons_succ,mJ,nz];rfl)|rfl):lQ P md ops Q S ds (fuel+1) (lm n b0) a w:=
 qN (lm n b) hi hN hc hQ hy hS ha h
theorem MN {fuel n b0:Nat}{a:Act}{w:World}{oi:Oper}{v:Value}{a':Act}(i:Nat) (N:Tmp) (b:Nat) (h:lQ P md ops Q S ds fuel (lm n b) a' w)
  (hi:ops[i]? =some oi:=by rfl) (hN:oi.dst=some N:=by rfl) (hc:takeB md ops ds (lm n b0) (lm n b) i=true:=by first|exact rV HT_.out HW_.out (by kernel_rfl)|kernel_rfl)
  (hQ:∀c a w,Q (.panic c) (a.put oi.dst v) w->Q (.panic c) a w:=by exact fun _ _ _ h=>h) (hy:YieldsIf P ops S oi v a:=by exact Or.inl ⟨by rfl,by(rintro w' ⟨s0,s1,s2,s3,s4,s5,s6,s7,s8,s9,s10,s11,s12,s13⟩;go_simp;with_reducible rfl)⟩) (hS:S w:=by exact hHeld)
  (ha:a.put (some N) v=a':=by first|(simp only [Act.put,List.setIfInBounds_toArray,List.set_cons_zero,List.set_cons_succ,mJ,nz];rfl)|rfl):lQ P md ops Q S ds (fuel+1) (lm n b0) a w:=
 qN (lm n b) hi hN hc hQ hy hS ha h
theorem puN {fuel:Nat}{l:Array Bool}{a:Act}{w:World}{oi:Oper}{v:Value}{a':Act}(i:Nat) (N:Option Tmp) (l':Array Bool) (h:lQ P md ops Q S ds fuel l' a' w)
  (hi:ops[i]? =some oi:=by rfl) (hN:oi.dst=N:=by rfl) (hc:vC md ops l l' i=true:=by first|exact yM HT_.out (by kernel_rfl)|kernel_rfl)
  (hQ:∀c a w,Q (.panic c) (a.put oi.dst v) w->Q (.panic c) a w:=by exact fun _ _ _ h=>h) (hy:Yields P ops oi v a:=by exact Or.inl ⟨by rfl,by(intro w';go_simp;with_reducible rfl)⟩)
  (ha:a.put N v=a':=by first|(simp only [Act.put,List.setIfInBounds_toArray,List.set_cons_zero,List.set_cons_succ,mJ,nz];rfl)|rfl):lQ P md ops Q S ds (fuel+1) l a w:=
 zS l' hi hN hc hQ hy ha h
theorem pfN {fuel:Nat}{l:Array Bool}{a:Act}{w:World}{oi:Oper}{a':Act}(i:Nat) (N:Option Tmp) (l':Array Bool) (h:lQ P md ops Q S ds fuel l' a' w)
  (hi:ops[i]? =some oi:=by rfl) (hN:oi.dst=N:=by rfl) (hc:vC md ops l l' i=true:=by first|exact yM HT_.out (by kernel_rfl)|kernel_rfl)
  (hQ:∀c a w,Q (.panic c) (a.put oi.dst undef) w->Q (.panic c) a w:=by exact fun _ _ _ h=>h) (hy:Yields P ops oi undef a:=by exact Or.inr ⟨by rfl,rfl⟩)
  (ha:a.put N undef=a':=by first|(simp only [Act.put,List.setIfInBounds_toArray,List.set_cons_zero,List.set_cons_succ,mJ,nz];rfl)|rfl):lQ P md ops Q S ds (fuel+1) l a w:=
 zS l' hi hN hc hQ hy ha h
theorem kP {fuel:Nat}{l:Array Bool}{a a0 a':Act}{v:Value}{w:World}(N:Tmp) (h:lQ P md ops Q S ds fuel l a' w) (hs:a=a0.put (some N) v:=by rfl)
  (ha:a0.put (some N) v=a':=by(simp only [Act.put,List.setIfInBounds_toArray,List.set_cons_zero,List.set_cons_succ,mJ,nz];rfl)):lQ P md ops Q S ds fuel l a w:=mK (hs.trans ha) h
theorem noN {fuel:Nat}{l:Array Bool}{a a0 a':Act}{v:Value}{w:World}(N:Option Tmp) (h:lQ P md ops Q S ds fuel l a' w) (hs:a=a0.put N v:=by rfl)
  (ha:a0.put N v=a':=by(simp only [Act.put,List.setIfInBounds_toArray,List.set_cons_zero,List.set_cons_succ,mJ,nz];rfl)):lQ P md ops Q S ds fuel l a w:=mK (hs.trans ha) h
end
section
variable {P:Program}{ops:Array Oper}{rest:List Oper}{o:Oper}{a:Act}{Q:Exit->Act->World->Prop}
theorem qd {W:World}(N:Tmp) (cs:Array Value) (t:TypeId)
  (h:∀g,g=W.heap.size->∀w1,w1.heap[g]? =some (.cells cs t (0,0))->Below W.heap.size W w1->wpList P ops Q rest (a.put o.dst (.pointer (some ⟨g,0,none⟩))) w1)
  (hd:o.dst=some N:=by with_reducible rfl) (hgd:o.guard=none:=by rfl)
  (hrun:(execOp a.eval o).run P W=.ok (.value (.pointer (some ⟨W.heap.size,0,none⟩))) (W.alloc (.cells cs t (0,0))):=by first|(go_simp;done)|(go_simp;rfl)):wpList P ops Q (o::rest) a W:=Ic hgd hd hrun h
end
theorem jW {p q:Prop}(H:q) (h:q->p:=by(intro h_;(with_reducible repeat(first|apply kK|apply kL|apply kw));exact h_)):p:=h H
theorem cV {p q:Prop}(H:q) (h:q->p:=by(intro h_;(with_reducible repeat(first|apply Aw|apply Az|apply Ay));exact h_)):p:=h H
theorem jZ {p q:Prop}(H:q) (h:q->p:=by(intro h_;(with_reducible repeat(first|refine pO ?_ _|refine kQ ?_|refine nG ?_ _));exact h_)):p:=h H
theorem jT {B:Nat}{w w1 w2:World}(H:Below B w w1) (h:Below B w w2:=by repeat(first|(with_reducible first|exact HB.out|apply pJ|apply qb|apply ma)|(with_reducible refine nT ?_ (jP.out (by assumption)))|exact HB.out)):Below B w w2:=h
theorem lv {w w1 w2:World}{g:Nat}{row:Option Nat}(H:kZ w w1 g row) (h:kZ w w2 g row:=by repeat(first|(with_reducible first|exact HK.out|apply kZ.ym|apply zK|apply rZ|apply zJ)|(with_reducible refine vY ?_ (jP.out (by assumption)) _)|exact HK.out)):kZ w w2 g row:=h
theorem qH(h:p:=by(try simp only [List.map_toArray,List.map_cons,List.map_nil]);first|done|rfl|(simp only [List.length_drop,List.length_take];rfl)):p:=h
theorem yN(h:p:=by first|(with_reducible assumption)|assumption):p:=h
theorem dm {p:Prop}(h:p):jP p:=⟨h⟩
section
variable {w0 w w1 W W1:World}{g:Nat}{o:Obj}{row:Option Nat}
theorem jU (H:jP (w0.heap[g]? =some o)) (hb:Below w.heap.size w w1) (h:w0.heap[g]? =some o->w.heap[g]? =some o:=by(intro h_;(with_reducible repeat(first|refine pO ?_ _|refine kQ ?_|refine nG ?_ _));exact h_)):jP (w1.heap[g]? =some o):=⟨nX (h H.out) hb⟩
theorem lV (H:jP (w0.heap[g]? =some o)) {g1:Nat}(N:jP (g≠g1)) (hk:kZ w w1 g1 row) (hr:some g≠row:=by simp) (h:w0.heap[g]? =some o->w.heap[g]? =some o:=by(intro h_;(with_reducible repeat(first|refine pO ?_ _|refine kQ ?_|refine nG ?_ _));exact h_)):jP (w1.heap[g]? =some o):=⟨kZ.blk hk (h H.out) N.out hr⟩
theorem lW (H:jP (w0.heap[g]? =some o)) (hg:w.grownBy w1 row) (hne:some g≠row) (h:w0.heap[g]? =some o->w.heap[g]? =some o:=by(intro h_;(with_reducible repeat(first|refine pO ?_ _|refine kQ ?_|refine nG ?_ _));exact h_)):jP (w1.heap[g]? =some o):=⟨yS (h H.out) hg hne⟩
theorem kg (H:jP (Below w.heap.size w w0)) (hb:Below W.heap.size W w1) (h:Below w.heap.size w W:=by repeat(first|(with_reducible first|exact HB.out|apply pJ|apply qb|apply ma)|(with_reducible refine nT ?_ (jP.out (by assumption)))|exact HB.out)):jP (Below w.heap.size w w1):=⟨l5 h hb⟩
theorem mg {g:Nat}(H:jP (kZ w w0 g none)) (hb:Below W.heap.size W w1) (h:kZ w W g none:=by repeat(first|(with_reducible first|exact HK.out|apply kZ.ym|apply zK|apply rZ|apply zJ)|(with_reducible refine vY ?_ (jP.out (by assumption)) _)|exact HK.out)):jP (kZ w w1 g none):=⟨kZ.trans h (kZ.of_below hb g none) (.inl rfl)⟩
theorem nI {g:Nat}(H:jP (kZ w w0 g row)) (hk:kZ W w1 g row) (h:kZ w W g row:=by repeat(first|(with_reducible first|exact HK.out|apply kZ.ym|apply zK|apply rZ|apply zJ)|(with_reducible refine vY ?_ (jP.out (by assumption)) _)|exact HK.out)):jP (kZ w w1 g row):=⟨kZ.trans h hk (.inl rfl)⟩
theorem ko (H:jP (Below w.heap.size w w1)) {a:Addr}{v:Value}(h:w.cell? a=some v):w1.cell? a=some v:=(H.out.cell (World.block_lt_of_cell? w _ h)).trans h
theorem jS {cs:Array Value}{t:TypeId}(H:jP (w.heap[g]? =some (.cells cs t (0,0)))) (i:Nat) {v:Value}(h:cs[i]? =some v:=by rfl):w.cell? ⟨g,i,none⟩=some v:=(mG H.out i).trans h
end
section
variable {α β:Type}{d:Kd α}{d':Kd β}{e e' base base':Nat}{ok ok':Nat->Prop}{w0 w W w1:World}{u v:Value}{xs:List α}{ys:List β}
theorem kG (H:jP (Kd.R d e w0 base ok v xs)) (hb:Below w.heap.size w w1) (h:Kd.R d e w0 base ok v xs->Kd.R d e w base ok v xs:=by(intro h_;(with_reducible repeat(first|apply kK|apply kL|apply kw));exact h_)):jP (Kd.R d e w1 base ok v xs):=⟨pW (h H.out) hb⟩
theorem vb (H:jP (Kd.V d e w0 base ok v xs)) (hb:Below w.heap.size w w1) (h:Kd.V d e w0 base ok v xs->Kd.V d e w base ok v xs:=by(intro h_;(with_reducible repeat(first|apply Aw|apply Az|apply Ay));exact h_)):jP (Kd.V d e w1 base ok v xs):=⟨G_ (h H.out) hb⟩
theorem lX (H:jP (Kd.R d e w0 base ok u xs)) (ho:Kd.R d' e' W w.heap.size ok' v ys) (hb:Below w.heap.size w w1) (h:Kd.R d e w0 base ok u xs->Kd.R d e w base ok u xs:=by(intro h_;(with_reducible repeat(first|apply kK|apply kL|apply kw));exact h_)):jP (Kd.R d e w1 base (fun k=>ok k/\some k≠v.ownBlock) u xs):=⟨Ai (h H.out) (qO ho) hb⟩
theorem ve (H:jP (Kd.V d e w0 base ok u xs)) (ho:Kd.R d' e' W w.heap.size ok' v ys) (hb:Below w.heap.size w w1) (h:Kd.V d e w0 base ok u xs->Kd.V d e w base ok u xs:=by(intro h_;(with_reducible repeat(first|apply Aw|apply Az|apply Ay));exact h_)):jP (Kd.V d e w1 base (fun k=>ok k/\some k≠v.ownBlock) u xs):=⟨Ha (h H.out) (qO ho) hb⟩
end
theorem ow(h:p:=by first|rfl|(simp[Value.ownBlock];rfl)):p:=h
theorem oq {p q:Prop}(H:q) (h:q->p:=by(intro h_;(first|rw[add_block]|(show some (Addr.add _ _).block≠_;rw[add_block])|skip);first|exact h_|exact h_.1|exact h_.2|exact h_.1.1|exact h_.1.2|exact h_.2.1|exact h_.2.2)):p:=h H
theorem kE {p q:Prop}(H:q) (h:q->p:=by(intro h_;repeat(first|exact h_|(with_reducible refine tX ?_ _)|(with_reducible refine tZ ?_ _)|(with_reducible refine tY ?_)))):p:=h H
theorem kW {α β:Type}{o:Option α}{f:α->Option β}{r:β}(h:o.bind f=some r):∃a,jP (o=some a)/\f a=some r:=by
 obtain⟨a,h1,h2⟩:=Option.bind_eq_some_iff.mp h
 exact⟨a,⟨h1⟩,h2⟩
section
variable {w:World}{g:Nat}{t:TypeId}{v0 v1 v2 v3 v4 v5:Value}
theorem d1 (H:jP (w.heap[g]? =some (.cells #[v0] t (0,0)))):w.cell? ⟨g,0,none⟩=some v0/\w.frozen? ⟨g,0,none⟩=false:=⟨(mG H.out 0).trans rfl,l9 H.out 0⟩
theorem kr (H:jP (w.heap[g]? =some (.cells #[v0,v1] t (0,0)))):w.cell? ⟨g,0,none⟩=some v0/\w.cell? ⟨g,1,none⟩=some v1/\w.frozen? ⟨g,0,none⟩=false/\w.frozen? ⟨g,1,none⟩=false:=⟨(mG H.out 0).trans rfl,(mG H.out 1).trans rfl,l9 H.out 0,l9 H.out 1⟩
theorem d3 (H:jP (w.heap[g]? =some (.cells #[v0,v1,v2] t (0,0)))):w.cell? ⟨g,0,none⟩=some v0/\w.cell? ⟨g,1,none⟩=some v1/\w.cell? ⟨g,2,none⟩=some v2/\w.frozen? ⟨g,0,none⟩=false/\w.frozen? ⟨g,1,none⟩=false/\w.frozen? ⟨g,2,none⟩=false:=⟨(mG H.out 0).trans rfl,(mG H.out 1).trans rfl,(mG H.out 2).trans rfl,l9 H.out 0,l9 H.out 1,l9 H.out 2⟩
theorem d4 (H:jP (w.heap[g]? =some (.cells #[v0,v1,v2,v3] t (0,0)))):w.cell? ⟨g,0,none⟩=some v0/\w.cell? ⟨g,1,none⟩=some v1/\w.cell? ⟨g,2,none⟩=some v2/\w.cell? ⟨g,3,none⟩=some v3/\w.frozen? ⟨g,0,none⟩=false/\w.frozen? ⟨g,1,none⟩=false/\w.frozen? ⟨g,2,none⟩=false/\w.frozen? ⟨g,3,none⟩=false:=⟨(mG H.out 0).trans rfl,(mG H.out 1).trans rfl,(mG H.out 2).trans rfl,(mG H.out 3).trans rfl,l9 H.out 0,l9 H.out 1,l9 H.out 2,l9 H.out 3⟩
theorem d5 (H:jP (w.heap[g]? =some (.cells #[v0,v1,v2,v3,v4] t (0,0)))):w.cell? ⟨g,0,none⟩=some v0/\w.cell? ⟨g,1,none⟩=some v1/\w.cell? ⟨g,2,none⟩=some v2/\w.cell? ⟨g,3,none⟩=some v3/\w.cell? ⟨g,4,none⟩=some v4/\w.frozen? ⟨g,0,none⟩=false/\w.frozen? ⟨g,1,none⟩=false/\w.frozen? ⟨g,2,none⟩=false/\w.frozen? ⟨g,3,none⟩=false/\w.frozen? ⟨g,4,none⟩=false:=⟨(mG H.out 0).trans rfl,(mG H.out 1).trans rfl,(mG H.out 2).trans rfl,(mG H.out 3).trans rfl,(mG H.out 4).trans rfl,l9 H.out 0,l9 H.out 1,l9 H.out 2,l9 H.out 3,l9 H.out 4⟩
theorem d6 (H:jP (w.heap[g]? =some (.cells #[v0,v1,v2,v3,v4,v5] t (0,0)))):w.cell? ⟨g,0,none⟩=some v0/\w.cell? ⟨g,1,none⟩=some v1/\w.cell? ⟨g,2,none⟩=some v2/\w.cell? ⟨g,3,none⟩=some v3/\w.cell? ⟨g,4,none⟩=some v4/\w.cell? ⟨g,5,none⟩=some v5/\w.frozen? ⟨g,0,none⟩=false/\w.frozen? ⟨g,1,none⟩=false/\w.frozen? ⟨g,2,none⟩=false/\w.frozen? ⟨g,3,none⟩=false/\w.frozen? ⟨g,4,none⟩=false/\w.frozen? ⟨g,5,none⟩=false:=⟨(mG H.out 0).trans rfl,(mG H.out 1).trans rfl,(mG H.out 2).trans rfl,(mG H.out 3).trans rfl,(mG H.out 4).trans rfl,(mG H.out 5).trans rfl,l9 H.out 0,l9 H.out 1,l9 H.out 2,l9 H.out 3,l9 H.out 4,l9 H.out 5⟩
end
section
variable {P:Program}{ops:Array Oper}{Q:Exit->Act->World->Prop}
theorem kI {rest:List Oper}{o:Oper}{a:Act}{w:World}(N:Tmp) (_hN:o.dst=some N) (h:wpList P ops Q (o::rest) a w):wpList P ops Q (o::rest) a w:=h
theorem kY {rest:List Oper}{o:Oper}{a:Act}{w:World}(f:FuncId) {as_:Array Operand}{ts:Array TypeId}(_ho:o.op=.call {callee:=.value (.func f),args:=as_,argTypes:=ts}) (h:wpList P ops Q (o::rest) a w):wpList P ops Q (o::rest) a w:=h
theorem xV {rest:List Oper}{oi:Oper}{a:Act}{w:World}{f:FuncId}(N:Tmp) {fn:Func}{as_:Array Operand}{ts:Array TypeId}(hf:P.funcs[f]? =some fn) (args:Array Value)
  (h:Calls P f args w fun e w'=>∃v,e=.returned v/\wpList P ops Q rest (a.put (some N) v) w')
  (hop : oi.op = .call { callee := .value (.func f), args := as_, argTypes := ts } := by with_reducible rfl) (hd : oi.dst = some N := by rfl) (hg : oi.guard = none := by rfl) (hname : (fn.name == "runtime.NumGoroutine") = false := by kernel_rfl) (hb : fn.body.isSome = true := by rfl)
  (hargs:as_.map a.eval=args:=by exact qH):wpList P ops Q (oi::rest) a w:=sW (some N) hd hg hf hname hb args hop hargs h
variable {md:Region.Mode}{S:World->Prop}{ds:List Nat}
theorem gs {oi:Oper}{N:Option Tmp}{a:Act}{w:World}{K:Act->World->Prop}{f:FuncId}{fn:Func}{as_:Array Operand}{ts:Array TypeId}(hf:P.funcs[f]? =some fn) (args:Array Value)
  (h : Calls P f args w fun e w' => ∃ v, e = .returned v ∧ K (a.put N v) w') (hop : oi.op = .call { callee := .value (.func f), args := as_, argTypes := ts } := by rfl) (hname : (fn.name == "runtime.NumGoroutine") = false := by kernel_rfl) (hb : fn.body.isSome = true := by rfl)
  (hw:Region.wanted oi (yielded ops a.tmps)=true:=by rfl) (hN:oi.dst=N:=by rfl) (hargs:as_.map a.eval=args:=by exact qH):if Region.wanted oi (yielded ops a.tmps)=true then Oper.wp P oi a w K Q else K (a.put N undef) w:=qg hf hname hb args hw hN hop hargs h
theorem lD {oi:Oper}{fuel n b0:Nat}{a:Act}{w:World}(i:Nat) (N:Tmp) (b:Nat)
  (h:∀K:Act->World->Prop,Shut (∀a' w',S w'->(S w'->lQ P md ops Q S ds fuel (lm n b) a' w')->K a' w')->if Region.wanted oi (yielded ops a.tmps)=true then Oper.wp P oi a w K Q else K (a.put (some N) undef) w)
  (hi:ops[i]? =some oi:=by rfl) (hN:oi.dst=some N:=by rfl) (hc:uV md ops (lm n b0) (lm n b) i=true:=by exact qR HT_.out (by kernel_rfl)) (hd:i∉ds:=by decide):lQ P md ops Q S ds (fuel+1) (lm n b0) a w:=qz (lm n b) hi hN hc hd h
theorem wh {oi:Oper}{fuel:Nat}{l:Array Bool}{a:Act}{w:World}(i:Nat) (N:Option Tmp) (l':Array Bool)
  (h:∀K:Act->World->Prop,Shut (∀a' w',S w'->(S w'->lQ P md ops Q S ds fuel l' a' w')->K a' w')->if Region.wanted oi (yielded ops a.tmps)=true then Oper.wp P oi a w K Q else K (a.put N undef) w)
  (hi:ops[i]? =some oi:=by rfl) (hN:oi.dst=N:=by rfl) (hc:uV md ops l l' i=true:=by exact qR HT_.out (by kernel_rfl)) (hd:i∉ds:=by decide):lQ P md ops Q S ds (fuel+1) l a w:=qz l' hi hN hc hd h
theorem mZ {id:Nat}{a:Act}{w:World}{T:Bool×List (List Nat×List Nat)}{B:List Nat}(n:Nat) {S:World->Prop}(ds:List Nat) (hS:S w.drew) (hT:mR .any ops=T) (hB:nS T.2 B=true)
  (h:S w.drew->jP (mR .any ops=T)->jP (nS T.2 B=true)->lQ P .any ops Q S ds n (lm n 0) a w.drew) (hm:P.follows .mixedOrders=true:=by kernel_rfl) (hn:ops.size=n:=by rfl)
  (hl:Array.replicate n false=lm n 0:=by kernel_rfl):(Code.region id ops true).wp P Q a w:=uX (lm n 0) hm hn hl hS fun h1=>xn hT hB (h h1)
theorem ry {oi:Oper}{fuel:Nat}{l:Array Bool}{a:Act}{w:World}(i:Nat) (N:Option Tmp) (l':Array Bool)
  (h:∀K:Act->World->Prop,Shut (∀a' w',lQ P md ops Q S ds fuel l' a' w'->K a' w')->if Region.wanted oi (yielded ops a.tmps)=true then Oper.wp P oi a w K Q else K (a.put N undef) w)
  (hi:ops[i]? =some oi:=by rfl) (hN:oi.dst=N:=by rfl) (hc:uV md ops l l' i=true:=by exact qR HT_.out (by kernel_rfl)) (hd:i∈ds:=by decide):lQ P md ops Q S ds (fuel+1) l a w:=Bu l' hi hN hc hd h
end
theorem mV {P:Prop} [Decidable P] {α:Type}{x:Option α}{r:α}(h:(if P then x else none)=some r):P/\x=some r:=by
 by_cases c:P
 ·rw[if_pos c]at h;exact⟨c,h⟩
 rw[if_neg c]at h;cases h
theorem yc {P:Prop} [Decidable P] {α:Type}{x:Option α}{r:α}(h:(if P then none else x)=some r):¬P/\x=some r:=by
 by_cases c:P
 ·rw[if_pos c]at h;cases h
 rw[if_neg c]at h;exact⟨c,h⟩
theorem lh {P:Prop} [Decidable P] {α:Type}{x:Option α}{r:α}(h:(if P then x else none)=some r):decide P=true/\x=some r:=⟨decide_eq_true (mV h).1,(mV h).2⟩
theorem mr {b:Bool}{α:Type}{x y:Option α}{r:α}(h:(if b=true then x else y)=some r):b=true/\x=some r\/b=false/\y=some r:=by
 cases b with
 |true=>exact .inl ⟨rfl,h⟩
 |false=>exact .inr ⟨rfl,h⟩
theorem l7 {p q e:Prop}(hy:e) (H:q) (h:e->q->p:=by(intro hy_ H_;first|(rw[hy_];with_reducible exact H_)|(have aJ:=(Option.bind_some _ _).symm.trans H_;rw[hy_];with_reducible exact aJ)|(have aJ:=(Option.bind_some _ _).symm.trans H_;with_reducible exact aJ)|with_reducible exact H_|(rw[hy_];exact H_)|exact H_)):p:=h hy H
theorem MG {w:World}{g t:Nat}{a b u v:Value}(H:w.heap[g]? =some (.cells #[a,b] t (0,0))):((w.setCell ⟨g,0,none⟩ u).setCell ⟨g,1,none⟩ v).heap[g]? =some (.cells #[u,v] t (0,0)):=vS (cs:= #[u,b]) (vS (cs:= #[a,b]) H 0 _ rfl) 1 _ rfl
theorem MF {w:World}{g t:Nat}{a b v:Value}(H:w.heap[g]? =some (.cells #[a,b] t (0,0))):(w.setCell ⟨g,1,none⟩ v).heap[g]? =some (.cells #[a,v] t (0,0)):=vS (cs:= #[a,b]) H 1 _ rfl
theorem ME {w:World}{g t:Nat}{a b u:Value}(H:w.heap[g]? =some (.cells #[a,b] t (0,0))):(w.setCell ⟨g,0,none⟩ u).heap[g]? =some (.cells #[u,b] t (0,0)):=vS (cs:= #[a,b]) H 0 _ rfl
theorem lM {p q:Prop}(H:q) (h:q->p:=by(intro h_;repeat(first|(with_reducible first|exact h_|refine pO ?_ _|refine kQ ?_|refine nG ?_ _)|refine pQ ?_ (jP.out (by assumption)) _|apply MG|apply MF|apply ME|exact h_))):p:=h H
theorem qa {p q r:Prop}(H:q) (N:r) (h:q->r->p:=by(intro ap_ ag_;first|exact Nat.ne_of_lt (Nat.lt_of_lt_of_le (by have:=World.block_lt_of_cell? _ _ ap_;first|rwa [add_block]at this|exact this) ag_)|(rw[add_block];exact Nat.ne_of_lt (Nat.lt_of_lt_of_le (by have:=World.block_lt_of_cell? _ _ ap_;first|rwa [add_block]at this|exact this) ag_))|(show(Addr.add _ _).block≠_;rw[add_block];exact Nat.ne_of_lt (Nat.lt_of_lt_of_le (by have:=World.block_lt_of_cell? _ _ ap_;first|rwa [add_block]at this|exact this) ag_))|(dsimp only;exact Nat.ne_of_lt (Nat.lt_of_lt_of_le (by have:=World.block_lt_of_cell? _ _ ap_;first|rwa [add_block]at this|exact this) ag_)))):p:=h H N
theorem jX {p:Prop} [Decidable p] (h:decide p=true:=by first|(with_reducible assumption)|assumption):p:=of_decide_eq_true h
theorem mX(h:p:=by first|rfl|(simp[oV,oW]<;>rfl)|(simp[*,oV,oW]<;>rfl)):p:=h
end Go.Proofs.Ytgeonpciodepgaa.P
namespace Go.Proofs.Ytgeonpciodepgaa.P
open Go.RowKit Go.Proofs.YtgeonpciodepgaaW.PrintWords Go.Proofs.YtgeonpciodepgaaW.PrintLast Go.Proofs.YtgeonpciodepgaaW.PrintWords.Kd
theorem qm {p q1 q2 q3 q4 q5 q6 q7 q8 q9 q10 q11 q12 q13 q14:Prop}(h1:q1) (h2:q2:=by exact trivial) (h3:q3:=by exact trivial) (h4:q4:=by exact trivial) (h5:q5:=by exact trivial) (h6:q6:=by exact trivial) (h7:q7:=by exact trivial) (h8:q8:=by exact trivial)
  (h9:q9:=by exact trivial) (h10:q10:=by exact trivial) (h11:q11:=by exact trivial) (h12:q12:=by exact trivial) (h13:q13:=by exact trivial) (h14:q14:=by exact trivial)
  (h:q1->q2->q3->q4->q5->q6->q7->q8->q9->q10->q11->q12->q13->q14->p:=by
   (intro a_ b_ c_ d_ e_ f_ g_ i_ j_ k_ l_ m_ n_ o_;repeat' with_reducible first|exact LeO.refl _|exact LeO.none _|refine LeO.ite ?_ ?_|refine LeO.bind ?_ (fun _=>?_)|apply a_|apply b_|apply c_|apply d_|apply e_|apply f_|apply g_|apply i_|apply j_|apply k_|apply l_|apply m_|apply n_|apply o_)):p:=h h1 h2 h3 h4 h5 h6 h7 h8 h9 h10 h11 h12 h13 h14
section
variable {P:Program}{ops:Array Oper}{Q:Exit->Act->World->Prop}{rest:List Oper}{o:Oper}{a:Act}{w:World}{f:FuncId}{fn:Func}{as_:Array Operand}{ts:Array TypeId}{args:Array Value}{v:Value}
theorem lH {R:Ending->World->Prop}(N:Tmp) (hd:o.dst=some N) (hf:P.funcs[f]? =some fn) (T:Calls P f args w R) (h:∀e w',R e w'->∃v,e=.returned v/\wpList P ops Q rest (a.put (some N) v) w')
  (hop : o.op = .call { callee := .value (.func f), args := as_, argTypes := ts } := by with_reducible rfl) (hg : o.guard = none := by rfl) (hname : (fn.name == "runtime.NumGoroutine") = false := by kernel_rfl) (hb : fn.body.isSome = true := by rfl)
  (hargs:as_.map a.eval=args:=by exact qH):wpList P ops Q (o::rest) a w:=sW (some N) hd hg hf hname hb args hop hargs (T.mono h)
theorem oF {B:World->Prop}(N:Tmp) (hd:o.dst=some N) (hf:P.funcs[f]? =some fn) (T:Calls P f args w fun e w'=>e=.returned v/\B w') (h:∀w',B w'->wpList P ops Q rest (a.put (some N) v) w')
  (hop : o.op = .call { callee := .value (.func f), args := as_, argTypes := ts } := by with_reducible rfl) (hg : o.guard = none := by rfl) (hname : (fn.name == "runtime.NumGoroutine") = false := by kernel_rfl) (hb : fn.body.isSome = true := by rfl)
  (hargs:as_.map a.eval=args:=by exact qH):wpList P ops Q (o::rest) a w:=lH N hd hf T (fun _ w' ⟨h1,h2⟩=>⟨v,h1,h w' h2⟩) hop hg hname hb hargs
theorem mE {R:Ending->World->Prop}{N:Option Tmp}{K:Act->World->Prop}(hf:P.funcs[f]? =some fn) (T:Calls P f args w R) (h:∀e w',R e w'->∃v,e=.returned v/\K (a.put N v) w')
  (hop : o.op = .call { callee := .value (.func f), args := as_, argTypes := ts } := by rfl) (hname : (fn.name == "runtime.NumGoroutine") = false := by kernel_rfl) (hb : fn.body.isSome = true := by rfl)
  (hw:Region.wanted o (yielded ops a.tmps)=true:=by rfl) (hN:o.dst=N:=by rfl) (hargs:as_.map a.eval=args:=by exact qH):if Region.wanted o (yielded ops a.tmps)=true then Oper.wp P o a w K Q else K (a.put N undef) w:=qg hf hname hb args hw hN hop hargs (T.mono h)
theorem rD {B:World->Prop}{N:Option Tmp}{K:Act->World->Prop}(hf:P.funcs[f]? =some fn) (T:Calls P f args w fun e w'=>e=.returned v/\B w') (h:∀w',B w'->K (a.put N v) w')
  (hop : o.op = .call { callee := .value (.func f), args := as_, argTypes := ts } := by rfl) (hname : (fn.name == "runtime.NumGoroutine") = false := by kernel_rfl) (hb : fn.body.isSome = true := by rfl)
  (hw:Region.wanted o (yielded ops a.tmps)=true:=by rfl) (hN:o.dst=N:=by rfl) (hargs:as_.map a.eval=args:=by exact qH):if Region.wanted o (yielded ops a.tmps)=true then Oper.wp P o a w K Q else K (a.put N undef) w:=mE hf T (fun _ w' ⟨h1,h2⟩=>⟨v,h1,h w' h2⟩) hop hname hb hw hN hargs
theorem lu {W:World}(cs:Array Value) (t:TypeId)
  (h:∀g,g=W.heap.size->∀w1,w1.heap[g]? =some (.cells cs t (0,0))->Below W.heap.size W w1->wpList P ops Q rest (a.put o.dst (.pointer (some ⟨g,0,none⟩))) w1)
  (hgd:o.guard=none:=by rfl)
  (hrun:(execOp a.eval o).run P W=.ok (.value (.pointer (some ⟨W.heap.size,0,none⟩))) (W.alloc (.cells cs t (0,0))):=by first|(go_simp;done)|(go_simp;rfl)):wpList P ops Q (o::rest) a W:=Bp hgd hrun (h _ rfl _ (yT W _) (pJ (Below.refl _ _) _))
end
section
variable {P:Program}{md:Region.Mode}{ops:Array Oper}{Q:Exit->Act->World->Prop}{S:World->Prop}{ds:List Nat}
theorem kJ {fuel n b0:Nat}{a:Act}{w:World}{oi:Oper}{v:Value}{a':Act}(i:Nat) (N:Tmp) (b:Nat) (h:lQ P md ops Q S ds fuel (lm n b) a' w)
  (hi:ops[i]? =some oi:=by rfl) (hN:oi.dst=some N:=by rfl) (hc:takeB md ops ds (lm n b0) (lm n b) i=true:=by first|exact rV HT_.out HW_.out (by kernel_rfl)|kernel_rfl)
  (hQ:∀c a w,Q (.panic c) (a.put oi.dst v) w->Q (.panic c) a w:=by exact fun _ _ _ h=>h) (hy:YieldsIf P ops S oi v a:=by exact Or.inl ⟨by rfl,by(intro w' h_;(repeat(obtain⟨_,h_⟩:=h_));go_simp;with_reducible rfl)⟩) (hS:S w:=by exact hHeld)
  (ha:a.put (some N) v=a':=by first|(simp only [Act.put,List.setIfInBounds_toArray,List.set_cons_zero,List.set_cons_succ,mJ,nz];rfl)|rfl):lQ P md ops Q S ds (fuel+1) (lm n b0) a w:=
 qN (lm n b) hi hN hc hQ hy hS ha h
end
theorem pz {α:Type}{P:Program}{ops:Array Oper}{Q:Exit->Act->World->Prop}{rest:List Oper}{o:Oper}{a:Act}{W:World}(d:Kd α) {N:Tmp}(hd:o.dst=some N) (e:Nat) (xs:List α) (inner:List Value) (hrep:kT (d.M W W.heap.size (fun _=>True)) d.sz xs inner)
  (h:∀v1 w1,d.R e w1 W.heap.size (fun _=>True) v1 xs->Below W.heap.size W w1->W.grownBy w1 none->(∃b,v1.ownBlock=some b/\W.heap.size<=b)->wpList P ops Q rest (a.put o.dst v1) w1)
  (hm:xs.length<=9223372036854775807:=by simp) (hgd:o.guard=none:=by rfl)
  (hrun:(execOp a.eval o).run P W=.ok (.value (.slice (some ⟨W.heap.size,0,none⟩) xs.length xs.length)) (W.alloc (.cells inner.toArray e)):=by first|(go_simp;done)|(go_simp;rfl)):wpList P ops Q (o::rest) a W:=Ak d _ e hgd hd hrun hrep (fun _ hk=>hk) trivial (Below.refl _ _) (Nat.le_refl _) hm h
theorem mf {p:Prop} [Decidable p] {α:Type}{x y:Option α}{r:α}(h:(if p then x else y)=some r):decide p=true/\x=some r\/decide p=false/\y=some r:=by
 by_cases c:p
 ·rw[if_pos c]at h;exact .inl ⟨decide_eq_true c,h⟩
 rw[if_neg c]at h;exact .inr ⟨decide_eq_false c,h⟩
end Go.Proofs.Ytgeonpciodepgaa.P
namespace Go.Proofs.Ytgeonpciodepgaa.P
set_option maxHeartbeats 8000000
set_option maxRecDepth 100000
open Go.RowKit Go.Proofs.YtgeonpciodepgaaW.PrintWords Go.Proofs.YtgeonpciodepgaaW.PrintLast Go.Proofs.YtgeonpciodepgaaW.PrintMore Go.Proofs.YtgeonpciodepgaaW.PrintWords.Kd Go.Proofs.YtgeonpciodepgaaW.PrintMore.Kd
attribute [local go_sem] uM uQ uP uT uO uS uN uR
def EO:Option Int->Value
  |none=> .nilIface
  |some c=> .iface 0 (.int .i64 c)
theorem oV:EO none=.nilIface:=rfl
theorem oW (c:Int):EO (some c)=.iface 0 (.int .i64 c):=rfl
theorem info3:(Try.prog.info? 3).map (fun i=>(i.zero,i.size,i.bytes))=some (some (.int .i64 0),1,8):=by kernel_rfl
theorem Br:(Try.prog.info? 4).map (fun i=>(i.zero,i.size,i.bytes))=some (some (.bool false),1,1):=by kernel_rfl
theorem info5:(Try.prog.info? 5).map (fun i=>(i.zero,i.size,i.bytes))=some (some (.int .u8 0),1,1):=by kernel_rfl
theorem EZ:(Try.prog.info? 45).map (fun i=>(i.zero,i.size,i.bytes))=some (some (.slice none 0 0),1,24):=by kernel_rfl
theorem rE:(Try.prog.info? 59).map (fun i=>(i.zero,i.size,i.bytes))=some (some (.agg #[(.int .i64 0),(.int .i64 0)]),2,16):=by kernel_rfl
abbrev S59:=G.Tie
def z59:S59:=⟨(0:Int),(0:Int)⟩
def k59:Kd S59:=Kd.iso (Kd.pair (Kd.int .i64) (Kd.int .i64)) (fun x:S59=>(x.f0,x.f1))
theorem JK {w:World}{x:S59}{cs:List Value}(h:k59.K w x cs):cs=[.int .i64 x.f0,.int .i64 x.f1]:=by
  obtain⟨_,_,rfl,rfl,rfl⟩:=h;exact rfl
theorem E8 {w:World}{base:Nat}{ok:Nat->Prop}{x:S59}{cs:List Value}(h:k59.M w base ok x cs):cs=[.int .i64 x.f0,.int .i64 x.f1]:=by
  obtain⟨_,_,rfl,rfl,rfl⟩:=h;exact rfl
theorem qi (w:World) (base:Nat) (ok:Nat->Prop) (x:S59):k59.M w base ok x [.int .i64 x.f0,.int .i64 x.f1]:=⟨[.int .i64 x.f0],[.int .i64 x.f1],rfl,rfl,rfl⟩
def jQ (xs:List S59) (i:Int):S59:=xs.getD i.toNat z59
theorem ng {w:World}{A:Option Addr}{n:Nat}{xs:List S59}(h:Kd.C k59 w A n xs) (i:Int) (h0:0<=i) (h1:i<n):∃ad,A=some ad/\w.cell? (ad.add (i.toNat*2))=some (.int .i64 (jQ xs i).f0)/\w.cell? ⟨(ad.add (i.toNat*2)).block,(ad.add (i.toNat*2)).off+1,none⟩=some (.int .i64 (jQ xs i).f1):=by
  obtain⟨ad,c,e,_,hK,aa⟩:=Cq h z59 i h0 h1;have hc:∀j u,c[j]? =some u->w.cell? (ad.add (i.toNat*2+j))=some u:=aa;obtain rfl:=JK hK;exact⟨ad,e,hc 0 _ rfl,by rw[←Hf _ _ 1 (by omega)];exact hc 1 _ rfl⟩
structure S31 where
  f0:Int
  f1:(List S59)
def qM (xs:List (List Int)) (i:Int):(List Int):=xs.getD i.toNat ([]:List Int)
theorem yO {w:World}{A:Option Addr}{n:Nat}{xs:List (List Int)}(h:Kd.C (Kd.slice 3 (Kd.int .i64)) w A n xs) (i:Int) (h0:0<=i) (h1:i<n):∃ad A0 c0,A=some ad/\w.cell? (ad.add i.toNat)=some (.slice A0 (qM xs i).length c0)/\(qM xs i).length<=c0/\(Kd.int .i64).C w A0 (qM xs i).length (qM xs i):=by
  obtain⟨ad,c,e,_,hK,aa⟩:=Cq h ([]:List Int) i h0 h1;have hc:∀j u,c[j]? =some u->w.cell? (ad.add (i.toNat*1+j))=some u:=aa;obtain⟨A0,c0,rfl,l0,g0⟩:=hK;exact⟨ad,A0,c0,e,by have hq:=hc 0 _ rfl;rwa [Nat.mul_one,Nat.add_zero]at hq,l0,g0⟩
end Go.Proofs.Ytgeonpciodepgaa.P
namespace Go.Proofs.Ytgeonpciodepgaa.P
open Go.RowKit Go.Proofs.YtgeonpciodepgaaW.PrintWords Go.Proofs.Ytgeonpciodepgaa.G Go.Proofs.YtgeonpciodepgaaW.PrintWords.Kd
def xY (t:G.Tie) (i:Nat):MapEntry:=⟨.agg #[.int .i64 t.f0,.int .i64 t.f1],.bool true,i⟩
def qK:Nat->List G.Tie->List MapEntry
 |_,[]=>[]
 |i,t::r=>xY t i::qK (i+1) r
def ou (l:List G.Tie):Obj:=.map (qK 0 l).toArray l.length
def qU:List G.Tie->Int->Int->Bool
 |[],_,_=>false
 |t::r,a,b=>(a==t.f0&&b==t.f1)||qU r a b
theorem Fp:∀ (l:List G.Tie) (i:Nat),(qK i l).length=l.length
 |[],_=>rfl
 |_::r,i=>by simp[qK,Fp r]
theorem Fq (t:G.Tie):∀ (l:List G.Tie) (i:Nat),qK i l++[xY t (i+l.length)]=qK i (l++[t])
 |[],i=>by simp[qK]
 |x::r,i=>by
  simp only [qK,List.cons_append,List.length_cons]
  rw[←Fq t r (i+1)]
  simp[Nat.add_comm,Nat.add_left_comm,Nat.add_assoc]
theorem Kk (l:List G.Tie) (t:G.Tie):Obj.map ((qK 0 l).toArray.push (xY t l.length)) (l.length+1)=ou (l++[t]):=by
 have h:=Fq t l 0
 simp only [Nat.zero_add]at h
 simp[ou,←h]
theorem mEq (d:Nat) (w:World) (x0 y0:Int) (x1 y1:Int):
  (Op.equalIn (d+2) 59 (.agg #[.int .i64 x0,.int .i64 x1]) (.agg #[.int .i64 y0,.int .i64 y1])).run Try.prog w=.ok (x0==y0&&(x1==y1)) w:=by
 refine EL Try.underlying59 (by kernel_rfl) ?_
 refine EM (by rfl) (by go_simp;rfl) (by go_simp;rfl) (by go_simp) ?_
 exact EN (by rfl) (by go_simp;rfl) (by go_simp;rfl) (by go_simp)
theorem Kg (w:World) (x0 y0:Int) (x1 y1:Int):
  (Op.equal 59 (.agg #[.int .i64 x0,.int .i64 x1]) (.agg #[.int .i64 y0,.int .i64 y1])).run Try.prog w=.ok (x0==y0&&(x1==y1)) w:=mEq _ w x0 y0 x1 y1
theorem Fh (w:World) (a b:Int):∀ (l:List G.Tie) (i j:Nat),
  (qU l a b=false->(Instr.findAsking 59 (.agg #[.int .i64 a,.int .i64 b]) (qK i l) j).run Try.prog w=.ok none w)/\
  (qU l a b=true->∃n,(Instr.findAsking 59 (.agg #[.int .i64 a,.int .i64 b]) (qK i l) j).run Try.prog w=.ok (some (n,.bool true)) w)
 |[],i,j=>⟨fun _=>by simp[qK,Instr.findAsking],fun h=>by simp[qU]at h⟩
 |t::r,i,j=>by
  have ih:=Fh w a b r (i+1) (j+1)
  simp only [qK,Instr.findAsking,qU]
  have e:(Op.equal 59 (.agg #[.int .i64 a,.int .i64 b]) (xY t i).key).run Try.prog w=.ok (a==t.f0&&(b==t.f1)) w:=Kg w a t.f0 b t.f1
  cases h:(a==t.f0&&b==t.f1)
  ·simp only [Bool.false_or]
   rw[h]at e
   refine⟨fun h1=>?_,fun h1=>?_⟩
   ·simp[Sem.run_bind,e,Result.andThen,ih.1 h1]
   obtain⟨n,hn⟩:=ih.2 h1
   exact⟨n,by simp[Sem.run_bind,e,Result.andThen,hn]⟩
  rw[h]at e
  exact⟨fun h1=>by simp at h1,fun _=>⟨j,by simp[Sem.run_bind,e,Result.andThen];rfl⟩⟩
theorem Fs (w:World) (a b:Int) (l:List G.Tie):
  (qU l a b=false->(Instr.findKey 59 (.agg #[.int .i64 a,.int .i64 b]) (qK 0 l)).run Try.prog w=.ok none w)/\
  (qU l a b=true->∃n,(Instr.findKey 59 (.agg #[.int .i64 a,.int .i64 b]) (qK 0 l)).run Try.prog w=.ok (some (n,.bool true)) w):=by
 have h:=Fh w a b l 0 0
 unfold Instr.findKey
 cases l with
 |nil=>exact⟨fun _=>by simp[qK,Instr.findNow,Sem.run_bind,run_underlying Try.underlying59,Result.andThen],fun h=>by simp[qU]at h⟩
 |cons t r=>
  refine⟨fun h1=>?_,fun h1=>?_⟩
  ·simp[Sem.run_bind,run_underlying Try.underlying59,Result.andThen,Instr.findNow,qK,Instr.sameNow]
   simpa [qK] using h.1 h1
  obtain⟨n,hn⟩:=h.2 h1
  exact⟨n,by
   simp[Sem.run_bind,run_underlying Try.underlying59,Result.andThen,Instr.findNow,qK,Instr.sameNow]
   simpa [qK] using hn⟩
theorem BH (w:World) (em:Bool) (a b:Int):(Instr.checkKey em 10000 59 (.agg #[.int .i64 a,.int .i64 b])).run Try.prog w=.ok () w:=by
 have c:∀x:Int,(Instr.checkKey em 9999 3 (.int .i64 x)).run Try.prog w=.ok () w:=fun x=>MapKept.run_checkKey (k:=.int .i64 x) Try.underlying3 (show MapKept.IsKey (.int .i64) (.int .i64 x) from rfl) em 9998
 unfold Instr.checkKey
 simp[Sem.run_bind,run_underlying Try.underlying59,Result.andThen]
 have p0:(part 3 #[Value.int IntKind.i64 a,Value.int IntKind.i64 b] 0).run Try.prog w=.ok (.int .i64 a) w:=by go_simp
 have p1:(part 3 #[Value.int IntKind.i64 a,Value.int IntKind.i64 b] 1).run Try.prog w=.ok (.int .i64 b) w:=by go_simp
 simp[p0,p1,c]
theorem Ki {w:World}{g:Nat}{l:List G.Tie}(hb:w.heap[g]? =some (ou l)) (a b:Int):
  (Instr.lookup 69 (.map (some g)) (.agg #[.int .i64 a,.int .i64 b]) false).run Try.prog w=.ok (.bool (qU l a b)) w:=by
 have hf:=Fs w a b l
 cases h:qU l a b
 ·have z:(zeroValue 4).run Try.prog w=.ok (.bool false) w:=by kernel_rfl
  simp[Instr.lookup,run_underlying Try.underlying69,MapKept.run_getObj_map hb,BH,hf.1 h,z,Result.andThen,Sem.run_bind]
 obtain⟨n,hn⟩:=hf.2 h
 simp[Instr.lookup,run_underlying Try.underlying69,MapKept.run_getObj_map hb,BH,hn,Result.andThen,Sem.run_bind]
theorem Kl {w:World}{g:Nat}{l:List G.Tie}(hb:w.heap[g]? =some (ou l)) (t:G.Tie) (h:qU l t.f0 t.f1=false):
  ∃w1,(Instr.mapUpdate 69 (.map (some g)) (.agg #[.int .i64 t.f0,.int .i64 t.f1]) (.bool true)).run Try.prog w=.ok () w1/\w1.heap[g]? =some (ou (l++[t]))/\w.grownBy w1 (some g):=by
 have hf:=(Fs w t.f0 t.f1 l).1 h
 refine⟨ChangeMaps.setBlock w g (ou (l++[t])),?_,ChangeMaps.heap_setBlock_same hb _,⟨rfl,rfl,rfl,by simp[ChangeMaps.setBlock],fun i _ hi=>ChangeMaps.heap_setBlock_other hb _ (fun e=>hi (by rw[e]))⟩⟩
 rw[←Kk]
 simp[Instr.mapUpdate,run_underlying Try.underlying69,MapKept.run_getObj_map hb,BH,hf,MapKept.run_setObj_map _ hb,Result.andThen,Sem.run_bind,ChangeMaps.setBlock,xY]
theorem Kh {w:World}{g:Nat}{l:List G.Tie}(hb:w.heap[g]? =some (ou l)) (ty:TypeId):(Builtin.len_ #[69] ty #[.map (some g)]).run Try.prog w=.ok (.int .i64 l.length) w:=by
 simp[Builtin.len_,run_underlying Try.underlying69,MapKept.run_getObj_map hb,Result.andThen,Sem.run_bind,goInt,Fp]
section
variable {ops:Array Oper}{rest:List Oper}{o:Oper}{a:Act}{Q:Exit->Act->World->Prop}{W:World}{g:Nat}{l:List G.Tie}{x0 x1:Int}
theorem Kj (N:Tmp) (h:∀g,g=W.heap.size->∀w1,w1.heap[g]? =some (ou [])->Below W.heap.size W w1->wpList Try.prog ops Q rest (a.put o.dst (.map (some g))) w1)
  (hd:o.dst=some N:=by with_reducible rfl) (hg:o.guard=none:=by rfl) (hop:o.op=.makeMap 69 none:=by rfl):wpList Try.prog ops Q (o::rest) a W:=by
 refine wpList_plain hg fun K' hK'=>?_
 unfold Oper.wp
 have hr:(Instr.makeMap 69 none).run Try.prog W=.ok (.map (some W.heap.size)) (W.alloc (ou [])):=rfl
 simp only [execOp,hop]
 simp[hr,Result.andThen]
 exact hK' _ _ (h _ rfl _ (yT W (ou [])) (Below.alloc (Below.refl W.heap.size W) (Nat.le_refl _) _))
theorem Fj (N:Tmp) {m x:Operand}{b:Bool}(hb:W.heap[g]? =some (ou l)) (he:qU l x0 x1=b) (h:wpList Try.prog ops Q rest (a.put o.dst (.bool b)) W)
  (hd:o.dst=some N:=by with_reducible rfl) (hg:o.guard=none:=by rfl) (hop:o.op=.lookup 69 m x false:=by rfl)
  (hm:a.eval m=.map (some g):=by rfl) (hx:a.eval x=.agg #[.int .i64 x0,.int .i64 x1]:=by rfl):wpList Try.prog ops Q (o::rest) a W:=by
 refine wpList_plain hg fun K' hK'=>?_
 unfold Oper.wp
 simp[execOp,hop,hm,hx,Ki hb,he,Result.andThen]
 exact hK' _ _ h
theorem Fu (N:Tmp) {m:Operand}(hb:W.heap[g]? =some (ou l)) (h:wpList Try.prog ops Q rest (a.put o.dst (.int .i64 l.length)) W)
  (hd:o.dst=some N:=by with_reducible rfl) (hg:o.guard=none:=by rfl) (hop:o.op=.call {callee:=.builtin .len,args:= #[m],argTypes:= #[69]}:=by rfl)
  (hm:a.eval m=.map (some g):=by rfl):wpList Try.prog ops Q (o::rest) a W:=by
 refine wpList_plain hg fun K' hK'=>?_
 unfold Oper.wp
 have hl:=Kh hb
 simp only [execOp,hop,hm,resolve,Sem.run_bind,Sem.run_pure,Result.andThen_ok,List.map_toArray,List.map_cons,List.map_nil,invoke,builtin,hl]
 exact hK' _ _ h
theorem Km {m x v:Operand}(hb:W.heap[g]? =some (ou l)) (hn:qU l x0 x1=false)
  (h:∀w1,w1.heap[g]? =some (ou (l++[⟨x0,x1⟩]))->W.grownBy w1 (some g)->wpList Try.prog ops Q rest (a.put o.dst undef) w1)
  (hop:o.op=.mapUpdate 69 m x v:=by rfl) (hg:o.guard=none:=by rfl)
  (hm:a.eval m=.map (some g):=by rfl) (hx:a.eval x=.agg #[.int .i64 x0,.int .i64 x1]:=by rfl) (hv:a.eval v=.bool true:=by rfl):wpList Try.prog ops Q (o::rest) a W:=by
 refine wpList_plain hg fun K' hK'=>?_
 obtain⟨w1,hr,h1,h2⟩:=Kl hb ⟨x0,x1⟩ hn
 unfold Oper.wp
 simp[execOp,hop,hm,hx,hv,hr,Result.andThen]
 exact hK' _ _ (h _ h1 h2)
end
section
variable {α:Type}{d:Kd α}{e base:Nat}{ok:Nat->Prop}{w:World}{v:Value}{xs:List α}{g:Nat}{l:List G.Tie}
theorem mNe (h:d.R e w base ok v xs) (hb:w.heap[g]? =some (ou l)):some g≠v.ownBlock:=fun he=>by
 obtain⟨cells,hc⟩:=pF h g he.symm
 rw[hb]at hc
 simp[ou]at hc
theorem Kn (h:d.R e w base ok v xs) (hb:w.heap[g]? =some (ou l)):d.R e w base (fun k=>ok k/\k≠g) v xs:=
 kv (su h) (fun k hk=>⟨hk.1,by
  obtain⟨_,_,_,q,hq,cells',hc⟩:=hk
  rintro rfl
  rw[hc]at hb
  simp[ou]at hb⟩)
theorem wU {w:World}(h:w.heap[g]? =some (ou l)) {p:Addr}(hp:g≠p.block) (u:Value):(w.setCell p u).heap[g]? =some (ou l):=(Below.heap_setCell w p u g hp).trans h
theorem Ke {w0 w w1:World}(h:Below w0.heap.size w0 w) (hg:w.grownBy w1 (some g)) (hge:w0.heap.size<=g):Below w0.heap.size w0 w1:=
 ⟨hg.os.trans h.os,hg.tape.trans h.tape,hg.output.trans h.output,Nat.le_trans h.size hg.size,fun k hk=>(hg.block k (Nat.lt_of_lt_of_le hk h.size) (fun e=>by injection e with e;omega)).trans (h.block k hk)⟩
end
end Go.Proofs.Ytgeonpciodepgaa.P
namespace Go.Proofs.Ytgeonpciodepgaa.P
set_option maxHeartbeats 8000000
set_option maxRecDepth 100000
open Go.RowKit Go.Proofs.YtgeonpciodepgaaW.PrintWords Go.Proofs.YtgeonpciodepgaaW.PrintLast Go.Proofs.YtgeonpciodepgaaW.PrintMore Go.Proofs.YtgeonpciodepgaaW.PrintWords.Kd Go.Proofs.YtgeonpciodepgaaW.PrintMore.Kd
attribute [local go_sem] uM uQ uP uT uO uS uN uR
theorem Bo (d:Nat) (w:World) (x0 y0:Int) (x1 y1:Int):
  (Op.equalIn (d+2) 59 (.agg #[.int .i64 x0,.int .i64 x1]) (.agg #[.int .i64 y0,.int .i64 y1])).run Try.prog w=.ok (x0==y0&&(x1==y1)) w:=by
 refine EL Try.underlying59 (by kernel_rfl) ?_;refine EM (by rfl) (by go_simp;rfl) (by go_simp;rfl) (by go_simp) ?_;exact EN (by rfl) (by go_simp;rfl) (by go_simp;rfl) (by go_simp)
end Go.Proofs.Ytgeonpciodepgaa.P
