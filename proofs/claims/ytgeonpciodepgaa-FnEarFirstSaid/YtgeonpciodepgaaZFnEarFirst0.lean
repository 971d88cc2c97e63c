/- The proof's parts ahead of the row: of no condition of their own. -/
import Derived.ArgAppend
import Derived.Below
import Derived.BigQuiet
import Derived.ChangeSlices
import Derived.Deep.AppendLies
import Derived.Deep.CutBlock
import Derived.Deep.DeepCutAuto
import Derived.Deep.Draws
import Derived.Deep.LoopGhost
import Derived.Deep.OwnRows
import Derived.Deep.QuietTactic
import Derived.Deep.RegionHeld3
import Derived.KernelRfl
import Derived.Laws.BitsLemmas
import Derived.Laws.BytesArg
import Derived.Laws.IdiomCopy
import Derived.Laws.MakeOwn
import Derived.Laws.OwnMore
import Derived.Laws.Rows
import Derived.Laws.Slices
import Derived.Laws.StructEq
import Derived.Lib.AppendStr
import Derived.Lib.ConvBytes
import Derived.Maps.AppendAt
import Derived.OrdersHeld
import Derived.OwnWalk
import Derived.RowKit
import Derived.RowKit3
import Derived.SizedLaws
import Derived.Tactics
import Derived.WalkKit
import Derived.WalkLawsBesides
import Derived.WalkSpells
import Derived.WideLaws
import Derived.Test.YtgeonpciodepgaaProg
set_option linter.unusedVariables false
set_option linter.unusedSimpArgs false
namespace Go.Proofs.YtgeonpciodepgaaW.PrintWords
open Go.RowKit
structure jP (p:Prop):Prop where mk::(out:p)
structure kY (w w':World):Prop where mk::(out:∃n,w'=w.drewN n)
theorem kY.refl (w:World):kY w w:=⟨⟨0,rfl⟩⟩
theorem kY.step {w w':World}(h:kY w w') (n:Nat):kY w (w'.drewN n):=by
  obtain⟨m,rfl⟩:=h
  exact⟨⟨m+n,World.drewN_drewN ..⟩⟩
theorem kY.grown {w w':World}(h:kY w w'):Grown w w':=by
  obtain⟨n,rfl⟩:=h
  induction n with
  |zero=>exact Grown.refl _
  |succ n ih=>rw[←World.drew_drewN];exact Grown.drew ih
theorem kY.below {w w':World}(h:kY w w'):Below w.heap.size w w':=by
  obtain⟨n,rfl⟩:=h
  induction n with
  |zero=>exact Below.refl _ _
  |succ n ih=>rw[←World.drew_drewN];exact ih.drew
def rd (xs:List Int) (i:Int):Int:=xs.getD i.toNat 0
def bt (s:ByteArray) (i:Int):Int:=if h:i.toNat<s.size then((s[i.toNat]'h).toNat:Int) else 0
def bools (xs:List Bool):List Value:=xs.map fun x=> .bool x
theorem o6 {w W:World}(h:Below w.heap.size w W) (o:Obj):Below w.heap.size w (W.alloc o):=h.alloc h.size o
theorem wV {B:Nat}{w W:World}(h:Below B w W):Below B w W.drew:=⟨h.os,h.tape,h.output,h.size,h.block⟩
theorem pK {B:Nat}{w W:World}(h:Below B w W) (n:Nat):Below B w (W.drewN n):=⟨h.os,h.tape,h.output,h.size,h.block⟩
theorem Gh {B:Nat}{w w1 w2:World}(h:Below B w w1) (hB:B<=w1.heap.size) (k:Below w1.heap.size w1 w2):Below B w w2:=
  h.trans ⟨k.os,k.tape,k.output,k.size,fun i hi=>k.block i (Nat.lt_of_lt_of_le hi hB)⟩
theorem uj {w w1:World}(h:Below w.heap.size w w1) (row:Option Nat):w.grownBy w1 row:=⟨h.os,h.tape,h.output,h.size,fun i hi _=>h.block i hi⟩
theorem wJ {w w1:World}(h:Below w.heap.size w w1) {a:Addr}{v:Value}(hc:w.cell? a=some v):w1.cell? a=some v:=(h.cell (World.block_lt_of_cell? w a hc)).trans hc
theorem add_plain (g j:Nat):(⟨g,0,none⟩:Addr).add j=⟨g,j,none⟩:=by unfold Addr.add;split<;>simp_all
def qR (w:World) (k:IntKind) (A:Option Addr) (n:Nat) (xs:List Int):Prop:=
  xs.length=n/\n<=9223372036854775807/\(0<n->∃ad,A=some ad/\∀j,j<n->w.cell? (ad.add j)=some (.int k (xs.getD j 0)))
theorem qR.at_ {w:World}{k:IntKind}{A:Option Addr}{n:Nat}{xs:List Int}(h:qR w k A n xs) (i:Int) (h0:0<=i) (h1:i<n):∃ad,A=some ad/\w.cell? (ad.add i.toNat)=some (.int k (rd xs i)):=by
  obtain⟨ad,e,hc⟩:=h.2.2 (by omega)
  exact⟨ad,e,hc _ (by omega)⟩
theorem qR.below {w w1:World}{k:IntKind}{A:Option Addr}{n:Nat}{xs:List Int}(h:qR w k A n xs) (hb:Below w.heap.size w w1):qR w1 k A n xs:=
  ⟨h.1,h.2.1,fun hn=>by
    obtain⟨ad,e,hc⟩:=h.2.2 hn
    exact⟨ad,e,fun j hj=>wJ hb (hc j hj)⟩⟩
theorem Jr (W:World) (base:Nat) (e:TypeId) (size:Nat):W.ownsRow base e size (.slice none 0 0) 0 []:=⟨by simp,.inl ⟨rfl,rfl⟩⟩
theorem vG {w:World}{base:Nat}{e:TypeId}{size n:Nat}{v:Value}{xs:List Value}(h:w.ownsRow base e size v n xs) (k:Nat) (hk:v.ownBlock=some k):base<=k:=by
  rcases h.2 with⟨rfl,_⟩|⟨g,cap,cur,rfl,hb,_⟩
  · simp[Value.ownBlock]at hk
  have:g=k:=by simpa [Value.ownBlock] using hk
  omega
theorem Eu {w:World}{base:Nat}{e:TypeId}{size n:Nat}{v:Value}{xs:List Value}(h:w.ownsRow base e size v n xs) (k:Nat) (hk:v.ownBlock=some k):k<w.heap.size:=by
  rcases h.2 with⟨rfl,_⟩|⟨g,cap,cur,rfl,hb,hh,_⟩
  · simp[Value.ownBlock]at hk
  have:g=k:=by simpa [Value.ownBlock] using hk
  subst this
  exact(Array.getElem?_eq_some_iff.1 hh).1
theorem JB {w w1:World}{base:Nat}{e:TypeId}{size n:Nat}{v:Value}{xs:List Value}(h:w.ownsRow base e size v n xs) (hb:Below w.heap.size w w1):w1.ownsRow base e size v n xs:=
  h.kept (uj hb none) (by cases v.ownBlock<;>simp)
theorem Js {w w1:World}{base:Nat}{e:TypeId}{size n:Nat}{v:Value}{xs:List Value}(h:w.ownsRow base e size v n xs) {row:Option Nat}(hg:w.grownBy w1 row) (hne:v.ownBlock=none\/v.ownBlock≠row):w1.ownsRow base e size v n xs:=h.kept hg hne
theorem qR.qo {w:World}{k:IntKind}{A:Option Addr}{n:Nat}{xs:List Int}(h:qR w k A n xs) (i:Nat) (hi:i<=n):qR w k A i (xs.take i):=by
  refine⟨by rw[List.length_take,h.1];omega,by have:=h.2.1;omega,fun hp=>?_⟩
  obtain⟨ad,e,hc⟩:=h.2.2 (by omega)
  refine⟨ad,e,fun j hj=>?_⟩
  rw[hc j (by omega)]
  simp[List.getD_eq_getElem?_getD,hj]
def LeO {α:Type}(a b:Option α):Prop:=∀r,a=some r->b=some r
theorem LeO.refl {α:Type}(a:Option α):LeO a a:=fun _ h=>h
theorem LeO.none {α:Type}(b:Option α):LeO Option.none b:=fun _ h=>by cases h
theorem LeO.trans {α:Type}{a b c:Option α}(h:LeO a b) (k:LeO b c):LeO a c:=fun r hr=>k r (h r hr)
theorem LeO.ite {α:Type}{c:Prop} [Decidable c] {a a' b b':Option α}(h:LeO a a') (k:LeO b b'):LeO (if c then a else b) (if c then a' else b'):=by
  split
  · exact h
  exact k
theorem LeO.bind {α β:Type}{a a':Option α}{f f':α->Option β}(h:LeO a a') (k:∀x,LeO (f x) (f' x)):LeO (a.bind f) (a'.bind f'):=by
  intro r hr
  obtain⟨x,hx,hf⟩:=Option.bind_eq_some_iff.1 hr
  exact Option.bind_eq_some_iff.2 ⟨x,h x hx,k x r hf⟩
theorem LeO.map {α β:Type}{a a':Option α}(f:α->β) (h:LeO a a'):LeO (a.map f) (a'.map f):=by
  intro r hr
  obtain⟨x,hx,hf⟩:=Option.map_eq_some_iff.1 hr
  exact Option.map_eq_some_iff.2 ⟨x,h x hx,hf⟩
theorem Em {α:Type}{g:Nat->Option α}(h:∀k,LeO (g k) (g (k+1))) (k:Nat):∀j,LeO (g k) (g (k+j))
  |0=>LeO.refl _
  |j+1=>(Em h k j).trans (h (k+j))
theorem zO {α:Type}{g:Nat->Option α}(h:∀k,LeO (g k) (g (k+1))) {k k':Nat}(hk:k<=k') {r:α}(hr:g k=some r):g k'=some r:=by
  have:=Em h k (k' - k) r hr
  rwa [Nat.add_sub_cancel' hk]at this
theorem together {α β:Type}{g:Nat->Option α}{f:Nat->Option β}(hg:∀k,LeO (g k) (g (k+1))) (hf:∀k,LeO (f k) (f (k+1))) {r:α}{q:β}(h:∃k,g k=some r) (h':∃k,f k=some q):∃k,g k=some r/\f k=some q:=by
  obtain⟨k,hk⟩:=h
  obtain⟨k',hk'⟩:=h'
  exact⟨max k k',zO hg (Nat.le_max_left _ _) hk,zO hf (Nat.le_max_right _ _) hk'⟩
def kN {α:Type}(R:α->List Value->Prop) (size:Nat) (ps:List α) (cs:List Value):Prop:=
  cs.length=ps.length*size/\∀j p,ps[j]? =some p->R p ((cs.drop (j*size)).take size)
theorem kN.none {α:Type}(R:α->List Value->Prop) (size:Nat):kN R size [] []:=⟨by simp,fun j p h=>by simp at h⟩
theorem kN.snoc {α:Type}{R:α->List Value->Prop}{size:Nat}{ps:List α}{cs c:List Value}{p:α}(h:kN R size ps cs) (hp:R p c) (hc:c.length=size):kN R size (ps++[p]) (cs++c):=by
  refine⟨by rw[List.length_append,h.1,hc,List.length_append,List.length_singleton,Nat.add_mul,Nat.one_mul],fun j q hq=>?_⟩
  rcases Nat.lt_or_ge j ps.length with hj|hj
  · rw[List.getElem?_append_left hj]at hq
    have h1:j*size+size<=cs.length:=by rw[h.1,←Nat.succ_mul];exact Nat.mul_le_mul_right _ hj
    have h2:=h.2 j q hq
    rw[List.drop_append_of_le_length (by omega),List.take_append_of_le_length (by rw[List.length_drop];omega)]
    exact h2
  have hj':j=ps.length:=by
    have:=(List.getElem?_eq_some_iff.1 hq).1
    rw[List.length_append,List.length_singleton]at this
    omega
  subst hj'
  have hq':p=q:=by simpa using hq
  subst hq'
  rw[←h.1,List.drop_left,←hc,List.take_length]
  exact hp
theorem kN.pJ {α:Type}{R R':α->List Value->Prop}{size:Nat}{ps:List α}{cs:List Value}(h:kN R size ps cs) (hR:∀p c,R p c->R' p c):kN R' size ps cs:=⟨h.1,fun j p hj=>hR _ _ (h.2 j p hj)⟩
def qU {α:Type}(R:α->List Value->Prop) (size:Nat) (w:World) (A:Option Addr) (n:Nat) (ps:List α):Prop:=
  ps.length=n/\n<=9223372036854775807/\(0<n->∃ad,A=some ad/\∀j p,ps[j]? =some p->∃c,c.length=size/\R p c/\∀i u,c[i]? =some u->w.cell? (ad.add (j*size+i))=some u)
theorem qU.Iz {α:Type}{R:α->List Value->Prop}{size:Nat}{w:World}{A:Option Addr}{n:Nat}{ps:List α}(h:qU R size w A n ps) (d:α) (i:Int) (h0:0<=i) (h1:i<n):
    ∃ad c,A=some ad/\c.length=size/\R (ps.getD i.toNat d) c/\∀j u,c[j]? =some u->w.cell? (ad.add (i.toNat*size+j))=some u:=by
  obtain⟨ad,e,hc⟩:=h.2.2 (by omega)
  have hl:i.toNat<ps.length:=by have:=h.1;omega
  obtain⟨c,hs,hr,hcell⟩:=hc i.toNat _ (List.getElem?_eq_getElem hl)
  refine⟨ad,c,e,hs,?_,hcell⟩
  rw[List.getD_eq_getElem?_getD,List.getElem?_eq_getElem hl]
  exact hr
theorem qU.pJ {α:Type}{R R':α->List Value->Prop}{size:Nat}{w w1:World}{A:Option Addr}{n:Nat}{ps:List α}(h:qU R size w A n ps) (hb:Below w.heap.size w w1) (hR:∀p c,R p c->R' p c):qU R' size w1 A n ps:=
  ⟨h.1,h.2.1,fun hn=>by
    obtain⟨ad,e,hc⟩:=h.2.2 hn
    refine⟨ad,e,fun j p hj=>?_⟩
    obtain⟨c,hs,hr,hcell⟩:=hc j p hj
    exact⟨c,hs,hR _ _ hr,fun i u hu=>wJ hb (hcell i u hu)⟩⟩
theorem Jt {α:Type}{R:α->List Value->Prop}{w:World}{base n size:Nat}{e:TypeId}{v:Value}{ps:List α}{cs:List Value}(h:w.ownsRow base e size v n cs) (hR:kN R size ps cs) (hn:ps.length=n):
    ∃A c,v=.slice A n c/\qU R size w A n ps:=by
  rcases Nat.eq_zero_or_pos n with h0|h0
  · rcases h.2 with⟨rfl,rfl⟩|⟨g,cap,cur,rfl,_⟩
    · exact⟨none,0,rfl,hn,by omega,fun hp=>absurd hp (by omega)⟩
    exact⟨_,cap,rfl,hn,by omega,fun hp=>absurd hp (by omega)⟩
  obtain⟨g,cap,rfl,_,_⟩:=h.form h0
  have hm:n<=9223372036854775807:=by
    rcases h.2 with⟨_,h1⟩|⟨g',cap',cur,he,_,_,h1,h2,_⟩
    · omega
    simp only [maxLen]at h2
    omega
  refine⟨_,cap,rfl,hn,hm,fun _=>⟨_,rfl,fun j p hj=>⟨(cs.drop (j*size)).take size,?_,hR.2 j p hj,fun i u hu=>?_⟩⟩⟩
  · have hjl:=(List.getElem?_eq_some_iff.1 hj).1
    have h1:j*size+size<=cs.length:=by rw[hR.1,←Nat.succ_mul];exact Nat.mul_le_mul_right _ hjl
    rw[List.length_take,List.length_drop]
    omega
  refine h.cells (g:=g) rfl _ u ?_
  rw[List.getElem?_take]at hu
  split at hu
  · rw[List.getElem?_drop]at hu
    exact hu
  cases hu
theorem F7 (ad:Addr) (m j:Nat) (hj:0<j):ad.add (m+j)=⟨(ad.add m).block,(ad.add m).off+j,none⟩:=by
  unfold Addr.add
  by_cases hm:m=0
  · subst hm
    simp[Nat.ne_of_gt hj]
  simp[hm,Nat.add_assoc]
section
variable {P:Program}{ops:Array Oper}{rest:List Oper}{o:Oper}{a:Act}{Q:Exit->Act->World->Prop}
theorem EA {w0 W:World}(base:Nat) (hgd:o.guard=none) (s x:Operand) (t e:TypeId) (z:Value) (size bytes:Nat)
    (ho:o.op=.call {callee:=.builtin .append,args:= #[s,x],argTypes:= #[t,t]})
    (ht:P.underlying t=some (.slice e)) (hinfo:(P.info? e).map (fun i=>(i.zero,i.size,i.bytes))=some (some z,size,bytes)) (hz:z.cells.size=size) (hs0:0<size) (hb0:0<bytes)
    (v:Value) (n:Nat) (xs ys:List Value) (hs:a.eval s=v) (hx:a.eval x=.slice (some ⟨W.heap.size,0,none⟩) 1 1) (hys:ys.length=size) (h1:∀u∈ys,u.oneCell'=true)
    (HO:W.ownsRow base e size v n xs) (HB:Below base w0 W) (hbase:base<=W.heap.size) (hl:(n+1)*bytes<=140737488355328)
    (h:∀v1 w1,w1.ownsRow base e size v1 (n+1) (xs++ys)->Below base w0 w1->W.grownBy w1 v.ownBlock->(v1.ownBlock=v.ownBlock\/∃b,v1.ownBlock=some b/\W.heap.size<=b)->wpList P ops Q rest (a.put o.dst v1) w1):
    wpList P ops Q (o::rest) a (W.alloc (.cells ys.toArray e)):=by
  obtain⟨i0,hi,hzz⟩:=Option.map_eq_some_iff.1 hinfo
  simp only [Prod.mk.injEq]at hzz
  obtain⟨hz0,hz1,hz2⟩:=hzz
  have hlen:n+1<=140737488355328:=Nat.le_trans (Nat.le_mul_of_pos_right _ hb0) hl
  refine wpList_append_own_at (W.alloc (.cells ys.toArray e)) hgd s x t ho base e i0 z size bytes ht hi hz0 hz1 hz2 hz hs0 v n xs hs (HO.alloc _) ⟨W.heap.size,0,none⟩ 1 1 ys hx (by rw[hys];simp)
    (by simpa using World.news_of_block (cs:=ys.toArray) (t:=e) (fr:=(0,0)) (heap_alloc_new W (.cells ys.toArray e))) h1 (by simp only [maxLen];omega) hl (by simp;omega) ?_
  intro v1 w1 hown hg _ hat
  refine h v1 w1 hown ((HB.alloc hbase _).grown hg (by simp;omega) (vG HO)) (World.grownBy.trans (World.grownBy_alloc W _ _) hg) ?_
  rcases hat with hat|hat
  · exact .inl hat
  exact .inr ⟨_,hat,by simp⟩
end
theorem own_ne {w:World}{base:Nat}{e t:TypeId}{size n g:Nat}{v:Value}{xs:List Value}{cs:Array Value}(h:w.ownsRow base e size v n xs) (hg:w.heap[g]? =some (.cells cs t (0,0))) (hne:e≠t):some g≠v.ownBlock:=by
  rcases h.2 with⟨rfl,_⟩|⟨g',cap,cur,rfl,_,hh,_⟩
  · simp[Value.ownBlock]
  intro he
  have:g=g':=by simpa [Value.ownBlock] using he
  subst this
  rw[hg]at hh
  injection hh with hh
  injection hh with _ ht
  exact hne ht.symm
theorem Ju {w:World}{base:Nat}{e:TypeId}{size n:Nat}{v:Value}{xs:List Value}(h:w.ownsRow base e size v n xs) {p:Addr}(hne:some p.block≠v.ownBlock) (u:Value):(w.setCell p u).ownsRow base e size v n xs:=by
  obtain⟨h1,h2⟩:=h
  refine⟨h1,?_⟩
  rcases h2 with h2|⟨g,cap,cur,rfl,hg,hh,r⟩
  · exact .inl h2
  exact .inr ⟨g,cap,cur,rfl,hg,by rw[Below.heap_setCell _ _ _ _ (fun e=>hne (by rw[e];rfl))];exact hh,r⟩
theorem yo {w:World}{g:Nat}{t:TypeId}{cs:Array Value}(h:w.heap[g]? =some (.cells cs t (0,0))) (i:Nat) (u:Value):(w.setCell ⟨g,i,none⟩ u).heap[g]? =some (.cells (cs.setIfInBounds i u) t (0,0)):=by
  simp[World.setCell,Array.getElem?_modify,h]
theorem pO {w:World}{g:Nat}{t:TypeId}{cs:Array Value}(h:w.heap[g]? =some (.cells cs t (0,0))) {p:Addr}(hp:g≠p.block) (u:Value):(w.setCell p u).heap[g]? =some (.cells cs t (0,0)):=(Below.heap_setCell w p u g hp).trans h
theorem lM {w:World}{g:Nat}{o:Obj}(h:w.heap[g]? =some o):g<w.heap.size:=(Array.getElem?_eq_some_iff.1 h).1
theorem mr {w:World}{g:Nat}{t:TypeId}{cs:Array Value}(h:w.heap[g]? =some (.cells cs t (0,0))) (i:Nat):w.cell? ⟨g,i,none⟩=cs[i]? :=cell_of_row w g i cs t (0,0) h
theorem l7 {w:World}{g:Nat}{t:TypeId}{cs:Array Value}(h:w.heap[g]? =some (.cells cs t (0,0))) (i:Nat):w.frozen? ⟨g,i,none⟩=false:=by simp[World.frozen?,h]
theorem zS {w w1:World}{g:Nat}{o:Obj}{row:Option Nat}(h:w.heap[g]? =some o) (hg:w.grownBy w1 row) (hne:some g≠row):w1.heap[g]? =some o:=(hg.block g (lM h) hne).trans h
def kX (w w':World) (g:Nat) (row:Option Nat):Prop:=w.heap.size<=w'.heap.size/\∀i,i<w.heap.size->i≠g->some i≠row->w'.heap[i]? =w.heap[i]?
theorem kX.refl (w:World) (g:Nat) (row:Option Nat):kX w w g row:=⟨Nat.le_refl _,fun _ _ _ _=>rfl⟩
theorem kX.wH {w w1:World}{row:Option Nat}(h:w.grownBy w1 row) (g:Nat):kX w w1 g row:=⟨h.size,fun i hi _ hr=>h.block i hi hr⟩
theorem kX.of_below {w w1:World}(h:Below w.heap.size w w1) (g:Nat) (row:Option Nat):kX w w1 g row:=⟨h.size,fun i hi _ _=>h.block i hi⟩
theorem kX.xJ {w w1:World}{g:Nat}{row:Option Nat}(h:kX w w1 g row) (j:Nat) (u:Value):kX w (w1.setCell ⟨g,j,none⟩ u) g row:=
  ⟨by simpa [World.setCell] using h.1,fun i hi hg hr=>(Below.heap_setCell w1 ⟨g,j,none⟩ u i hg).trans (h.2 i hi hg hr)⟩
theorem kX.trans {w w1 w2:World}{g:Nat}{row row1:Option Nat}(h:kX w w1 g row) (k:kX w1 w2 g row1) (hr:row1=row\/∃b,row1=some b/\w.heap.size<=b):kX w w2 g row:=
  ⟨Nat.le_trans h.1 k.1,fun i hi hg hn=>by
    refine(k.2 i (Nat.lt_of_lt_of_le hi h.1) hg ?_).trans (h.2 i hi hg hn)
    rcases hr with rfl|⟨b,rfl,hb⟩
    · exact hn
    intro e
    injection e with e
    omega⟩
theorem kX.blk {w w1:World}{g g':Nat}{row:Option Nat}{o:Obj}(h:kX w w1 g row) (hb:w.heap[g']? =some o) (hg:g'≠g) (hr:some g'≠row):w1.heap[g']? =some o:=(h.2 g' (lM hb) hg hr).trans hb
theorem kX.own {w w1:World}{g:Nat}{row:Option Nat}{base:Nat}{e:TypeId}{size n:Nat}{v:Value}{xs:List Value}(h:kX w w1 g row) (ho:w.ownsRow base e size v n xs) (hg:v.ownBlock≠some g) (hr:v.ownBlock=none\/v.ownBlock≠row):w1.ownsRow base e size v n xs:=by
  obtain⟨h1,h2⟩:=ho
  refine⟨h1,?_⟩
  rcases h2 with h2|⟨b,cap,cur,rfl,hb,hh,r⟩
  · exact .inl h2
  refine .inr ⟨b,cap,cur,rfl,hb,h.blk hh ?_ ?_,r⟩
  · intro e
    exact hg (by rw[←e];rfl)
  rcases hr with hr|hr
  · simp[Value.ownBlock]at hr
  exact hr
def Ev {α:Type}(g:Nat->Option α) (r:α):Prop:=∃K,∀k,K<=k->g k=some r
theorem Ev.of {α:Type}{g:Nat->Option α}{r:α}(hg:∀k,LeO (g k) (g (k+1))) {k:Nat}(h:g k=some r):Ev g r:=⟨k,fun _ hk=>zO hg hk h⟩
theorem Ev.now {α:Type}(r:α):Ev (fun _=>some r) r:=⟨0,fun _ _=>rfl⟩
theorem Ev.rounds {α:Type}{g:Nat->Option α}{r:α}(h:Ev g r):∃k,g k=some r:=by
  obtain⟨K,h⟩:=h
  exact⟨K,h K (Nat.le_refl _)⟩
theorem Ev.bind {α β:Type}{g:Nat->Option α}{f:Nat->α->Option β}{a:α}{r:β}(h:Ev g a) (k:Ev (fun n=>f n a) r):Ev (fun n=>(g n).bind (f n)) r:=by
  obtain⟨K,h⟩:=h
  obtain⟨K',k⟩:=k
  refine⟨max K K',fun n hn=>?_⟩
  have h1:=h n (by omega)
  have h2:=k n (by omega)
  simp only [h1,Option.bind_some]
  exact h2
theorem Ev.step {α:Type}{g f:Nat->Option α}{r:α}(h:∀k,g (k+1)=f k) (k:Ev f r):Ev g r:=by
  obtain⟨K,k⟩:=k
  refine⟨K+1,fun n hn=>?_⟩
  obtain⟨m,rfl⟩:∃m,n=m+1:=⟨n - 1,by omega⟩
  rw[h]
  exact k m (by omega)
theorem Ev.congr {α:Type}{g f:Nat->Option α}{r:α}(h:∀k,g k=f k) (k:Ev f r):Ev g r:=by
  obtain⟨K,k⟩:=k
  exact⟨K,fun n hn=>(h n).trans (k n hn)⟩
section
variable {P:Program}{ops:Array Oper}{o:Oper}{a:Act}{Q:Exit->Act->World->Prop}{K:Act->World->Prop}
theorem Kg {w0 W:World}(base:Nat) (hw:Region.wanted o (yielded ops a.tmps)=true) (s x:Operand) (t e:TypeId) (z:Value) (size bytes:Nat)
    (ho:o.op=.call {callee:=.builtin .append,args:= #[s,x],argTypes:= #[t,t]})
    (ht:P.underlying t=some (.slice e)) (hinfo:(P.info? e).map (fun i=>(i.zero,i.size,i.bytes))=some (some z,size,bytes)) (hz:z.cells.size=size) (hs0:0<size) (hb0:0<bytes)
    (v:Value) (n:Nat) (xs ys:List Value) (hs:a.eval s=v) (hx:a.eval x=.slice (some ⟨W.heap.size,0,none⟩) 1 1) (hys:ys.length=size) (h1:∀u∈ys,u.oneCell'=true)
    (HO:W.ownsRow base e size v n xs) (HB:Below base w0 W) (hbase:base<=W.heap.size) (hl:(n+1)*bytes<=140737488355328)
    (h:∀v1 w1,w1.ownsRow base e size v1 (n+1) (xs++ys)->Below base w0 w1->W.grownBy w1 v.ownBlock->(v1.ownBlock=v.ownBlock\/∃b,v1.ownBlock=some b/\W.heap.size<=b)->K (a.put o.dst v1) w1):
    if Region.wanted o (yielded ops a.tmps)=true then Oper.wp P o a (W.alloc (.cells ys.toArray e)) K Q else K (a.put o.dst undef) (W.alloc (.cells ys.toArray e)):=by
  obtain⟨i0,hi,hzz⟩:=Option.map_eq_some_iff.1 hinfo
  simp only [Prod.mk.injEq]at hzz
  obtain⟨hz0,hz1,hz2⟩:=hzz
  have hlen:n+1<=140737488355328:=Nat.le_trans (Nat.le_mul_of_pos_right _ hb0) hl
  rw[if_pos hw]
  obtain⟨v1,w1,hr,hown,hg,_,hat⟩:=run_append_own_at (P:=P) (W.alloc (.cells ys.toArray e)) base t o.type e i0 z size bytes ht hi hz0 hz1 hz2 hz hs0 v n xs (HO.alloc _) ⟨W.heap.size,0,none⟩ 1 1 ys (by rw[hys];simp)
    (by simpa using World.news_of_block (cs:=ys.toArray) (t:=e) (fr:=(0,0)) (heap_alloc_new W (.cells ys.toArray e))) h1 (by simp only [maxLen];omega) hl (by simp;omega)
  unfold Oper.wp execOp
  simp only [ho,resolve,invoke,builtin,Sem.run_bind,Sem.run_pure,Result.andThen_ok,List.map_toArray,List.map_cons,List.map_nil,hs,hx,hr]
  refine h v1 w1 hown ((HB.alloc hbase _).grown hg (by simp;omega) (vG HO)) (World.grownBy.trans (World.grownBy_alloc W _ _) hg) ?_
  rcases hat with hat|hat
  · exact .inl hat
  exact .inr ⟨_,hat,by simp⟩
end
theorem Jw {w:World}{base base':Nat}{e:TypeId}{size n:Nat}{v:Value}{xs:List Value}(h:w.ownsRow base e size v n xs) (hb:base'<=base):w.ownsRow base' e size v n xs:=by
  obtain⟨h1,h2⟩:=h
  refine⟨h1,?_⟩
  rcases h2 with h2|⟨g,cap,cur,rfl,hg,r⟩
  · exact .inl h2
  exact .inr ⟨g,cap,cur,rfl,Nat.le_trans hb hg,r⟩
section
variable {α:Type}{enc:α->Value}{d:α}
def encs (enc:α->Value) (xs:List α):List Value:=xs.map enc
def mX (d:α) (xs:List α) (i:Int):α:=xs.getD i.toNat d
theorem DR (xs:List α):(encs enc xs).length=xs.length:=by simp[encs]
theorem H6 (xs:List α) (j:Nat) (h:j<xs.length):(encs enc xs)[j]? =some (enc (xs.getD j d)):=by
  simp[encs,List.getElem?_eq_getElem h,List.getD_eq_getElem?_getD]
def o9 (enc:α->Value) (d:α) (w:World) (A:Option Addr) (n:Nat) (xs:List α):Prop:=
  xs.length=n/\n<=9223372036854775807/\(0<n->∃ad,A=some ad/\∀j,j<n->w.cell? (ad.add j)=some (enc (xs.getD j d)))
theorem o9.at_ {w:World}{A:Option Addr}{n:Nat}{xs:List α}(h:o9 enc d w A n xs) (i:Int) (h0:0<=i) (h1:i<n):∃ad,A=some ad/\w.cell? (ad.add i.toNat)=some (enc (mX d xs i)):=by
  obtain⟨ad,e,hc⟩:=h.2.2 (by omega)
  exact⟨ad,e,hc _ (by omega)⟩
theorem o9.below {w w1:World}{A:Option Addr}{n:Nat}{xs:List α}(h:o9 enc d w A n xs) (hb:Below w.heap.size w w1):o9 enc d w1 A n xs:=
  ⟨h.1,h.2.1,fun hn=>by
    obtain⟨ad,e,hc⟩:=h.2.2 hn
    exact⟨ad,e,fun j hj=>wJ hb (hc j hj)⟩⟩
theorem o9.qo {w:World}{A:Option Addr}{n:Nat}{xs:List α}(h:o9 enc d w A n xs) (i:Nat) (hi:i<=n):o9 enc d w A i (xs.take i):=by
  refine⟨by rw[List.length_take,h.1];omega,by have:=h.2.1;omega,fun hp=>?_⟩
  obtain⟨ad,e,hc⟩:=h.2.2 (by omega)
  refine⟨ad,e,fun j hj=>?_⟩
  rw[hc j (by omega)]
  simp[List.getD_eq_getElem?_getD,hj]
theorem Jo {W:World}{base g n cap:Nat}{e:TypeId}{xs:List α}(h:W.ownsRow base e 1 (.slice (some ⟨g,0,none⟩) n cap) n (encs enc xs)) (i:Int) (h0:0<=i) (h1:i<n):
    W.cell? ⟨g,i.toNat,none⟩=some (enc (mX d xs i))/\W.frozen? ⟨g,i.toNat,none⟩=false:=by
  have hl:xs.length=n:=by have:=h.1;simp[encs]at this;exact this
  constructor
  · have hc:=h.cells (g:=g) rfl i.toNat _ (H6 (d:=d) xs i.toNat (by omega))
    rwa [add_plain]at hc
  rcases h.2 with⟨h',_⟩|⟨g',cap',cur,h',_,hh,_⟩
  · cases h'
  have:g=g':=by injection h' with h';injection h' with h';injection h' with h'
  subst this
  simp[World.frozen?,hh]
theorem Jv {W:World}{base g n cap:Nat}{e:TypeId}{xs:List α}(h:W.ownsRow base e 1 (.slice (some ⟨g,0,none⟩) n cap) n (encs enc xs)) (i:Int) (x:α):
    (W.setCell ⟨g,i.toNat,none⟩ (enc x)).ownsRow base e 1 (.slice (some ⟨g,0,none⟩) n cap) n (encs enc (xs.set i.toNat x))/\W.grownBy (W.setCell ⟨g,i.toNat,none⟩ (enc x)) (some g):=by
  have hs:=h.stored i.toNat (enc x)
  have he:(encs enc xs).set i.toNat (enc x)=encs enc (xs.set i.toNat x):=by simp[encs,List.map_set]
  rwa [he]at hs
end
theorem nu {w:World}{g:Nat}{o:Obj}(h:w.heap[g]? =some o) (o':Obj):(w.alloc o').heap[g]? =some o:=(Below.heap_alloc w o' g (lM h)).trans h
theorem kP {w:World}{g:Nat}{o:Obj}(h:w.heap[g]? =some o):w.drew.heap[g]? =some o:=h
theorem pz {w:World}{g:Nat}{o:Obj}(h:w.heap[g]? =some o) (n:Nat):(w.drewN n).heap[g]? =some o:=h
theorem nY {w w1:World}{g:Nat}{o:Obj}(h:w.heap[g]? =some o) (hb:Below w.heap.size w w1):w1.heap[g]? =some o:=(hb.block g (lM h)).trans h
theorem zT (w:World) (o:Obj):(w.alloc o).heap[w.heap.size]? =some o:=heap_alloc_new w o
section
variable {P:Program}
theorem xH {fn:Func}{p u:Tmp}{ty:TypeId}(h:fn.results= #[.cell p ty,.tmp u]) (tmps:Array Value) (w:World) (g:Nat) (t:TypeId) (cs:Array Value) (fr:Nat×Nat) (d:TypeDesc)
    (hp:tmps.getD p undef=.pointer (some ⟨g,0,none⟩)) (hg:w.heap[g]? =some (.cells cs t fr))
    (hu:P.underlying ty=some d) (hd:(match d with| .struct _| .array _ _=>true|_=>false)=true) (hi:(P.info? ty).map (·.size)=some cs.size):
    (results fn tmps).run P w=.ok (.tuple #[.agg cs,tmps.getD u undef]) w:=by
  have hp':tmps[p]?.getD undef=.pointer (some ⟨g,0,none⟩):=by simpa using hp
  simp[results,h,hp',asAddr,run_loadVar_row w g t ty cs fr d hg hu hd hi]
end
theorem Jp {w:World}{base n m c size:Nat}{e:TypeId}{A:Option Addr}{xs:List Value}(h:w.ownsRow base e size (.slice A m c) n xs):m<=c:=by
  rcases h.2 with⟨he,_⟩|⟨g,cap,cur,he,_,_,hnc,_⟩
  · injection he with _ h2 h3
    omega
  injection he with _ h2 h3
  omega
def oN {α:Type}(R:α->List Value->Prop) (e:TypeId) (size:Nat) (w:World) (base:Nat) (v:Value) (ps:List α):Prop:=
  ∃inner,w.ownsRow base e size v ps.length inner/\kN R size ps inner
section
variable {α:Type}{R R':α->List Value->Prop}{e:TypeId}{size:Nat}{w w1:World}{base:Nat}{v:Value}{ps:List α}
theorem oN.none_ (R:α->List Value->Prop) (e:TypeId) (size:Nat) (w:World) (base:Nat):oN R e size w base (.slice none 0 0) []:=⟨[],Jr _ _ _ _,kN.none _ _⟩
theorem oN.pJ (h:oN R e size w base v ps) (hR:∀p c,R p c->R' p c):oN R' e size w base v ps:=by
  obtain⟨inner,ho,hr⟩:=h
  exact⟨inner,ho,hr.pJ hR⟩
theorem oN.below (h:oN R e size w base v ps) (hb:Below w.heap.size w w1):oN R e size w1 base v ps:=by
  obtain⟨inner,ho,hr⟩:=h
  exact⟨inner,JB ho hb,hr⟩
theorem oN.other (h:oN R e size w base v ps) {row:Option Nat}(hg:w.grownBy w1 row) (hne:v.ownBlock=none\/v.ownBlock≠row):oN R e size w1 base v ps:=by
  obtain⟨inner,ho,hr⟩:=h
  exact⟨inner,Js ho hg hne,hr⟩
theorem oN.xJ (h:oN R e size w base v ps) {g:Nat}{t:TypeId}{cells:Array Value}(hb:w.heap[g]? =some (.cells cells t (0,0))) (ht:e≠t) (j:Nat) (u:Value):oN R e size (w.setCell ⟨g,j,none⟩ u) base v ps:=by
  obtain⟨inner,ho,hr⟩:=h
  exact⟨inner,Ju ho (own_ne ho hb ht) u,hr⟩
theorem oN.keep (h:oN R e size w base v ps) {g:Nat}{t:TypeId}{cells:Array Value}(hb:w.heap[g]? =some (.cells cells t (0,0))) (ht:e≠t) (hk:kX w w1 g none):oN R e size w1 base v ps:=by
  obtain⟨inner,ho,hr⟩:=h
  exact⟨inner,hk.own ho (Ne.symm (own_ne ho hb ht)) (by cases v.ownBlock<;>simp),hr⟩
theorem oN.reads (h:oN R e size w base v ps):∃A c,v=.slice A ps.length c/\ps.length<=c/\qU R size w A ps.length ps:=by
  obtain⟨inner,ho,hr⟩:=h
  obtain⟨A,c,rfl,hrow⟩:=Jt ho hr rfl
  exact⟨A,c,rfl,Jp ho,hrow⟩
theorem oN.Jg (h:oN R e size w base v ps) {g:Nat}{t:TypeId}{cells:Array Value}(hb:w.heap[g]? =some (.cells cells t (0,0))) (ht:e≠t):some g≠v.ownBlock:=by
  obtain⟨inner,ho,hr⟩:=h
  exact own_ne ho hb ht
end
section
variable {P:Program}{ops:Array Oper}{rest:List Oper}{o:Oper}{a:Act}{Q:Exit->Act->World->Prop}{α:Type}{R:α->List Value->Prop}
theorem oN.append {w0 W:World}(base:Nat) (hgd:o.guard=none) (s x:Operand) (t e:TypeId) (z:Value) (size bytes:Nat)
    (ho:o.op=.call {callee:=.builtin .append,args:= #[s,x],argTypes:= #[t,t]})
    (ht:P.underlying t=some (.slice e)) (hinfo:(P.info? e).map (fun i=>(i.zero,i.size,i.bytes))=some (some z,size,bytes)) (hz:z.cells.size=size) (hs0:0<size) (hb0:0<bytes)
    (v:Value) (ps:List α) (p:α) (cs:List Value) (hs:a.eval s=v) (hx:a.eval x=.slice (some ⟨W.heap.size,0,none⟩) 1 1) (hp:R p cs) (hcs:cs.length=size) (h1:∀u∈cs,u.oneCell'=true)
    (HO:oN R e size W base v ps) (HB:Below base w0 W) (hbase:base<=W.heap.size) (hl:(ps.length+1)*bytes<=140737488355328)
    (h:∀v1 w1,oN R e size w1 base v1 (ps++[p])->Below base w0 w1->W.grownBy w1 v.ownBlock->(v1.ownBlock=v.ownBlock\/∃b,v1.ownBlock=some b/\W.heap.size<=b)->wpList P ops Q rest (a.put o.dst v1) w1):
    wpList P ops Q (o::rest) a (W.alloc (.cells cs.toArray e)):=by
  obtain⟨inner,hown,hr⟩:=HO
  refine EA base hgd s x t e z size bytes ho ht hinfo hz hs0 hb0 v ps.length inner cs hs hx hcs h1 hown HB hbase hl ?_
  intro v1 w1 hown1 hb1 hg1 hat1
  exact h v1 w1 ⟨inner++cs,by rw[List.length_append,List.length_singleton];exact hown1,hr.snoc hp hcs⟩ hb1 hg1 hat1
end
theorem qU.D_ {α:Type}{R:α->List Value->Prop}{size:Nat}{w:World}{ad:Addr}{n:Nat}{ps:List α}(h:qU R size w (some ad) n ps):
    ∃inner,kN R size ps inner/\∀j u,inner[j]? =some u->w.cell? (ad.add j)=some u:=by
  have key:∀m,m<=ps.length->∃inner,kN R size (ps.take m) inner/\∀j u,inner[j]? =some u->w.cell? (ad.add j)=some u:=by
    intro m
    induction m with
    |zero=>exact fun _=>⟨[],kN.none _ _,fun j u hu=>by simp at hu⟩
    |succ m ih=>
      intro hm
      obtain⟨inner,hr,hc⟩:=ih (by omega)
      obtain⟨ad',he,hcell⟩:=h.2.2 (by have:=h.1;omega)
      injection he with he
      subst he
      obtain⟨c,hcl,hp,hcc⟩:=hcell m _ (List.getElem?_eq_getElem (show m<ps.length by omega))
      refine⟨inner++c,?_,fun j u hu=>?_⟩
      · rw[List.take_succ_eq_append_getElem (show m<ps.length by omega)]
        exact hr.snoc hp hcl
      have hil:inner.length=m*size:=by rw[hr.1,List.length_take,Nat.min_eq_left (by omega)]
      rcases Nat.lt_or_ge j inner.length with hj|hj
      · rw[List.getElem?_append_left hj]at hu
        exact hc j u hu
      rw[List.getElem?_append_right hj]at hu
      have:=hcc (j - inner.length) u hu
      rwa [hil,Nat.add_sub_cancel' (by omega)]at this
  obtain⟨inner,hr,hc⟩:=key ps.length (Nat.le_refl _)
  rw[List.take_length]at hr
  exact⟨inner,hr,hc⟩
section
variable {α:Type}{P:Program}
theorem o9.len_ {enc:α->Value}{d:α}{w:World}{A:Option Addr}{n:Nat}{xs:List α}(h:o9 enc d w A n xs):o9 enc d w A xs.length xs:=by rw[h.1];exact h
theorem AX (enc:α->Value) (d:α) (t e:TypeId) (kl:IntKind) {i:TypeInfo}(ht:P.underlying t=some (.slice e)) (hi:P.info? e=some i) (hsz:i.size=1) (A:Option Addr) (c:Nat) (xs:List α) (j:Int) (h0:0<=j) (hm:j<=xs.length) (hc:xs.length<=c):
    (∀W:World,(Instr.slice t (.slice A xs.length c) none (some (.int kl j)) none).run P W=.ok (.slice A (xs.take j.toNat).length c) W)/\
      (∀w:World,o9 enc d w A xs.length xs->o9 enc d w A (xs.take j.toNat).length (xs.take j.toNat))/\(xs.take j.toNat).length<=c:=by
  have hl:(xs.take j.toNat).length=j.toNat:=by rw[List.length_take];omega
  refine⟨fun W=>?_,fun w h=>by rw[hl];exact h.qo j.toNat (by omega),by rw[hl];omega⟩
  have hel:P.elem t=e:=by simp[Program.elem,ht]
  have hu:P.underlying t=some (.slice (P.elem t)):=by rw[hel];exact ht
  have ha:(A.map fun x=>x.add 0)=A:=by cases A<;>simp[Addr.add]
  rw[run_slice_h W t A xs.length c hu kl j h0 (by omega),hel,hl]
  simp[sizeOf,typeInfo,hi,hsz,sliced,Result.andThen,ha]
end
structure Kd (α:Type) where
  sz:Nat
  E:List Nat
  K:World->α->List Value->Prop
  M:World->Nat->(Nat->Prop)->α->List Value->Prop
  K_len:∀ {w x cs},K w x cs->cs.length=sz
  K_one:∀ {w x cs},K w x cs->∀u∈cs,u.oneCell'=true
  K_below:∀ {w w1:World}{x cs},Below w.heap.size w w1->K w x cs->K w1 x cs
  K_of_M:∀ {w base ok x cs},M w base ok x cs->K w x cs
  M_mono:∀ {w base ok ok' x cs},(∀k,ok k->ok' k)->M w base ok x cs->M w base ok' x cs
  M_bound:∀ {w:World}{base ok x cs},M w base ok x cs->M w base (fun k=>ok k/\base<=k/\k<w.heap.size/\∃q,q∈E/\∃cells,w.heap[k]? =some (.cells cells q (0,0))) x cs
  M_move:∀ {w w1:World}{base ok x cs},(∀k,ok k->w1.heap[k]? =w.heap[k]?)->M w base ok x cs->M w1 base ok x cs
  M_lower:∀ {w base base' ok x cs},base'<=base->M w base ok x cs->M w base' ok x cs
theorem Jq {w w1:World}{base:Nat}{e:TypeId}{size n:Nat}{v:Value}{xs:List Value}(h:w.ownsRow base e size v n xs) (hm:∀k,v.ownBlock=some k->w1.heap[k]? =w.heap[k]?):w1.ownsRow base e size v n xs:=by
  obtain⟨h1,h2⟩:=h
  refine⟨h1,?_⟩
  rcases h2 with h2|⟨g,cap,cur,rfl,hg,hh,r⟩
  · exact .inl h2
  exact .inr ⟨g,cap,cur,rfl,hg,(hm g (by simp[Value.ownBlock])).trans hh,r⟩
theorem zg {w:World}{base:Nat}{e:TypeId}{size n:Nat}{v:Value}{xs:List Value}(h:w.ownsRow base e size v n xs) (k:Nat) (hk:v.ownBlock=some k):∃cells,w.heap[k]? =some (.cells cells e (0,0)):=by
  rcases h.2 with⟨rfl,_⟩|⟨g,cap,cur,rfl,hg,hh,r⟩
  · simp[Value.ownBlock]at hk
  have:g=k:=by simpa [Value.ownBlock] using hk
  subst this
  exact⟨cur,hh⟩
namespace Kd
def C {α:Type}(d:Kd α) (w:World) (A:Option Addr) (n:Nat) (xs:List α):Prop:=qU (d.K w) d.sz w A n xs
def R {α:Type}(d:Kd α) (e:Nat) (w:World) (base:Nat) (ok:Nat->Prop) (v:Value) (xs:List α):Prop:=
  (∀k,v.ownBlock=some k->ok k)/\oN (d.M w base (fun k=>ok k/\some k≠v.ownBlock)) e d.sz w base v xs
section
variable {α:Type}{d:Kd α}{e:Nat}{w w1:World}{base:Nat}{ok ok':Nat->Prop}{v:Value}{xs:List α}
theorem kW {A:Option Addr}{n:Nat}(h:d.C w A n xs) (hb:Below w.heap.size w w1):d.C w1 A n xs:=qU.pJ h hb (fun _ _ hp=>d.K_below hb hp)
theorem r9 (d:Kd α) (e:Nat) (w:World) (base:Nat) (ok:Nat->Prop):d.R e w base ok (.slice none 0 0) []:=⟨fun k hk=>by simp[Value.ownBlock]at hk,oN.none_ _ _ _ _ _⟩
theorem kw (h:d.R e w base ok v xs) (hok:∀k,ok k->ok' k):d.R e w base ok' v xs:=⟨fun k hk=>hok k (h.1 k hk),h.2.pJ (fun _ _ hp=>d.M_mono (fun k hk=>⟨hok k hk.1,hk.2⟩) hp)⟩
theorem rT (h:d.R e w base ok v xs):d.R e w base (fun k=>ok k/\base<=k/\k<w.heap.size/\∃q,q∈e::d.E/\∃cells,w.heap[k]? =some (.cells cells q (0,0))) v xs:=by
  obtain⟨h0,inner,ho,hr⟩:=h
  refine⟨fun k hk=>?_,inner,ho,hr.pJ (fun _ _ hp=>d.M_mono (fun k hk=>?_) (d.M_bound hp))⟩
  · obtain⟨cells,hc⟩:=zg ho k hk
    exact⟨h0 k hk,vG ho k hk,Eu ho k hk,e,List.mem_cons_self,cells,hc⟩
  obtain⟨⟨h1,h2⟩,h3,h4,q,hq,hc⟩:=hk
  exact⟨⟨h1,h3,h4,q,List.mem_cons_of_mem _ hq,hc⟩,h2⟩
theorem vO (h:d.R e w base ok v xs) (hm:∀k,ok k->w1.heap[k]? =w.heap[k]?):d.R e w1 base ok v xs:=by
  obtain⟨h0,inner,ho,hr⟩:=h
  exact⟨h0,inner,Jq ho (fun k hk=>hm k (h0 k hk)),hr.pJ (fun _ _ hp=>d.M_move (fun k hk=>hm k hk.1) hp)⟩
theorem kR {base':Nat}(h:d.R e w base ok v xs) (hb:base'<=base):d.R e w base' ok v xs:=by
  obtain⟨h0,inner,ho,hr⟩:=h
  exact⟨h0,inner,Jw ho hb,hr.pJ (fun _ _ hp=>d.M_lower hb hp)⟩
theorem vP (h:d.R e w base ok v xs) (hm:∀k,ok k->k<w.heap.size->w1.heap[k]? =w.heap[k]?):d.R e w1 base ok v xs:=
  kw (vO (rT h) (fun k hk=>hm k hk.1 hk.2.2.1)) (fun _ hk=>hk.1)
theorem BA {x:α}{cs:List Value}(h:d.M w base ok x cs) (hm:∀k,ok k->k<w.heap.size->w1.heap[k]? =w.heap[k]?):d.M w1 base ok x cs:=
  d.M_mono (fun _ hk=>hk.1) (d.M_move (fun k hk=>hm k hk.1 hk.2.2.1) (d.M_bound h))
theorem qb (h:d.R e w base ok v xs) (hb:Below w.heap.size w w1):d.R e w1 base ok v xs:=vP h (fun k _ hk=>hb.block k hk)
theorem Bw {x:α}{cs:List Value}(h:d.M w base ok x cs) (hb:Below w.heap.size w w1):d.M w1 base ok x cs:=BA h (fun k _ hk=>hb.block k hk)
theorem FO (h:d.R e w base ok v xs) {row:Option Nat}(hg:w.grownBy w1 row) (hok:∀k,ok k->some k≠row):d.R e w1 base ok v xs:=vP h (fun k ho hk=>hg.block k hk (hok k ho))
theorem kG (h:d.R e w base ok v xs) {p:Addr}(hok:∀k,ok k->k≠p.block) (u:Value):d.R e (w.setCell p u) base ok v xs:=vP h (fun k ho _=>Below.heap_setCell w p u k (hok k ho))
theorem nC (h:d.R e w base ok v xs) {g:Nat}(hk:kX w w1 g none) (hok:∀k,ok k->k≠g):d.R e w1 base ok v xs:=vP h (fun k ho hlt=>hk.2 k hlt (hok k ho) (by simp))
theorem lJ (h:d.R e w base ok v xs) {g t:Nat}{cells:Array Value}(hb:w.heap[g]? =some (.cells cells t (0,0))) (ht:∀q,q∈e::d.E->q≠t):d.R e w base (fun k=>ok k/\k≠g) v xs:=
  kw (rT h) (fun k hk=>⟨hk.1,by
    obtain⟨_,_,_,q,hq,cells',hc⟩:=hk
    rintro rfl
    rw[hc]at hb
    injection hb with hb
    injection hb with _ hb
    exact ht q hq hb⟩)
theorem xX (h:d.R e w base ok v xs) {g t:Nat}{cells:Array Value}(hb:w.heap[g]? =some (.cells cells t (0,0))) (ht:∀q,q∈e::d.E->q≠t) (j:Nat) (u:Value):d.R e (w.setCell ⟨g,j,none⟩ u) base ok v xs:=
  kw (kG (p:=⟨g,j,none⟩) (lJ h hb ht) (fun _ hk=>hk.2) u) (fun _ hk=>hk.1)
theorem zH (h:d.R e w base ok v xs):∃A c,v=.slice A xs.length c/\xs.length<=c/\d.C w A xs.length xs:=by
  obtain⟨A,c,he,hl,hr⟩:=oN.reads h.2
  exact⟨A,c,he,hl,hr.pJ (Below.refl _ _) (fun _ _ hp=>d.K_of_M hp)⟩
theorem kL (h:d.R e w base ok v xs):∃A c,v=.slice A xs.length c:=by
  obtain⟨A,c,he,_⟩:=zH h
  exact⟨A,c,he⟩
theorem wT (h:d.R e w base ok v xs):∃inner,w.ownsRow base e d.sz v xs.length inner:=by
  obtain⟨_,inner,ho,_⟩:=h
  exact⟨inner,ho⟩
theorem lU (h:d.R e w base ok v xs) {g t:Nat}{cells:Array Value}(hb:w.heap[g]? =some (.cells cells t (0,0))) (ht:e≠t):some g≠v.ownBlock:=oN.Jg h.2 hb ht
end
def scalar {α:Type}(enc:α->Value) (h1:∀x,(enc x).oneCell'=true):Kd α where
  sz:=1
  E:=[]
  K:=fun _ x cs=>cs=[enc x]
  M:=fun _ _ _ x cs=>cs=[enc x]
  K_len:=fun h=>by rw[h];rfl
  K_one:=fun h u hu=>by
    rw[h]at hu
    rw[List.mem_singleton.1 hu]
    exact h1 _
  K_below:=fun _ h=>h
  K_of_M:=fun h=>h
  M_mono:=fun _ h=>h
  M_bound:=fun h=>h
  M_move:=fun _ h=>h
  M_lower:=fun _ h=>h
def int (k:IntKind):Kd Int:=scalar (Value.int k) (fun _=>rfl)
def bool:Kd Bool:=scalar Value.bool (fun _=>rfl)
def string:Kd ByteArray:=scalar Value.string (fun _=>rfl)
def slice {α:Type}(e:Nat) (d:Kd α):Kd (List α) where
  sz:=1
  E:=e::d.E
  K:=fun w xs cs=>∃A c,cs=[.slice A xs.length c]/\xs.length<=c/\d.C w A xs.length xs
  M:=fun w base ok xs cs=>∃v,cs=[v]/\d.R e w base ok v xs
  K_len:=by
    rintro w x cs ⟨A,c,rfl,_⟩
    rfl
  K_one:=by
    rintro w x cs ⟨A,c,rfl,_⟩ u hu
    rw[List.mem_singleton.1 hu]
    rfl
  K_below:=by
    rintro w w1 x cs hb ⟨A,c,rfl,hl,hr⟩
    exact⟨A,c,rfl,hl,kW hr hb⟩
  K_of_M:=by
    rintro w base ok x cs ⟨v,rfl,h⟩
    obtain⟨A,c,rfl,hl,hr⟩:=zH h
    exact⟨A,c,rfl,hl,hr⟩
  M_mono:=by
    rintro w base ok ok' x cs hok ⟨v,rfl,h⟩
    exact⟨v,rfl,kw h hok⟩
  M_bound:=by
    rintro w base ok x cs ⟨v,rfl,h⟩
    exact⟨v,rfl,rT h⟩
  M_move:=by
    rintro w w1 base ok x cs hm ⟨v,rfl,h⟩
    exact⟨v,rfl,vO h hm⟩
  M_lower:=by
    rintro w base base' ok x cs hb ⟨v,rfl,h⟩
    exact⟨v,rfl,kR h hb⟩
def pair {α β:Type}(a:Kd α) (b:Kd β):Kd (α×β) where
  sz:=a.sz+b.sz
  E:=a.E++b.E
  K:=fun w x cs=>∃c0 c1,cs=c0++c1/\a.K w x.1 c0/\b.K w x.2 c1
  M:=fun w base ok x cs=>∃c0 c1,cs=c0++c1/\a.M w base ok x.1 c0/\b.M w base ok x.2 c1
  K_len:=by
    rintro w x cs ⟨c0,c1,rfl,h0,h1⟩
    rw[List.length_append,a.K_len h0,b.K_len h1]
  K_one:=by
    rintro w x cs ⟨c0,c1,rfl,h0,h1⟩ u hu
    rcases List.mem_append.1 hu with hu|hu
    · exact a.K_one h0 u hu
    exact b.K_one h1 u hu
  K_below:=by
    rintro w w1 x cs hb ⟨c0,c1,rfl,h0,h1⟩
    exact⟨c0,c1,rfl,a.K_below hb h0,b.K_below hb h1⟩
  K_of_M:=by
    rintro w base ok x cs ⟨c0,c1,rfl,h0,h1⟩
    exact⟨c0,c1,rfl,a.K_of_M h0,b.K_of_M h1⟩
  M_mono:=by
    rintro w base ok ok' x cs hok ⟨c0,c1,rfl,h0,h1⟩
    exact⟨c0,c1,rfl,a.M_mono hok h0,b.M_mono hok h1⟩
  M_bound:=by
    rintro w base ok x cs ⟨c0,c1,rfl,h0,h1⟩
    refine⟨c0,c1,rfl,a.M_mono ?_ (a.M_bound h0),b.M_mono ?_ (b.M_bound h1)⟩
    · rintro k ⟨h2,h3,h4,q,hq,hc⟩
      exact⟨h2,h3,h4,q,List.mem_append_left _ hq,hc⟩
    rintro k ⟨h2,h3,h4,q,hq,hc⟩
    exact⟨h2,h3,h4,q,List.mem_append_right _ hq,hc⟩
  M_move:=by
    rintro w w1 base ok x cs hm ⟨c0,c1,rfl,h0,h1⟩
    exact⟨c0,c1,rfl,a.M_move hm h0,b.M_move hm h1⟩
  M_lower:=by
    rintro w base base' ok x cs hb ⟨c0,c1,rfl,h0,h1⟩
    exact⟨c0,c1,rfl,a.M_lower hb h0,b.M_lower hb h1⟩
def iso {α β:Type}(d:Kd α) (f:β->α):Kd β where
  sz:=d.sz
  E:=d.E
  K:=fun w x cs=>d.K w (f x) cs
  M:=fun w base ok x cs=>d.M w base ok (f x) cs
  K_len:=d.K_len
  K_one:=d.K_one
  K_below:=d.K_below
  K_of_M:=d.K_of_M
  M_mono:=d.M_mono
  M_bound:=d.M_bound
  M_move:=d.M_move
  M_lower:=d.M_lower
theorem Bu {α:Type}{d:Kd α}{w:World}{A:Option Addr}{n:Nat}{xs:List α}(h:d.C w A n xs) (z:α) (i:Int) (h0:0<=i) (h1:i<n):
    ∃ad c,A=some ad/\c.length=d.sz/\d.K w (xs.getD i.toNat z) c/\∀j u,c[j]? =some u->w.cell? (ad.add (i.toNat*d.sz+j))=some u:=qU.Iz h z i h0 h1
theorem BL {α:Type}{d:Kd α}{e base:Nat}{ok okp:Nat->Prop}{W w1:World}{v v1:Value}{xs:List α}{p:α}{inner cs:List Value}(h0:∀k,v.ownBlock=some k->ok k) (hr:kN (d.M W base (fun k=>ok k/\some k≠v.ownBlock)) d.sz xs inner) (hp:d.M W base okp p cs) (pV:∀k,okp k->ok k/\some k≠v.ownBlock) (hfresh:∀k,W.heap.size<=k->ok k)
    (hown:w1.ownsRow base e d.sz v1 (xs.length+1) (inner++cs)) (hg:W.grownBy w1 v.ownBlock) (hat:v1.ownBlock=v.ownBlock\/∃b,v1.ownBlock=some b/\W.heap.size<=b):d.R e w1 base ok v1 (xs++[p]):=by
  have hne:∀k,some k≠v.ownBlock->k<W.heap.size->some k≠v1.ownBlock:=by
    intro k hk hlt
    rcases hat with hat|⟨b,hb,hle⟩
    · rw[hat];exact hk
    rw[hb]
    intro he
    injection he with he
    omega
  have step:∀ {q:α}{c:List Value}{o:Nat->Prop},d.M W base o q c->(∀k,o k->ok k/\some k≠v.ownBlock)->d.M w1 base (fun k=>ok k/\some k≠v1.ownBlock) q c:=by
    intro q c o hq ho
    have h1:=d.M_move (w1:=w1) (fun k hk=>hg.block k hk.2.2.1 (ho k hk.1).2) (d.M_bound hq)
    exact d.M_mono (fun k hk=>⟨(ho k hk.1).1,hne k (ho k hk.1).2 hk.2.2.1⟩) h1
  refine⟨fun k hk=>?_,inner++cs,by rw[List.length_append,List.length_singleton];exact hown,?_⟩
  · rcases hat with hat|⟨b,hb,hle⟩
    · exact h0 k (hat▸hk)
    rw[hb]at hk
    injection hk with hk
    exact hfresh k (by omega)
  exact(hr.pJ (fun _ _ hq=>step hq (fun _ hk=>hk))).snoc (step hp pV) (d.K_len (d.K_of_M hp))
section
variable {P:Program}{ops:Array Oper}{rest:List Oper}{o:Oper}{a:Act}{Q:Exit->Act->World->Prop}{α:Type}
theorem pM (d:Kd α) {w0 W:World}(base:Nat) (hgd:o.guard=none) (s x:Operand) (t e:TypeId) (z:Value) (bytes:Nat)
    (ho:o.op=.call {callee:=.builtin .append,args:= #[s,x],argTypes:= #[t,t]})
    (ht:P.underlying t=some (.slice e)) (hinfo:(P.info? e).map (fun i=>(i.zero,i.size,i.bytes))=some (some z,d.sz,bytes)) (hz:z.cells.size=d.sz) (hs0:0<d.sz) (hb0:0<bytes)
    (v:Value) (xs:List α) (p:α) (cs:List Value) (ok okp:Nat->Prop) (hs:a.eval s=v) (hx:a.eval x=.slice (some ⟨W.heap.size,0,none⟩) 1 1) (hp:d.M W base okp p cs) (pV:∀k,okp k->ok k/\some k≠v.ownBlock) (hfresh:∀k,W.heap.size<=k->ok k)
    (HO:d.R e W base ok v xs) (HB:Below base w0 W) (hbase:base<=W.heap.size) (hl:(xs.length+1)*bytes<=140737488355328)
    (h:∀v1 w1,d.R e w1 base ok v1 (xs++[p])->Below base w0 w1->W.grownBy w1 v.ownBlock->(v1.ownBlock=v.ownBlock\/∃b,v1.ownBlock=some b/\W.heap.size<=b)->wpList P ops Q rest (a.put o.dst v1) w1):
    wpList P ops Q (o::rest) a (W.alloc (.cells cs.toArray e)):=by
  obtain⟨h0,inner,hown,hr⟩:=HO
  refine EA base hgd s x t e z d.sz bytes ho ht hinfo hz hs0 hb0 v xs.length inner cs hs hx (d.K_len (d.K_of_M hp)) (d.K_one (d.K_of_M hp)) hown HB hbase hl ?_
  intro v1 w1 hown1 hb1 hg1 hat1
  exact h v1 w1 (BL h0 hr hp pV hfresh hown1 hg1 hat1) hb1 hg1 hat1
end
section
variable {P:Program}{ops:Array Oper}{o:Oper}{a:Act}{Q:Exit->Act->World->Prop}{Kc:Act->World->Prop}{α:Type}
theorem tZ (d:Kd α) {w0 W:World}(base:Nat) (hw:Region.wanted o (yielded ops a.tmps)=true) (s x:Operand) (t e:TypeId) (z:Value) (bytes:Nat)
    (ho:o.op=.call {callee:=.builtin .append,args:= #[s,x],argTypes:= #[t,t]})
    (ht:P.underlying t=some (.slice e)) (hinfo:(P.info? e).map (fun i=>(i.zero,i.size,i.bytes))=some (some z,d.sz,bytes)) (hz:z.cells.size=d.sz) (hs0:0<d.sz) (hb0:0<bytes)
    (v:Value) (xs:List α) (p:α) (cs:List Value) (ok okp:Nat->Prop) (hs:a.eval s=v) (hx:a.eval x=.slice (some ⟨W.heap.size,0,none⟩) 1 1) (hp:d.M W base okp p cs) (pV:∀k,okp k->ok k/\some k≠v.ownBlock) (hfresh:∀k,W.heap.size<=k->ok k)
    (HO:d.R e W base ok v xs) (HB:Below base w0 W) (hbase:base<=W.heap.size) (hl:(xs.length+1)*bytes<=140737488355328)
    (h:∀v1 w1,d.R e w1 base ok v1 (xs++[p])->Below base w0 w1->W.grownBy w1 v.ownBlock->(v1.ownBlock=v.ownBlock\/∃b,v1.ownBlock=some b/\W.heap.size<=b)->Kc (a.put o.dst v1) w1):
    if Region.wanted o (yielded ops a.tmps)=true then Oper.wp P o a (W.alloc (.cells cs.toArray e)) Kc Q else Kc (a.put o.dst undef) (W.alloc (.cells cs.toArray e)):=by
  obtain⟨h0,inner,hown,hr⟩:=HO
  refine Kg base hw s x t e z d.sz bytes ho ht hinfo hz hs0 hb0 v xs.length inner cs hs hx (d.K_len (d.K_of_M hp)) (d.K_one (d.K_of_M hp)) hown HB hbase hl ?_
  intro v1 w1 hown1 hb1 hg1 hat1
  exact h v1 w1 (BL h0 hr hp pV hfresh hown1 hg1 hat1) hb1 hg1 hat1
end
theorem JU {α:Type}{enc:α->Value}(xs:List α):kN (fun(x:α) (cs:List Value)=>cs=[enc x]) 1 xs (encs enc xs):=by
  refine⟨by simp[encs],fun j p hj=>?_⟩
  obtain⟨hl,hp⟩:=List.getElem?_eq_some_iff.1 hj
  have hl':j<(encs enc xs).length:=by rw[DR];exact hl
  rw[Nat.mul_one,List.drop_eq_getElem_cons hl']
  simp[encs,hp]
theorem FQ {α:Type}{enc:α->Value}{h1:∀x,(enc x).oneCell'=true}{e:Nat}{w:World}{base:Nat}{ok:Nat->Prop}{v:Value}{xs:List α}(ho:w.ownsRow base e 1 v xs.length (encs enc xs)) (hok:∀k,v.ownBlock=some k->ok k):(scalar enc h1).R e w base ok v xs:=⟨hok,encs enc xs,ho,JU xs⟩
theorem Ew {α:Type}{enc:α->Value}{h1:∀x,(enc x).oneCell'=true}{e:Nat}{w:World}{base:Nat}{ok:Nat->Prop}{v:Value}{xs:List α}(h:(scalar enc h1).R e w base ok v xs):w.ownsRow base e 1 v xs.length (encs enc xs):=by
  obtain⟨_,inner,ho,hr⟩:=h
  have:inner=encs enc xs:=by
    apply List.ext_getElem?
    intro j
    rcases Nat.lt_or_ge j xs.length with hj|hj
    · have h2:=hr.2 j _ (List.getElem?_eq_getElem hj)
      have hl:j<inner.length:=by have:=hr.1;simp[scalar]at this;omega
      have h3:(inner.drop (j*1)).take 1=[enc xs[j]]:=h2
      rw[Nat.mul_one,List.drop_eq_getElem_cons hl]at h3
      have h4:inner[j]=enc xs[j]:=by
        have h5:=congrArg List.head? h3
        rw[List.take_succ_cons]at h5
        exact Option.some.inj h5
      rw[List.getElem?_eq_getElem hl,h4]
      simp[encs,List.getElem?_eq_getElem hj]
    have h3:inner.length=xs.length:=by have:=hr.1;simp[scalar]at this;omega
    rw[List.getElem?_eq_none (by omega),List.getElem?_eq_none (by rw[DR];omega)]
  rw[←this]
  exact ho
theorem zu {α:Type}{enc:α->Value}{d:α}{h1:∀x,(enc x).oneCell'=true}{w:World}{A:Option Addr}{n:Nat}{xs:List α}(h:o9 enc d w A n xs):(scalar enc h1).C w A n xs:=by
  refine⟨h.1,h.2.1,fun hn=>?_⟩
  obtain⟨ad,e,hc⟩:=h.2.2 hn
  refine⟨ad,e,fun j p hj=>⟨[enc p],rfl,rfl,fun i u hu=>?_⟩⟩
  obtain⟨hl,hp⟩:=List.getElem?_eq_some_iff.1 hj
  have h2:=hc j (by have:=h.1;omega)
  rw[List.getD_eq_getElem?_getD,hj]at h2
  cases i with
  |zero=>
    have:enc p=u:=by simpa using hu
    subst this
    simpa [scalar] using h2
  |succ i=>simp at hu
theorem xG {α:Type}{enc:α->Value}{d:α}{h1:∀x,(enc x).oneCell'=true}{w:World}{A:Option Addr}{n:Nat}{xs:List α}(h:(scalar enc h1).C w A n xs):o9 enc d w A n xs:=by
  refine⟨h.1,h.2.1,fun hn=>?_⟩
  obtain⟨ad,e,hc⟩:=h.2.2 hn
  refine⟨ad,e,fun j hj=>?_⟩
  have hl:j<xs.length:=by have:=h.1;omega
  obtain⟨c,_,hK,hcell⟩:=hc j _ (List.getElem?_eq_getElem hl)
  have hK':c=[enc xs[j]]:=hK
  subst hK'
  have:=hcell 0 _ rfl
  simpa [scalar,List.getD_eq_getElem?_getD,List.getElem?_eq_getElem hl] using this
end Kd
namespace Kd
theorem oL {α:Type}{d:Kd α}{e base:Nat}{ok:Nat->Prop}{W w1:World}{u v v1:Value}{xs:List α}(h:d.R e W base (fun k=>ok k/\some k≠v.ownBlock) u xs) (hg:W.grownBy w1 v.ownBlock) (hat:v1.ownBlock=v.ownBlock\/∃b,v1.ownBlock=some b/\W.heap.size<=b):d.R e w1 base (fun k=>ok k/\some k≠v1.ownBlock) u xs:=by
  refine kw (vO (rT h) (fun k hk=>hg.block k hk.2.2.1 hk.1.2)) (fun k hk=>⟨hk.1.1,?_⟩)
  rcases hat with hat|⟨b,hb,hle⟩
  · rw[hat];exact hk.1.2
  rw[hb]
  intro he
  injection he with he
  have:=hk.2.2.1
  omega
theorem Bz {α:Type}{d:Kd α}{e base:Nat}{ok:Nat->Prop}{w:World}{v:Value}{xs:List α}(h:d.R e w base ok v xs):(slice e d).M w base ok xs [v]:=⟨v,rfl,h⟩
section
variable {α β:Type}{d:Kd α}{d':Kd β}{e e':Nat}{w w1 W:World}{base b b':Nat}{ok ok' okv oku:Nat->Prop}{v u:Value}{xs:List α}{ys:List β}
theorem kI (h:d.R e w base ok v xs) (o:Obj):d.R e (w.alloc o) base ok v xs:=qb h (o6 (Below.refl _ _) o)
theorem kv (h:d.R e w base ok v xs):d.R e w.drew base ok v xs:=qb h (wV (Below.refl _ _))
theorem kJ (h:d.R e w base ok v xs) (m:Nat):d.R e (w.drewN m) base ok v xs:=qb h (pK (Below.refl _ _) m)
theorem sP {A:Option Addr}{n:Nat}(h:d.C w A n xs) (o:Obj):d.C (w.alloc o) A n xs:=kW h (o6 (Below.refl _ _) o)
theorem rM {A:Option Addr}{n:Nat}(h:d.C w A n xs):d.C w.drew A n xs:=kW h (wV (Below.refl _ _))
theorem sQ {A:Option Addr}{n:Nat}(h:d.C w A n xs) (m:Nat):d.C (w.drewN m) A n xs:=kW h (pK (Below.refl _ _) m)
theorem Fh (d:Kd α) (w:World):d.C w none ([]:List α).length []:=⟨rfl,by simp,fun h=>absurd h (Nat.lt_irrefl 0)⟩
theorem ku {A:Option Addr}{n c:Nat}(h:d.R e w base ok (.slice A n c) xs):n=xs.length/\n<=c/\d.C w A xs.length xs:=by
  obtain⟨A',c',he,hl,hr⟩:=zH h
  injection he with h1 h2 h3
  subst h1
  exact⟨h2,by omega,hr⟩
theorem kZ (h:d.R e w base ok v xs):∀k,v.ownBlock=some k->k<w.heap.size:=by
  obtain⟨inner,ho⟩:=wT h
  exact Eu ho
theorem qg (h:d.R e w base ok v xs):∀k,v.ownBlock=some k->base<=k:=by
  obtain⟨inner,ho⟩:=wT h
  exact vG ho
theorem uY (h:d.R e w base ok v xs) {g:Nat}(hok:∀k,ok k->k≠g):some g≠v.ownBlock:=fun e=>hok g (h.1 g e.symm) rfl
theorem wS (h:d.R e w base ok v xs) (hp:0<xs.length):∃g cap,v=.slice (some ⟨g,0,none⟩) xs.length cap/\base<=g/\g<w.heap.size/\∃cells,w.heap[g]? =some (.cells cells e (0,0)):=by
  obtain⟨inner,ho⟩:=wT h
  obtain⟨g,cap,he,hb,hl⟩:=ho.form hp
  obtain⟨cells,hc⟩:=zg ho g (by rw[he];simp[Value.ownBlock])
  exact⟨g,cap,he,hb,hl,cells,hc⟩
end
section
variable {w W:World}{A:Option Addr}{n:Nat}
theorem lq {k:IntKind}{xs:List Int}(h:(Kd.int k).C w A n xs) (i:Int) (h0:0<=i) (h1:i<n):∃ad,A=some ad/\w.cell? (ad.add i.toNat)=some (.int k (rd xs i)):=
  o9.at_ (xG (enc:=Value.int k) (d:=(0:Int)) (h1:=fun _=>rfl) h) i h0 h1
theorem u_ {xs:List Bool}(h:Kd.bool.C w A n xs) (i:Int) (h0:0<=i) (h1:i<n):∃ad,A=some ad/\w.cell? (ad.add i.toNat)=some (.bool (mX false xs i)):=
  o9.at_ (xG (enc:=Value.bool) (d:=false) (h1:=fun _=>rfl) h) i h0 h1
variable {α:Type}{enc:α->Value}{h1:∀x,(enc x).oneCell'=true}{e base g cap:Nat}{ok:Nat->Prop}{xs:List α}
theorem FM (d:α) (h:(scalar enc h1).R e W base ok (.slice (some ⟨g,0,none⟩) xs.length cap) xs) (i:Int) (h0:0<=i) (hi:i<xs.length):W.cell? ⟨g,i.toNat,none⟩=some (enc (mX d xs i))/\W.frozen? ⟨g,i.toNat,none⟩=false:=Jo (Ew h) i h0 hi
theorem BQ (h:(scalar enc h1).R e W base ok (.slice (some ⟨g,0,none⟩) xs.length cap) xs) (i:Int) (x:α):(scalar enc h1).R e (W.setCell ⟨g,i.toNat,none⟩ (enc x)) base ok (.slice (some ⟨g,0,none⟩) xs.length cap) (xs.set i.toNat x)/\W.grownBy (W.setCell ⟨g,i.toNat,none⟩ (enc x)) (some g):=by
  obtain⟨ho,hg⟩:=Jv (Ew h) i x
  exact⟨FQ (by rw[List.length_set];exact ho) h.1,hg⟩
end
section
variable {P:Program}{ops:Array Oper}{rest:List Oper}{o:Oper}{a:Act}{Q:Exit->Act->World->Prop}
theorem Az {W w1:World}{v:Value}(hgd:o.guard=none) (hrun:(execOp a.eval o).run P W=.ok (.value v) w1) (h:wpList P ops Q rest (a.put o.dst v) w1):wpList P ops Q (o::rest) a W:=by
  refine wpList_plain hgd fun K hK=>?_
  unfold Oper.wp
  rw[hrun]
  exact hK _ _ h
variable {α:Type}
theorem zF (d:Kd α) {w0 W:World}(base e:Nat) (hgd:o.guard=none) {N:Tmp}(_hd:o.dst=some N) {xs:List α}{inner:List Value}{ok okp:Nat->Prop}
    (hrun:(execOp a.eval o).run P W=.ok (.value (.slice (some ⟨W.heap.size,0,none⟩) xs.length xs.length)) (W.alloc (.cells inner.toArray e)))
    (hrep:kN (d.M W base okp) d.sz xs inner) (hok:∀k,okp k->ok k) (hfresh:ok W.heap.size) (HB:Below base w0 W) (hbase:base<=W.heap.size) (hm:xs.length<=9223372036854775807)
    (h:∀v1 w1,d.R e w1 base ok v1 xs->Below base w0 w1->W.grownBy w1 none->(∃b,v1.ownBlock=some b/\W.heap.size<=b)->wpList P ops Q rest (a.put o.dst v1) w1):wpList P ops Q (o::rest) a W:=by
  refine Az hgd hrun (h _ _ ⟨fun k hk=>?_,inner,?_,?_⟩ (HB.alloc hbase _) (World.grownBy_alloc W _ none) ⟨W.heap.size,by simp[Value.ownBlock],Nat.le_refl _⟩)
  · have:W.heap.size=k:=by simpa [Value.ownBlock] using hk
    subst this
    exact hfresh
  · have h2:=World.ownsRow_lit (base:=base) (e:=e) (size:=d.sz) W inner.toArray xs.length hbase (by simpa [maxLen] using hm) (by simpa using hrep.1)
    simpa using h2
  refine hrep.pJ (fun p c hp=>d.M_mono (fun k hk=>⟨hok k hk.1,fun he=>?_⟩) (Bw (d.M_bound hp) (o6 (Below.refl _ _) _)))
  have h3:k=W.heap.size:=by simpa [Value.ownBlock] using he
  have:=hk.2.2.1
  omega
theorem JR {α:Type}{R:α->List Value->Prop}{z:Value}{size:Nat}{z0:α}(hz:z.cells.size=size) (hs:0<size) (h0:R z0 z.cells.toList) (m:Nat):kN R size (List.replicate m z0) (madeCells z.cells (m*size)).toList:=by
  refine⟨by simp[size_madeCells],fun j p hj=>?_⟩
  obtain⟨hjl,hp⟩:=List.getElem?_eq_some_iff.1 hj
  have hjm:j<m:=by simpa using hjl
  have hp':z0=p:=by simpa using hp
  subst hp'
  have hle:j*size+size<=m*size:=by rw[←Nat.succ_mul];exact Nat.mul_le_mul_right _ hjm
  have:((madeCells z.cells (m*size)).toList.drop (j*size)).take size=z.cells.toList:=by
    apply List.ext_getElem
    · simp[size_madeCells,hz]
      omega
    intro i h1 h2
    have hi:i<size:=by rw[Array.length_toList,hz]at h2;exact h2
    have hmod:(j*size+i)%size=i:=by
      rw[Nat.mul_comm,Nat.mul_add_mod]
      exact Nat.mod_eq_of_lt hi
    simp[madeCells,hz,hmod]
    rw[getElem!_pos z.cells i (by omega)]
  rw[this]
  exact h0
theorem BO (d:Kd α) {w0 W:World}(base e:Nat) (hgd:o.guard=none) {N:Tmp}(hd:o.dst=some N) (t:TypeId) (x y:Operand) (ho:o.op=.makeSlice t x y) (n:Int) (hx:a.eval x=.int .i64 n) (hy:a.eval y=.int .i64 n)
    (ht:P.underlying t=some (.slice e)) (z:Value) (bytes:Nat) (hinfo:(P.info? e).map (fun i=>(i.zero,i.size,i.bytes))=some (some z,d.sz,bytes)) (hz:z.cells.size=d.sz) (hs0:0<d.sz) (hb0:0<bytes)
    (z0:α) {ok okp:Nat->Prop}(hzero:d.M W base okp z0 z.cells.toList) (hok:∀k,okp k->ok k) (hfresh:ok W.heap.size) (h0:0<=n) (hl:n.toNat*bytes<=281474976710656) (HB:Below base w0 W) (hbase:base<=W.heap.size)
    (h:∀v1 w1,d.R e w1 base ok v1 (List.replicate n.toNat z0)->Below base w0 w1->W.grownBy w1 none->(∃b,v1.ownBlock=some b/\W.heap.size<=b)->wpList P ops Q rest (a.put o.dst v1) w1):wpList P ops Q (o::rest) a W:=by
  obtain⟨m,rfl⟩:=Int.eq_ofNat_of_zero_le h0
  simp only [Int.toNat_natCast]at hl h
  obtain⟨i0,hi,hzz⟩:=Option.map_eq_some_iff.1 hinfo
  simp only [Prod.mk.injEq]at hzz
  obtain⟨hz0,hz1,hz2⟩:=hzz
  have hm:m<=281474976710656:=Nat.le_trans (Nat.le_mul_of_pos_right _ hb0) hl
  have hr:=run_make (P:=P) W t e i0 z ht hi hz0 .i64 .i64 (m:Int) (m:Int) (by omega) (by omega)
    (by
      have h3:((i0.bytes*m:Nat):Int)<=281474976710656:=by rw[hz2,Nat.mul_comm];omega
      rwa [Int.natCast_mul]at h3) (by omega)
  simp only [Int.toNat_natCast]at hr
  rw[hz1]at hr
  refine zF d base e hgd hd (xs:=List.replicate m z0) (inner:=(madeCells z.cells (m*d.sz)).toList) (okp:=okp) (ok:=ok) ?_ (JR hz hs0 hzero m) hok hfresh HB hbase (by simp;omega) h
  simp[execOp,ho,hx,hy,hr]
end
end Kd
section
variable {P:Program}
theorem G6 (t e:TypeId) (kh:IntKind) {i:TypeInfo}(ht:P.underlying t=some (.slice e)) (hi:P.info? e=some i) (A:Option Addr) (n c:Nat) (j:Int) (h0:0<=j) (hm:j<=n) (hc:n<=c):
    ∀W:World,(Instr.slice t (.slice A n c) none (some (.int kh j)) none).run P W=.ok (.slice A j.toNat c) W:=by
  intro W
  have hel:P.elem t=e:=by simp[Program.elem,ht]
  have hu:P.underlying t=some (.slice (P.elem t)):=by rw[hel];exact ht
  have ha:(A.map fun x=>x.add 0)=A:=by cases A<;>simp[Addr.add]
  rw[run_slice_h W t A n c hu kh j h0 (by omega),hel]
  simp[sizeOf,typeInfo,hi,sliced,Result.andThen,ha]
theorem DJ (t e:TypeId) (kl:IntKind) {i:TypeInfo}(ht:P.underlying t=some (.slice e)) (hi:P.info? e=some i) (size:Nat) (hsz:i.size=size) (A:Option Addr) (n c:Nat) (j:Int) (h0:0<=j) (hm:j<=n):
    ∀W:World,(Instr.slice t (.slice A n c) (some (.int kl j)) none none).run P W=.ok (.slice (if c=j.toNat then A else A.map (·.add (j.toNat*size))) (n - j.toNat) (c - j.toNat)) W:=by
  intro W
  have hel:P.elem t=e:=by simp[Program.elem,ht]
  have hu:P.underlying t=some (.slice (P.elem t)):=by rw[hel];exact ht
  rw[run_slice_l W t A n c hu kl j h0 hm,hel]
  simp[sizeOf,typeInfo,hi,hsz,sliced,Result.andThen]
end
def qy (w:World) (base:Nat) (e:TypeId) (size:Nat) (v:Value) (n:Nat) (xs:List Value):Prop:=
  xs.length=n*size/\
  ((n=0/\∃A,v=.slice A 0 0/\∀a,A=some a->base<=a.block/\∃cur,w.heap[a.block]? =some (.cells cur e (0,0)))\/
   ∃g off cap cur,v=.slice (some ⟨g,off*size,none⟩) n cap/\base<=g/\w.heap[g]? =some (.cells cur e (0,0))/\n<=cap/\off+cap<=maxLen/\cur.size=(off+cap)*size/\(cur.toList.drop (off*size)).take (n*size)=xs)
section
variable {w w1:World}{base n size:Nat}{e:TypeId}{v:Value}{xs:List Value}
theorem AZ (h:w.ownsRow base e size v n xs):qy w base e size v n xs:=by
  obtain⟨h1,h2⟩:=h
  refine⟨h1,?_⟩
  rcases h2 with⟨rfl,h0⟩|⟨g,cap,cur,rfl,hb,hh,hnc,hcm,hcs,ht⟩
  · exact .inl ⟨h0,none,rfl,fun a ha=>by cases ha⟩
  exact .inr ⟨g,0,cap,cur,by rw[Nat.zero_mul],hb,hh,hnc,by rw[Nat.zero_add];exact hcm,by rw[Nat.zero_add];exact hcs,by rw[Nat.zero_mul,List.drop_zero];exact ht⟩
theorem EB (h:qy w base e size v n xs) (hm:∀k,v.ownBlock=some k->w1.heap[k]? =w.heap[k]?):qy w1 base e size v n xs:=by
  obtain⟨h1,h2⟩:=h
  refine⟨h1,?_⟩
  rcases h2 with⟨h0,A,rfl,hA⟩|⟨g,off,cap,cur,rfl,hg,hh,r⟩
  · refine .inl ⟨h0,A,rfl,fun a ha=>?_⟩
    obtain⟨hb,cur,hc⟩:=hA a ha
    subst ha
    exact⟨hb,cur,(hm a.block (by simp[Value.ownBlock])).trans hc⟩
  exact .inr ⟨g,off,cap,cur,rfl,hg,(hm g (by simp[Value.ownBlock])).trans hh,r⟩
theorem xC (h:qy w base e size v n xs) (k:Nat) (hk:v.ownBlock=some k):base<=k/\∃cells,w.heap[k]? =some (.cells cells e (0,0)):=by
  rcases h.2 with⟨_,A,rfl,hA⟩|⟨g,off,cap,cur,rfl,hg,hh,r⟩
  · cases A with
    |none=>simp[Value.ownBlock]at hk
    |some a=>
      have:a.block=k:=by simpa [Value.ownBlock] using hk
      subst this
      exact hA a rfl
  have:g=k:=by simpa [Value.ownBlock] using hk
  subst this
  exact⟨hg,cur,hh⟩
theorem AY (h:qy w base e size v n xs) (k:Nat) (hk:v.ownBlock=some k):k<w.heap.size:=by
  obtain⟨_,cells,hc⟩:=xC h k hk
  exact(Array.getElem?_eq_some_iff.1 hc).1
theorem JF {base':Nat}(h:qy w base e size v n xs) (hb:base'<=base):qy w base' e size v n xs:=by
  obtain⟨h1,h2⟩:=h
  refine⟨h1,?_⟩
  rcases h2 with⟨h0,A,rfl,hA⟩|⟨g,off,cap,cur,rfl,hg,r⟩
  · exact .inl ⟨h0,A,rfl,fun a ha=>⟨Nat.le_trans hb (hA a ha).1,(hA a ha).2⟩⟩
  exact .inr ⟨g,off,cap,cur,rfl,Nat.le_trans hb hg,r⟩
theorem EC (h:qy w base e size v n xs):∃A c,v=.slice A n c/\n<=c:=by
  rcases h.2 with⟨h0,A,rfl,_⟩|⟨g,off,cap,cur,rfl,hg,hh,hnc,r⟩
  · exact⟨A,0,by rw[h0],by omega⟩
  exact⟨_,cap,rfl,hnc⟩
theorem JG (h:qy w base e size v n xs):n<=9223372036854775807:=by
  rcases h.2 with⟨h0,_⟩|⟨g,off,cap,cur,rfl,hg,hh,hnc,hm,r⟩
  · omega
  simp only [maxLen]at hm
  omega
theorem r_ (g o j:Nat):(⟨g,o,none⟩:Addr).add j=⟨g,o+j,none⟩:=by unfold Addr.add;split<;>simp_all
theorem JD {A:Option Addr}{c:Nat}(h:qy w base e size (.slice A n c) n xs) (hn:0<n):∃ad,A=some ad/\∀j u,xs[j]? =some u->w.cell? (ad.add j)=some u:=by
  rcases h.2 with⟨h0,_⟩|⟨g,off,cap,cur,he,hg,hh,hnc,hm,hcs,ht⟩
  · omega
  injection he with ha _ hc
  subst ha
  refine⟨_,rfl,fun j u hu=>?_⟩
  rw[r_,cell_of_row w g _ cur e (0,0) hh]
  rw[←ht,List.getElem?_take]at hu
  split at hu
  · rw[List.getElem?_drop]at hu
    rw[←Array.getElem?_toList]
    exact hu
  cases hu
theorem JE {A:Option Addr}{c k:Nat}(h:qy w base e size (.slice A n c) n xs) (hk:k<=n):qy w base e size (.slice (if c=k then A else A.map (·.add (k*size))) (n - k) (c - k)) (n - k) (xs.drop (k*size)):=by
  obtain⟨h1,h2⟩:=h
  refine⟨by rw[List.length_drop,h1,Nat.sub_mul],?_⟩
  rcases h2 with⟨h0,A',he,hA⟩|⟨g,off,cap,cur,he,hb,hh,hnc,hcm,hcs,ht⟩
  · injection he with ha hb hc
    subst ha;subst hc
    have hk0:k=0:=by omega
    subst hk0
    exact .inl ⟨by omega,A,by rw[if_pos rfl,h0],hA⟩
  injection he with ha _ hc
  subst ha;subst hc
  by_cases hck:c=k
  · rw[if_pos hck]
    refine .inl ⟨by omega,some ⟨g,off*size,none⟩,?_,fun a ha=>?_⟩
    · rw[show n - k=0 by omega,show c - k=0 by omega]
    injection ha with ha
    subst ha
    exact⟨hb,cur,hh⟩
  rw[if_neg hck]
  refine .inr ⟨g,off+k,c - k,cur,?_,hb,hh,by omega,by omega,by rw[hcs];congr 1;omega,?_⟩
  · rw[Option.map_some,r_,Nat.add_mul]
  rw[←ht,List.drop_take,List.drop_drop,Nat.add_mul,Nat.sub_mul]
theorem Ba {g:Nat}:∀ (vs:List Value) (o:Nat) {w:World}(k:Nat),k≠g->(w.setCells g o vs).heap[k]? =w.heap[k]?
  |[],_,_,_,_=>rfl
  |v::r,o,w,k,hk=>by
    rw[World.setCells,Ba r (o+1) k hk]
    exact Below.heap_setCell w ⟨g,o,none⟩ v k hk
theorem Bc (g:Nat):∀ (vs:List Value) (o:Nat) (w:World),(w.setCells g o vs).os=w.os/\(w.setCells g o vs).tape=w.tape/\(w.setCells g o vs).output=w.output/\(w.setCells g o vs).heap.size=w.heap.size
  |[],_,_=>⟨rfl,rfl,rfl,rfl⟩
  |v::r,o,w=>by
    obtain⟨h1,h2,h3,h4⟩:=Bc g r (o+1) (w.setCell ⟨g,o,none⟩ v)
    rw[World.setCells]
    exact⟨h1,h2,h3,by rw[h4];simp[World.setCell]⟩
theorem Bb {g:Nat}{e:TypeId}:∀ (vs:List Value) (o:Nat) (w:World) (cur:Array Value),w.heap[g]? =some (.cells cur e (0,0))->o+vs.length<=cur.size->
    ∃cur',(w.setCells g o vs).heap[g]? =some (.cells cur' e (0,0))/\cur'.size=cur.size/\cur'.toList=cur.toList.take o++vs++cur.toList.drop (o+vs.length)
  |[],o,w,cur,h,_=>⟨cur,h,rfl,by simp⟩
  |v::r,o,w,cur,h,hl=>by
    have h2:=yo h o v
    simp only [List.length_cons]at hl
    obtain⟨cur',h3,h4,h5⟩:=Bb r (o+1) (w.setCell ⟨g,o,none⟩ v) _ h2 (by simp;omega)
    refine⟨cur',h3,by rw[h4];simp,?_⟩
    rw[h5,Array.toList_setIfInBounds]
    have ho:o<cur.toList.length:=by rw[Array.length_toList];omega
    rw[List.take_set,List.drop_set_of_lt (by omega)]
    simp only [List.length_cons]
    rw[show o+1+r.length=o+(r.length+1) by omega]
    congr 1
    rw[List.take_succ_eq_append_getElem ho,List.set_append_right _ _ (by rw[List.length_take];omega)]
    have ho':o<cur.size:=by omega
    simp[Nat.min_eq_left (Nat.le_of_lt ho')]
end
section
variable {P:Program}
theorem JC (w:World) (base:Nat) (t ty e:TypeId) (i:TypeInfo) (z:Value) (size bytes:Nat) (ht:P.underlying t=some (.slice e)) (hi:P.info? e=some i) (hz:i.zero=some z)
    (hsize:i.size=size) (hby:i.bytes=bytes) (hzs:z.cells.size=size) (hsz:0<size)
    (v:Value) (n:Nat) (xs:List Value) (hown:qy w base e size v n xs)
    (a:Addr) (m c:Nat) (news:List Value) (hl:news.length=m*size) (hnews:∀j u,news[j]? =some u->w.cell? (a.add j)=some u) (h1:∀u∈news,u.oneCell'=true) (hm:0<m)
    (h63:n+m<=maxLen) (hbytes:(n+m)*bytes<=140737488355328) (hbase:base<=w.heap.size):
    ∃v' w',(Builtin.append_ #[t,t] ty #[v,.slice (some a) m c]).run P w=.ok v' w'/\qy w' base e size v' (n+m) (xs++news)/\w.grownBy w' v.ownBlock/\(v'.ownBlock=v.ownBlock\/∃b,v'.ownBlock=some b/\w.heap.size<=b):=by
  have grows:∀ (b:Addr) (cap:Nat),cap<n+m->(∀j u,xs[j]? =some u->w.cell? (b.add j)=some u)->v=.slice (some b) n cap->
      ∃v' w',(Builtin.append_ #[t,t] ty #[v,.slice (some a) m c]).run P w=.ok v' w'/\qy w' base e size v' (n+m) (xs++news)/\w.grownBy w' v.ownBlock/\(v'.ownBlock=v.ownBlock\/∃b,v'.ownBlock=some b/\w.heap.size<=b):=by
    intro b cap hcap hcells hv
    obtain⟨v',w',hr,ho,hg⟩:=run_append_arg_grows (P:=P) (w:=w) t ty e i z size bytes ht hi hz hsize hby hzs hsz b n cap xs hown.1 hcells a m c news hl hnews hcap h63 hbytes
    refine⟨v',w',by rw[hv];exact hr,JF (AZ ho) hbase,⟨hg.os,hg.tape,hg.output,hg.size,fun k hk _=>hg.block k hk (by simp)⟩,?_⟩
    obtain⟨g',cap',he,hb,_⟩:=ho.form (by omega)
    exact .inr ⟨g',by rw[he];simp[Value.ownBlock],hb⟩
  rcases hown.2 with⟨h0,A,hv,hA⟩|⟨g,off,cap,cur,hv,hbg,hg,hnc,hcm,hcs,htake⟩
  · cases A with
    |none=>
      subst h0
      have ho:w.ownsRow base e size v 0 xs:=⟨hown.1,.inl ⟨hv,rfl⟩⟩
      obtain⟨v',w',hr,ho',hg,_,hat⟩:=run_append_own_at (P:=P) w base t ty e i z size bytes ht hi hz hsize hby hzs hsz v 0 xs ho a m c news hl hnews h1 h63 hbytes hbase
      refine⟨v',w',hr,AZ ho',hg,?_⟩
      rcases hat with hat|hat
      · exact .inl hat
      exact .inr ⟨_,hat,Nat.le_refl _⟩
    |some b=>
      have hx:xs=[]:=List.eq_nil_of_length_eq_zero (by rw[hown.1,h0,Nat.zero_mul])
      exact grows b 0 (by omega) (fun j u hu=>by rw[hx]at hu;simp at hu) (by rw[hv,h0])
  by_cases hroom:n+m<=cap
  · have hfit:off*size+n*size+news.length<=cur.size:=by
      rw[hl,hcs,←Nat.add_mul,←Nat.add_mul]
      exact Nat.mul_le_mul_right _ (by omega)
    subst hsize
    have hr:=run_append_room_cells (P:=P) (w:=w) t ty e i ht hi g (off*i.size) n cap a m c news hl hnews h1 hroom
      (fun j hj=>by rw[cell_of_row w g _ cur e (0,0) hg];simp;omega) (fun j _=>l7 hg _)
    obtain⟨cur',h3,h4,h5⟩:=Bb news (off*i.size+n*i.size) w cur hg hfit
    obtain⟨s1,s2,s3,s4⟩:=Bc g news (off*i.size+n*i.size) w
    refine⟨_,_,by rw[hv];exact hr,⟨by rw[List.length_append,hown.1,hl,Nat.add_mul],.inr ⟨g,off,cap,cur',rfl,hbg,h3,hroom,hcm,by rw[h4,hcs],?_⟩⟩,
      ⟨s1,s2,s3,by rw[s4];exact Nat.le_refl _,fun k _ hk=>Ba news _ k (fun he=>hk (by rw[hv,he];simp[Value.ownBlock]))⟩,.inl (by rw[hv];rfl)⟩
    rw[h5,List.append_assoc,List.drop_append_of_le_length (by rw[List.length_take,Array.length_toList];omega),List.drop_take]
    rw[show off*i.size+n*i.size - off*i.size=n*i.size by omega,htake]
    rw[←List.append_assoc]
    exact List.take_left' (by rw[List.length_append,hown.1,hl,Nat.add_mul])
  refine grows ⟨g,off*size,none⟩ cap (by omega) (fun j u hu=>?_) hv
  rw[r_,cell_of_row w g _ cur e (0,0) hg]
  rw[←htake,List.getElem?_take]at hu
  split at hu
  · rw[List.getElem?_drop]at hu
    rw[←Array.getElem?_toList]
    exact hu
  cases hu
end
namespace Kd
theorem JQ {α:Type}{R:α->List Value->Prop}{size m:Nat}{ps:List α}{cs:List Value}(h:kN R size ps cs):kN R size (ps.drop m) (cs.drop (m*size)):=by
  refine⟨by rw[List.length_drop,List.length_drop,h.1,Nat.sub_mul],fun j p hj=>?_⟩
  rw[List.getElem?_drop]at hj
  have:=h.2 (m+j) p hj
  rw[List.drop_drop,←Nat.add_mul]
  exact this
def Q {α:Type}(d:Kd α) (e:Nat) (w:World) (base:Nat) (ok:Nat->Prop) (v:Value) (xs:List α):Prop:=
  (∀k,v.ownBlock=some k->ok k)/\∃inner,qy w base e d.sz v xs.length inner/\kN (d.M w base (fun k=>ok k/\some k≠v.ownBlock)) d.sz xs inner
section
variable {α:Type}{d:Kd α}{e:Nat}{w w1 W:World}{base:Nat}{ok ok':Nat->Prop}{v:Value}{xs:List α}
theorem zy (h:d.R e w base ok v xs):d.Q e w base ok v xs:=by
  obtain⟨h0,inner,ho,hr⟩:=h
  exact⟨h0,inner,AZ ho,hr⟩
theorem uz (d:Kd α) (e:Nat) (w:World) (base:Nat) (ok:Nat->Prop):d.Q e w base ok (.slice none 0 0) []:=zy (r9 d e w base ok)
theorem tY (h:d.Q e w base ok v xs) (hok:∀k,ok k->ok' k):d.Q e w base ok' v xs:=by
  obtain⟨h0,inner,ho,hr⟩:=h
  exact⟨fun k hk=>hok k (h0 k hk),inner,ho,hr.pJ (fun _ _ hp=>d.M_mono (fun k hk=>⟨hok k hk.1,hk.2⟩) hp)⟩
theorem xQ (h:d.Q e w base ok v xs):d.Q e w base (fun k=>ok k/\base<=k/\k<w.heap.size/\∃q,q∈e::d.E/\∃cells,w.heap[k]? =some (.cells cells q (0,0))) v xs:=by
  obtain⟨h0,inner,ho,hr⟩:=h
  refine⟨fun k hk=>?_,inner,ho,hr.pJ (fun _ _ hp=>d.M_mono (fun k hk=>?_) (d.M_bound hp))⟩
  · obtain⟨hb,cells,hc⟩:=xC ho k hk
    exact⟨h0 k hk,hb,AY ho k hk,e,List.mem_cons_self,cells,hc⟩
  obtain⟨⟨h1,h2⟩,h3,h4,q,hq,hc⟩:=hk
  exact⟨⟨h1,h3,h4,q,List.mem_cons_of_mem _ hq,hc⟩,h2⟩
theorem zx (h:d.Q e w base ok v xs) (hm:∀k,ok k->w1.heap[k]? =w.heap[k]?):d.Q e w1 base ok v xs:=by
  obtain⟨h0,inner,ho,hr⟩:=h
  exact⟨h0,inner,EB ho (fun k hk=>hm k (h0 k hk)),hr.pJ (fun _ _ hp=>d.M_move (fun k hk=>hm k hk.1) hp)⟩
theorem BJ (h:d.Q e w base ok v xs) (hm:∀k,ok k->k<w.heap.size->w1.heap[k]? =w.heap[k]?):d.Q e w1 base ok v xs:=tY (zx (xQ h) (fun k hk=>hm k hk.1 hk.2.2.1)) (fun _ hk=>hk.1)
theorem zw (h:d.Q e w base ok v xs) (hb:Below w.heap.size w w1):d.Q e w1 base ok v xs:=BJ h (fun k _ hk=>hb.block k hk)
theorem rY (h:d.Q e w base ok v xs) (o:Obj):d.Q e (w.alloc o) base ok v xs:=zw h (o6 (Below.refl _ _) o)
theorem rO (h:d.Q e w base ok v xs):d.Q e w.drew base ok v xs:=zw h (wV (Below.refl _ _))
theorem rZ (h:d.Q e w base ok v xs) (m:Nat):d.Q e (w.drewN m) base ok v xs:=zw h (pK (Below.refl _ _) m)
theorem FE (h:d.Q e w base ok v xs) {p:Addr}(hok:∀k,ok k->k≠p.block) (u:Value):d.Q e (w.setCell p u) base ok v xs:=BJ h (fun k ho _=>Below.heap_setCell w p u k (hok k ho))
theorem KT (h:d.Q e w base ok v xs) {g t:Nat}{cells:Array Value}(hb:w.heap[g]? =some (.cells cells t (0,0))) (ht:∀q,q∈e::d.E->q≠t):d.Q e w base (fun k=>ok k/\k≠g) v xs:=
  tY (xQ h) (fun k hk=>⟨hk.1,by
    obtain⟨_,_,_,q,hq,cells',hc⟩:=hk
    rintro rfl
    rw[hc]at hb
    injection hb with hb
    injection hb with _ hb
    exact ht q hq hb⟩)
theorem BH (h:d.Q e w base ok v xs):∀k,v.ownBlock=some k->k<w.heap.size:=by
  obtain⟨_,inner,ho,_⟩:=h
  exact AY ho
theorem BI (h:d.Q e w base ok v xs) {g t:Nat}{cells:Array Value}(hb:w.heap[g]? =some (.cells cells t (0,0))) (ht:e≠t):some g≠v.ownBlock:=by
  obtain⟨_,inner,ho,_⟩:=h
  intro he
  obtain⟨_,cells',hc⟩:=xC ho g he.symm
  rw[hc]at hb
  injection hb with hb
  injection hb with _ hb
  exact ht hb
theorem xR (h:d.Q e w base ok v xs):∃A c,v=.slice A xs.length c/\xs.length<=c:=by
  obtain⟨_,inner,ho,_⟩:=h
  exact EC ho
theorem zz {A:Option Addr}{n c:Nat}(h:d.Q e w base ok (.slice A n c) xs):n=xs.length/\n<=c/\d.C w A xs.length xs:=by
  obtain⟨_,inner,ho,hr⟩:=h
  obtain⟨A',c',he,hl⟩:=EC ho
  injection he with h1 h2 h3
  subst h1;subst h2;subst h3
  refine⟨rfl,hl,rfl,JG ho,fun hp=>?_⟩
  obtain⟨ad,ha,hc⟩:=JD ho hp
  refine⟨ad,ha,fun j p hj=>⟨(inner.drop (j*d.sz)).take d.sz,?_,d.K_of_M (hr.2 j p hj),fun i u hu=>?_⟩⟩
  · have hjl:=(List.getElem?_eq_some_iff.1 hj).1
    have h1:j*d.sz+d.sz<=inner.length:=by rw[hr.1,←Nat.succ_mul];exact Nat.mul_le_mul_right _ hjl
    rw[List.length_take,List.length_drop]
    omega
  refine hc _ u ?_
  rw[List.getElem?_take]at hu
  split at hu
  · rw[List.getElem?_drop]at hu
    exact hu
  cases hu
theorem BD {A:Option Addr}{k n c:Nat}(h:d.Q e w base ok (.slice A n c) xs) (hk:k<=xs.length):d.Q e w base ok (.slice (if c=k then A else A.map (·.add (k*d.sz))) (n - k) (c - k)) (xs.drop k):=by
  have hn:n=xs.length:=(zz h).1
  subst hn
  obtain⟨h0,inner,ho,hr⟩:=h
  have hb:(Value.slice (if c=k then A else A.map (·.add (k*d.sz))) (xs.length - k) (c - k)).ownBlock=(Value.slice A xs.length c).ownBlock:=by
    split
    · cases A<;>rfl
    cases A with
    |none=>rfl
    |some a=>simp[Value.ownBlock];unfold Addr.add;split<;>rfl
  refine⟨fun j hj=>h0 j (by rw[←hb];exact hj),inner.drop (k*d.sz),?_,?_⟩
  · rw[List.length_drop]
    exact JE ho hk
  rw[hb]
  exact JQ hr
theorem FD {okp:Nat->Prop}{v1:Value}{p:α}{inner cs:List Value}(h0:∀k,v.ownBlock=some k->ok k) (hr:kN (d.M W base (fun k=>ok k/\some k≠v.ownBlock)) d.sz xs inner) (hp:d.M W base okp p cs) (pV:∀k,okp k->ok k/\some k≠v.ownBlock) (hfresh:∀k,W.heap.size<=k->ok k)
    (hown:qy w1 base e d.sz v1 (xs.length+1) (inner++cs)) (hg:W.grownBy w1 v.ownBlock) (hat:v1.ownBlock=v.ownBlock\/∃b,v1.ownBlock=some b/\W.heap.size<=b):d.Q e w1 base ok v1 (xs++[p]):=by
  have hne:∀k,some k≠v.ownBlock->k<W.heap.size->some k≠v1.ownBlock:=by
    intro k hk hlt
    rcases hat with hat|⟨b,hb,hle⟩
    · rw[hat];exact hk
    rw[hb]
    intro he
    injection he with he
    omega
  have step:∀ {q:α}{c:List Value}{o:Nat->Prop},d.M W base o q c->(∀k,o k->ok k/\some k≠v.ownBlock)->d.M w1 base (fun k=>ok k/\some k≠v1.ownBlock) q c:=by
    intro q c o hq ho
    have h1:=d.M_move (w1:=w1) (fun k hk=>hg.block k hk.2.2.1 (ho k hk.1).2) (d.M_bound hq)
    exact d.M_mono (fun k hk=>⟨(ho k hk.1).1,hne k (ho k hk.1).2 hk.2.2.1⟩) h1
  refine⟨fun k hk=>?_,inner++cs,by rw[List.length_append,List.length_singleton];exact hown,?_⟩
  · rcases hat with hat|⟨b,hb,hle⟩
    · exact h0 k (hat▸hk)
    rw[hb]at hk
    injection hk with hk
    exact hfresh k (by omega)
  exact(hr.pJ (fun _ _ hq=>step hq (fun _ hk=>hk))).snoc (step hp pV) (d.K_len (d.K_of_M hp))
end
section
variable {P:Program}{ops:Array Oper}{rest:List Oper}{o:Oper}{a:Act}{Q':Exit->Act->World->Prop}{Kc:Act->World->Prop}{α:Type}
theorem FJ (d:Kd α) {w0 W:World}(base:Nat) (t ty e:TypeId) (z:Value) (bytes:Nat)
    (ht:P.underlying t=some (.slice e)) (hinfo:(P.info? e).map (fun i=>(i.zero,i.size,i.bytes))=some (some z,d.sz,bytes)) (hz:z.cells.size=d.sz) (hs0:0<d.sz) (hb0:0<bytes)
    (v:Value) (xs:List α) (p:α) (cs:List Value) (ok okp:Nat->Prop) (hp:d.M W base okp p cs) (pV:∀k,okp k->ok k/\some k≠v.ownBlock) (hfresh:∀k,W.heap.size<=k->ok k)
    (HO:d.Q e W base ok v xs) (HB:Below base w0 W) (hbase:base<=W.heap.size) (hl:(xs.length+1)*bytes<=140737488355328):
    ∃v1 w1,(Builtin.append_ #[t,t] ty #[v,.slice (some ⟨W.heap.size,0,none⟩) 1 1]).run P (W.alloc (.cells cs.toArray e))=.ok v1 w1/\d.Q e w1 base ok v1 (xs++[p])/\Below base w0 w1/\W.grownBy w1 v.ownBlock/\(v1.ownBlock=v.ownBlock\/∃b,v1.ownBlock=some b/\W.heap.size<=b):=by
  obtain⟨h0,inner,hown,hr⟩:=HO
  obtain⟨i0,hi,hzz⟩:=Option.map_eq_some_iff.1 hinfo
  simp only [Prod.mk.injEq]at hzz
  obtain⟨hz0,hz1,hz2⟩:=hzz
  have hlen:xs.length+1<=140737488355328:=Nat.le_trans (Nat.le_mul_of_pos_right _ hb0) hl
  have hcl:=d.K_len (d.K_of_M hp)
  have hq:qy (W.alloc (.cells cs.toArray e)) base e d.sz v xs.length inner:=EB hown (fun k hk=>Below.heap_alloc W _ k (AY hown k hk))
  obtain⟨v1,w1,hrun,hq1,hg1,hat⟩:=JC (P:=P) (W.alloc (.cells cs.toArray e)) base t ty e i0 z d.sz bytes ht hi hz0 hz1 hz2 hz hs0 v xs.length inner hq ⟨W.heap.size,0,none⟩ 1 1 cs (by rw[hcl,Nat.one_mul])
    (by simpa using World.news_of_block (cs:=cs.toArray) (t:=e) (fr:=(0,0)) (heap_alloc_new W (.cells cs.toArray e))) (d.K_one (d.K_of_M hp)) (by omega) (by simp only [maxLen];omega) hl (by simp;omega)
  have hg:W.grownBy w1 v.ownBlock:=World.grownBy.trans (World.grownBy_alloc W _ _) hg1
  have hat':v1.ownBlock=v.ownBlock\/∃b,v1.ownBlock=some b/\W.heap.size<=b:=by
    rcases hat with hat|⟨b,hb,hle⟩
    · exact .inl hat
    exact .inr ⟨b,hb,by rw[World.size_alloc]at hle;omega⟩
  exact⟨v1,w1,hrun,FD h0 hr hp pV hfresh hq1 hg hat',HB.grown hg hbase (fun k hk=>(xC hown k hk).1),hg,hat'⟩
theorem BC (d:Kd α) {w0 W:World}(base:Nat) (hgd:o.guard=none) (s x:Operand) (t e:TypeId) (z:Value) (bytes:Nat)
    (ho:o.op=.call {callee:=.builtin .append,args:= #[s,x],argTypes:= #[t,t]})
    (ht:P.underlying t=some (.slice e)) (hinfo:(P.info? e).map (fun i=>(i.zero,i.size,i.bytes))=some (some z,d.sz,bytes)) (hz:z.cells.size=d.sz) (hs0:0<d.sz) (hb0:0<bytes)
    (v:Value) (xs:List α) (p:α) (cs:List Value) (ok okp:Nat->Prop) (hs:a.eval s=v) (hx:a.eval x=.slice (some ⟨W.heap.size,0,none⟩) 1 1) (hp:d.M W base okp p cs) (pV:∀k,okp k->ok k/\some k≠v.ownBlock) (hfresh:∀k,W.heap.size<=k->ok k)
    (HO:d.Q e W base ok v xs) (HB:Below base w0 W) (hbase:base<=W.heap.size) (hl:(xs.length+1)*bytes<=140737488355328)
    (h:∀v1 w1,d.Q e w1 base ok v1 (xs++[p])->Below base w0 w1->W.grownBy w1 v.ownBlock->(v1.ownBlock=v.ownBlock\/∃b,v1.ownBlock=some b/\W.heap.size<=b)->wpList P ops Q' rest (a.put o.dst v1) w1):
    wpList P ops Q' (o::rest) a (W.alloc (.cells cs.toArray e)):=by
  obtain⟨v1,w1,hr,h1,h2,h3,h4⟩:=FJ (P:=P) d base t o.type e z bytes ht hinfo hz hs0 hb0 v xs p cs ok okp hp pV hfresh HO HB hbase hl
  refine wpList_plain hgd fun K hK=>?_
  unfold Oper.wp execOp
  simp only [ho,resolve,invoke,builtin,Sem.run_bind,Sem.run_pure,Result.andThen_ok,List.map_toArray,List.map_cons,List.map_nil,hs,hx,hr]
  exact hK _ _ (h v1 w1 h1 h2 h3 h4)
end
end Kd
namespace Kd
section
variable {α:Type}{d:Kd α}{e e':Nat}{w w1 W:World}{base:Nat}{ok:Nat->Prop}{u v:Value}{xs:List α}
theorem o8 (h:d.R e w base ok v xs):∀k,v.ownBlock=some k->∃cells,w.heap[k]? =some (.cells cells e (0,0)):=by
  obtain⟨inner,ho⟩:=wT h
  exact fun k hk=>zg ho k hk
theorem oV (h:d.R e W base ok u xs) (hty:∀k,v.ownBlock=some k->∃cells,W.heap[k]? =some (.cells cells e' (0,0))) (ht:∀q,q∈e::d.E->q≠e') (hg:W.grownBy w1 v.ownBlock):d.R e w1 base ok u xs:=by
  refine kw (vO (rT h) (fun k hk=>hg.block k hk.2.2.1 (fun he=>?_))) (fun _ hk=>hk.1)
  obtain⟨_,_,_,q,hq,cells,hc⟩:=hk
  obtain⟨cells',hc'⟩:=hty k he.symm
  rw[hc]at hc'
  injection hc' with hc'
  injection hc' with _ hc'
  exact ht q hq hc'
theorem xS (h:d.R e W base ok u xs) (hty:∀k,v.ownBlock=some k->∃cells,W.heap[k]? =some (.cells cells e' (0,0))) (ht:∀q,q∈e::d.E->q≠e'):d.R e W base (fun k=>ok k/\some k≠v.ownBlock) u xs:=by
  refine kw (rT h) (fun k hk=>⟨hk.1,fun he=>?_⟩)
  obtain⟨_,_,_,q,hq,cells,hc⟩:=hk
  obtain⟨cells',hc'⟩:=hty k he.symm
  rw[hc]at hc'
  injection hc' with hc'
  injection hc' with _ hc'
  exact ht q hq hc'
theorem zC (hu:d.R e W base ok u xs) (hbase:∀k,v.ownBlock=some k->W.heap.size<=k) (hb:Below W.heap.size W w1):d.R e w1 base (fun k=>ok k/\some k≠v.ownBlock) u xs:=
  kw (vO (rT hu) (fun k hk=>hb.block k hk.2.2.1)) (fun k hk=>⟨hk.1,fun he=>by have:=hbase k he.symm;have:=hk.2.2.1;omega⟩)
theorem lI (h:d.R e w1 W.heap.size ok v xs) (hlt:∀k,u.ownBlock=some k->k<W.heap.size):d.R e w1 W.heap.size (fun k=>ok k/\some k≠u.ownBlock) v xs:=
  kw (rT h) (fun k hk=>⟨hk.1,fun he=>by have:=hlt k he.symm;have:=hk.2.1;omega⟩)
theorem FL (h:d.Q e w base ok v xs):∀k,v.ownBlock=some k->∃cells,w.heap[k]? =some (.cells cells e (0,0)):=by
  obtain⟨_,inner,ho,_⟩:=h
  exact fun k hk=>(xC ho k hk).2
theorem FH (h:d.Q e W base ok u xs) (hty:∀k,v.ownBlock=some k->∃cells,W.heap[k]? =some (.cells cells e' (0,0))) (ht:∀q,q∈e::d.E->q≠e') (hg:W.grownBy w1 v.ownBlock):d.Q e w1 base ok u xs:=by
  refine tY (zx (xQ h) (fun k hk=>hg.block k hk.2.2.1 (fun he=>?_))) (fun _ hk=>hk.1)
  obtain⟨_,_,_,q,hq,cells,hc⟩:=hk
  obtain⟨cells',hc'⟩:=hty k he.symm
  rw[hc]at hc'
  injection hc' with hc'
  injection hc' with _ hc'
  exact ht q hq hc'
theorem BG (hu:d.Q e W base ok u xs) (hbase:∀k,v.ownBlock=some k->W.heap.size<=k) (hb:Below W.heap.size W w1):d.Q e w1 base (fun k=>ok k/\some k≠v.ownBlock) u xs:=
  tY (zx (xQ hu) (fun k hk=>hb.block k hk.2.2.1)) (fun k hk=>⟨hk.1,fun he=>by have:=hbase k he.symm;have:=hk.2.2.1;omega⟩)
theorem fresh' (hlt:∀k,u.ownBlock=some k->k<W.heap.size):∀k,W.heap.size<=k->some k≠u.ownBlock:=fun k hk he=>by have:=hlt k he.symm;omega
end
end Kd
theorem xI {α:Type}(a seg:List α) (o:Nat) (h:o+seg.length<=a.length) (q:Nat):
    (a.take o++seg++a.drop (o+seg.length))[q]? =if q<o then a[q]? else if q<o+seg.length then seg[q - o]? else a[q]? :=by
  have hl:(a.take o).length=o:=by rw[List.length_take];omega
  rw[List.append_assoc]
  by_cases h1:q<o
  · rw[if_pos h1,List.getElem?_append_left (by omega),List.getElem?_take,if_pos h1]
  rw[if_neg h1,List.getElem?_append_right (by omega),hl]
  by_cases h2:q<o+seg.length
  · rw[if_pos h2,List.getElem?_append_left (by omega)]
  rw[if_neg h2,List.getElem?_append_right (by omega),List.getElem?_drop]
  congr 1
  omega
namespace Kd
section
variable {α:Type}{d:Kd α}{e base g n cap:Nat}{ok okp:Nat->Prop}{W:World}{xs:List α}
theorem zD (h:d.R e W base ok (.slice (some ⟨g,0,none⟩) n cap) xs) (z:α) (i:Int) (h0:0<=i) (h1:i<n):
    ∃c,c.length=d.sz/\d.M W base (fun k=>ok k/\k≠g) (xs.getD i.toNat z) c/\(∀j u,c[j]? =some u->W.cell? ⟨g,i.toNat*d.sz+j,none⟩=some u)/\∀j,W.frozen? ⟨g,i.toNat*d.sz+j,none⟩=false:=by
  obtain⟨hn,hnc,hC⟩:=ku h
  obtain⟨_,inner,ho,hr⟩:=h
  have hil:i.toNat<xs.length:=by omega
  have hseg:i.toNat*d.sz+d.sz<=inner.length:=by rw[hr.1,←Nat.succ_mul];exact Nat.mul_le_mul_right _ hil
  have hM:=hr.2 i.toNat _ (List.getElem?_eq_getElem hil)
  refine⟨(inner.drop (i.toNat*d.sz)).take d.sz,by rw[List.length_take,List.length_drop];omega,?_,fun j u hu=>?_,fun j=>?_⟩
  · rw[List.getD_eq_getElem?_getD,List.getElem?_eq_getElem hil]
    exact d.M_mono (fun k hk=>⟨hk.1,fun he=>hk.2 (by rw[he];simp[Value.ownBlock])⟩) hM
  · rw[List.getElem?_take]at hu
    split at hu
    · rw[List.getElem?_drop]at hu
      have:=ho.cells (g:=g) (by simp[Value.ownBlock]) _ u hu
      rwa [add_plain]at this
    cases hu
  obtain⟨cells,hc⟩:=zg ho g (by simp[Value.ownBlock])
  exact l7 hc _
theorem FR (h:d.R e W base ok (.slice (some ⟨g,0,none⟩) n cap) xs) (i:Int) (h0:0<=i) (h1:i<n) {c seg:List Value}{j:Nat}(hcl:c.length=d.sz) (hcc:∀j u,c[j]? =some u->W.cell? ⟨g,i.toNat*d.sz+j,none⟩=some u)
    (hj:j+seg.length<=d.sz) {x':α}(hM:d.M W base okp x' (c.take j++seg++c.drop (j+seg.length))) (pV:∀k,okp k->ok k/\k≠g):
    d.R e (W.setCells g (i.toNat*d.sz+j) seg) base ok (.slice (some ⟨g,0,none⟩) n cap) (xs.set i.toNat x')/\W.grownBy (W.setCells g (i.toNat*d.sz+j) seg) (some g):=by
  obtain⟨hn,hnc,_⟩:=ku h
  obtain⟨hok,inner,ho,hr⟩:=h
  have hil:i.toNat<xs.length:=by omega
  have hseg:i.toNat*d.sz+d.sz<=inner.length:=by rw[hr.1,←Nat.succ_mul];exact Nat.mul_le_mul_right _ hil
  have hin:inner.length=n*d.sz:=by rw[hr.1,hn]
  obtain⟨ho1,ho2⟩:=ho
  rcases ho2 with⟨hv,_⟩|⟨g',cap',cur,hv,hb,hh,hnc',hcm,hcs,ht⟩
  · cases hv
  injection hv with ha _ hc
  injection ha with ha
  injection ha with hg
  subst hg;subst hc
  have hfit:i.toNat*d.sz+j+seg.length<=cur.size:=by
    have:n*d.sz<=cap*d.sz:=Nat.mul_le_mul_right _ hnc
    omega
  obtain⟨cur',h3,h4,h5⟩:=Bb seg (i.toNat*d.sz+j) W cur hh hfit
  obtain⟨s1,s2,s3,s4⟩:=Bc g seg (i.toNat*d.sz+j) W
  have hfar:∀k,k≠g->(W.setCells g (i.toNat*d.sz+j) seg).heap[k]? =W.heap[k]? :=fun k hk=>Ba seg _ k hk
  -- the element's cells before are what was read
  have hcin:∀q,q<d.sz->c[q]? =inner[i.toNat*d.sz+q]? :=by
    intro q hq
    have hq':q<c.length:=by omega
    have h6:=hcc q _ (List.getElem?_eq_getElem hq')
    rw[cell_of_row W g _ cur e (0,0) hh]at h6
    rw[List.getElem?_eq_getElem hq',←h6,←ht,List.getElem?_take,if_pos (by rw[←hn];omega),Array.getElem?_toList]
  refine⟨⟨hok,inner.take (i.toNat*d.sz+j)++seg++inner.drop (i.toNat*d.sz+j+seg.length),⟨?_,.inr ⟨g,cap,cur',by rw[List.length_set,hn],hb,h3,by rw[List.length_set,←hn];exact hnc,hcm,by rw[h4,hcs],?_⟩⟩,?_⟩,
    ⟨s1,s2,s3,by rw[s4];exact Nat.le_refl _,fun k _ hk=>hfar k (fun he=>hk (by rw[he]))⟩⟩
  · rw[List.length_set]
    simp only [List.length_append,List.length_take,List.length_drop]
    rw[hr.1]at hseg⊢
    omega
  · rw[List.length_set,←hn]
    apply List.ext_getElem?
    intro q
    rw[List.getElem?_take,h5]
    rw[xI cur.toList seg (i.toNat*d.sz+j) (by rw[Array.length_toList];omega) q,xI inner seg (i.toNat*d.sz+j) (by omega) q]
    have hcur:∀q,q<n*d.sz->cur.toList[q]? =inner[q]? :=by
      intro q hq
      rw[←ht,List.getElem?_take,if_pos (by rw[←hn];exact hq)]
    by_cases hq:q<n*d.sz
    · rw[if_pos hq,hcur q hq]
    rw[if_neg hq,if_neg (by omega),if_neg (by omega),List.getElem?_eq_none (by omega)]
  refine⟨?_,fun m p hm=>?_⟩
  · rw[List.length_set]
    simp only [List.length_append,List.length_take,List.length_drop]
    rw[hr.1]at hseg⊢
    omega
  have hml:m<xs.length:=by
    have:=(List.getElem?_eq_some_iff.1 hm).1
    rwa [List.length_set]at this
  have hmfit:m*d.sz+d.sz<=inner.length:=by rw[hr.1,←Nat.succ_mul];exact Nat.mul_le_mul_right _ hml
  have hgo:some g=(Value.slice (some ⟨g,0,none⟩) n cap).ownBlock:=by simp[Value.ownBlock]
  by_cases hmi:m=i.toNat
  · subst hmi
    rw[List.getElem?_set_self (by omega)]at hm
    injection hm with hm
    subst hm
    have hcells:((inner.take (i.toNat*d.sz+j)++seg++inner.drop (i.toNat*d.sz+j+seg.length)).drop (i.toNat*d.sz)).take d.sz=c.take j++seg++c.drop (j+seg.length):=by
      apply List.ext_getElem?
      intro q
      rw[List.getElem?_take,List.getElem?_drop,xI inner seg _ (by omega),xI c seg j (by omega) q]
      by_cases hq:q<d.sz
      · rw[if_pos hq,hcin q hq]
        by_cases hq1:q<j
        · rw[if_pos (by omega),if_pos hq1]
        rw[if_neg (by omega),if_neg hq1]
        by_cases hq2:q<j+seg.length
        · rw[if_pos (by omega),if_pos hq2]
          congr 1
          omega
        rw[if_neg (by omega),if_neg hq2]
      rw[if_neg hq,if_neg (by omega),if_neg (by omega),List.getElem?_eq_none (by omega)]
    rw[hcells]
    refine d.M_mono (fun k hk=>?_) (d.M_move (w1:=W.setCells g (i.toNat*d.sz+j) seg) (fun k hk=>hfar k (pV k hk).2) hM)
    exact⟨(pV k hk).1,fun he=>(pV k hk).2 (by rw[←hgo]at he;injection he)⟩
  rw[List.getElem?_set_ne (by omega)]at hm
  have hold:=hr.2 m p hm
  have hcells:((inner.take (i.toNat*d.sz+j)++seg++inner.drop (i.toNat*d.sz+j+seg.length)).drop (m*d.sz)).take d.sz=(inner.drop (m*d.sz)).take d.sz:=by
    apply List.ext_getElem?
    intro q
    rw[List.getElem?_take,List.getElem?_take,List.getElem?_drop,List.getElem?_drop,xI inner seg _ (by omega)]
    by_cases hq:q<d.sz
    · rw[if_pos hq,if_pos hq]
      rcases Nat.lt_or_gt_of_ne hmi with hlt|hgt
      · have:m*d.sz+d.sz<=i.toNat*d.sz:=by rw[←Nat.succ_mul];exact Nat.mul_le_mul_right _ hlt
        rw[if_pos (by omega)]
      have:i.toNat*d.sz+d.sz<=m*d.sz:=by rw[←Nat.succ_mul];exact Nat.mul_le_mul_right _ hgt
      rw[if_neg (by omega),if_neg (by omega)]
    rw[if_neg hq,if_neg hq]
  rw[hcells]
  refine d.M_move (fun k hk=>hfar k (fun he=>hk.2 (by rw[he];exact hgo))) hold
end
end Kd
namespace Kd
theorem EL {α:Type}{R:α->List Value->Prop}{size:Nat}{ps qs:List α}{cs ds:List Value}(h:kN R size ps cs) (h':kN R size qs ds):kN R size (ps++qs) (cs++ds):=by
  refine⟨by rw[List.length_append,List.length_append,h.1,h'.1,Nat.add_mul],fun j p hj=>?_⟩
  rcases Nat.lt_or_ge j ps.length with hlt|hge
  · rw[List.getElem?_append_left hlt]at hj
    have hle:j*size+size<=cs.length:=by rw[h.1,←Nat.succ_mul];exact Nat.mul_le_mul_right _ hlt
    rw[List.drop_append_of_le_length (by omega),List.take_append_of_le_length (by rw[List.length_drop];omega)]
    exact h.2 j p hj
  rw[List.getElem?_append_right hge]at hj
  have h2:=h'.2 (j - ps.length) p hj
  have hle:ps.length*size<=j*size:=Nat.mul_le_mul_right _ hge
  rw[List.drop_append,List.drop_eq_nil_of_le (by rw[h.1];exact hle),List.nil_append,h.1,←Nat.sub_mul]
  exact h2
section
variable {P:Program}{ops:Array Oper}{rest:List Oper}{o:Oper}{a:Act}{Q:Exit->Act->World->Prop}{α:Type}
theorem zA (d:Kd α) {Rr:α->List Value->Prop}{w0 W:World}(base:Nat) (hgd:o.guard=none) (s x:Operand) (t e:TypeId) (z:Value) (bytes:Nat)
    (ho:o.op=.call {callee:=.builtin .append,args:= #[s,x],argTypes:= #[t,t]})
    (ht:P.underlying t=some (.slice e)) (hinfo:(P.info? e).map (fun i=>(i.zero,i.size,i.bytes))=some (some z,d.sz,bytes)) (hz:z.cells.size=d.sz) (hs0:0<d.sz) (hb0:0<bytes)
    (v:Value) (xs ys:List α) (A:Option Addr) (m c:Nat) (ok okp:Nat->Prop) (hs:a.eval s=v) (hx:a.eval x=.slice A m c)
    (HO:d.R e W base ok v xs) (HR:qU Rr d.sz W A m ys) (hKM:∀x cs,Rr x cs->d.M W base okp x cs) (pV:∀k,okp k->ok k/\some k≠v.ownBlock) (hfresh:∀k,W.heap.size<=k->ok k)
    (HB:Below base w0 W) (hbase:base<=W.heap.size) (hl:(xs.length+m)*bytes<=140737488355328)
    (h:∀v1 w1,d.R e w1 base ok v1 (xs++ys)->Below base w0 w1->W.grownBy w1 v.ownBlock->(v1.ownBlock=v.ownBlock\/∃b,v1.ownBlock=some b/\W.heap.size<=b)->wpList P ops Q rest (a.put o.dst v1) w1):
    wpList P ops Q (o::rest) a W:=by
  obtain⟨i0,hi,hzz⟩:=Option.map_eq_some_iff.1 hinfo
  simp only [Prod.mk.injEq]at hzz
  obtain⟨hz0,hz1,hz2⟩:=hzz
  have hm:ys.length=m:=HR.1
  have hlen:xs.length+m<=140737488355328:=Nat.le_trans (Nat.le_mul_of_pos_right _ hb0) hl
  obtain⟨hok,inner,hown,hr⟩:=HO
  have hrun:∃v1 w1,(Builtin.append_ #[t,t] o.type #[v,.slice A m c]).run P W=.ok v1 w1/\d.R e w1 base ok v1 (xs++ys)/\W.grownBy w1 v.ownBlock/\(v1.ownBlock=v.ownBlock\/∃b,v1.ownBlock=some b/\W.heap.size<=b):=by
    rcases A with _|ad
    · have h0:m=0:=by
        rcases Nat.eq_zero_or_pos m with h0|h0
        · exact h0
        obtain⟨ad,h,_⟩:=HR.2.2 h0
        cases h
      subst h0
      obtain rfl:ys=[]:=List.eq_nil_of_length_eq_zero hm
      refine⟨v,W,?_,by rw[List.append_nil];exact⟨hok,inner,hown,hr⟩,World.grownBy.refl W _,.inl rfl⟩
      rcases hown.2 with⟨rfl,hn⟩|⟨g,cap,cur,rfl,_,_,hnc,_⟩
      · simp[Builtin.append_,run_underlying ht,sizeOf,typeInfo,hi,Builtin.lenOf,Builtin.firstCells]
      simp[Builtin.append_,run_underlying ht,sizeOf,typeInfo,hi,Builtin.lenOf,Builtin.firstCells,hnc,storeCells]
    obtain⟨news,hnr,hnc⟩:=qU.D_ HR
    have hnM:kN (d.M W base okp) d.sz ys news:=hnr.pJ (fun p c hp=>hKM p c hp)
    have hone:∀u∈news,u.oneCell'=true:=by
      intro u hu
      obtain⟨q,hq,rfl⟩:=List.mem_iff_getElem.1 hu
      have hql:q/d.sz<ys.length:=by
        rw[Nat.div_lt_iff_lt_mul hs0]
        rw[←hnM.1]
        exact hq
      have hc:=hnM.2 (q/d.sz) _ (List.getElem?_eq_getElem hql)
      refine d.K_one (d.K_of_M hc) _ ?_
      rw[List.mem_iff_getElem?]
      refine⟨q%d.sz,?_⟩
      rw[List.getElem?_take,if_pos (Nat.mod_lt _ hs0),List.getElem?_drop,Nat.mul_comm,Nat.div_add_mod,List.getElem?_eq_getElem hq]
    obtain⟨v1,w1,hrun,h2,hg,_,hat⟩:=run_append_own_at (P:=P) W base t o.type e i0 z d.sz bytes ht hi hz0 hz1 hz2 hz hs0 v xs.length inner hown ad m c news (by rw[hnM.1,hm]) hnc hone (by simp only [maxLen];omega) hl hbase
    have hat':v1.ownBlock=v.ownBlock\/∃b,v1.ownBlock=some b/\W.heap.size<=b:=by
      rcases hat with hat|hat
      · exact .inl hat
      exact .inr ⟨_,hat,Nat.le_refl _⟩
    have hne:∀k,some k≠v.ownBlock->k<W.heap.size->some k≠v1.ownBlock:=by
      intro k hk hlt
      rcases hat' with hat|⟨b,hb,hle⟩
      · rw[hat];exact hk
      rw[hb]
      intro he
      injection he with he
      omega
    have step:∀ {q:α}{c:List Value}{o:Nat->Prop},d.M W base o q c->(∀k,o k->ok k/\some k≠v.ownBlock)->d.M w1 base (fun k=>ok k/\some k≠v1.ownBlock) q c:=by
      intro q c o hq ho
      have h1:=d.M_move (w1:=w1) (fun k hk=>hg.block k hk.2.2.1 (ho k hk.1).2) (d.M_bound hq)
      exact d.M_mono (fun k hk=>⟨(ho k hk.1).1,hne k (ho k hk.1).2 hk.2.2.1⟩) h1
    refine⟨v1,w1,hrun,⟨fun k hk=>?_,inner++news,by rw[List.length_append,hm];exact h2,EL (hr.pJ (fun _ _ hq=>step hq (fun _ hk=>hk))) (hnM.pJ (fun _ _ hq=>step hq pV))⟩,hg,hat'⟩
    rcases hat' with hat|⟨b,hb,hle⟩
    · exact hok k (hat▸hk)
    rw[hb]at hk
    injection hk with hk
    exact hfresh k (by omega)
  obtain⟨v1,w1,hr1,h1,hg,hat⟩:=hrun
  refine wpList_plain hgd fun K hK=>?_
  unfold Oper.wp execOp
  simp only [ho,resolve,invoke,builtin,Sem.run_bind,Sem.run_pure,Result.andThen_ok,List.map_toArray,List.map_cons,List.map_nil,hs,hx,hr1]
  exact hK _ _ (h v1 w1 h1 (HB.grown hg hbase (vG hown)) hg hat)
end
end Kd
namespace Kd
section
variable {α:Type}{k:Kd α}{w:World}{A:Option Addr}{xs:List α}{m c:Nat}
theorem Fj (h:k.C w A xs.length xs) (hm:m<=xs.length):k.C w A (xs.take m).length (xs.take m):=by
  have hl:(xs.take m).length=m:=by rw[List.length_take];omega
  refine⟨rfl,by rw[hl];have:=h.2.1;omega,fun hp=>?_⟩
  obtain⟨ad,e,hc⟩:=h.2.2 (by omega)
  refine⟨ad,e,fun j p hj=>hc j p ?_⟩
  rw[List.getElem?_take]at hj
  split at hj
  · exact hj
  cases hj
end
end Kd
theorem kM {w W:World}(h:Below w.heap.size w W):w.heap.size<=W.heap.size:=h.size
theorem lY {w W w2:World}(h:Below w.heap.size w W) (k:Below W.heap.size W w2):Below w.heap.size w w2:=Gh h h.size k
theorem qR.nil (W:World) (k:IntKind):qR W k none ([]:List Int).length []:=⟨rfl,by simp,fun h=>absurd h (Nat.lt_irrefl 0)⟩
theorem qR.drewN {W:World}{k:IntKind}{A:Option Addr}{n:Nat}{xs:List Int}(h:qR W k A n xs) (m:Nat):qR (W.drewN m) k A n xs:=h
theorem nQ {w W:World}{g j:Nat}{v:Value}(h:Below w.heap.size w W) (hg:w.heap.size<=g):Below w.heap.size w (W.setCell ⟨g,j,none⟩ v):=h.setCell hg _
theorem y8 {w W:World}{g:Nat}{row:Option Nat}(h:kX w W g row) (m:Nat):kX w (W.drewN m) g row:=h
theorem y7 {w W:World}{g:Nat}(h:kX w W g none) (o:Obj):kX w (W.alloc o) g none:=h.trans (kX.wH (World.grownBy_alloc W o none) g) (.inl rfl)
theorem Eb {w W:World}{g:Nat}(h:kX w W g none) {a:Addr}{v:Value}(hc:w.cell? a=some v) (hne:a.block≠g):W.cell? a=some v:=by
  have:=h.2 a.block (World.block_lt_of_cell? w a hc) hne (by simp)
  simpa [World.cell?,this] using hc
theorem add_block (a:Addr) (i:Nat):(a.add i).block=a.block:=by unfold Addr.add;split<;>rfl
theorem yl {w0 w w1:World}{B:Nat}(h:Below w0.heap.size w0 w) (hB:w0.heap.size<=B) (k:Below B w w1):Below w0.heap.size w0 w1:=
  h.trans ⟨k.os,k.tape,k.output,k.size,fun i hi=>k.block i (Nat.lt_of_lt_of_le hi hB)⟩
theorem own_base' {w:World}{base:Nat}{e:TypeId}{size n:Nat}{v:Value}{xs:List Value}(h:w.ownsRow base e size v n xs):v.ownBlock=none\/∃b,v.ownBlock=some b/\base<=b:=by
  cases hv:v.ownBlock with
  |none=>exact .inl rfl
  |some b=>exact .inr ⟨b,rfl,vG h b hv⟩
theorem nL {w W:World}{g:Nat}{row:Option Nat}(h:kX w W g row):w.heap.size<=W.heap.size:=h.1
theorem o9.nil {α:Type}(enc:α->Value) (d:α) (W:World):o9 enc d W none ([]:List α).length []:=⟨rfl,by simp,fun h=>absurd h (Nat.lt_irrefl 0)⟩
theorem o9.drewN {α:Type}{enc:α->Value}{d:α}{W:World}{A:Option Addr}{n:Nat}{xs:List α}(h:o9 enc d W A n xs) (m:Nat):o9 enc d (W.drewN m) A n xs:=h
theorem qR.keep {w W:World}{k:IntKind}{A:Option Addr}{n g:Nat}{xs:List Int}(h:qR w k A n xs) (hk:kX w W g none) (hf:∀ad,A=some ad->0<n->ad.block≠g):qR W k A n xs:=
  ⟨h.1,h.2.1,fun hn=>by
    obtain⟨ad,e,hc⟩:=h.2.2 hn
    exact⟨ad,e,fun j hj=>Eb hk (hc j hj) (by rw[add_block];exact hf ad e hn)⟩⟩
theorem o9.keep {α:Type}{enc:α->Value}{d:α}{w W:World}{A:Option Addr}{n g:Nat}{xs:List α}(h:o9 enc d w A n xs) (hk:kX w W g none) (hf:∀ad,A=some ad->0<n->ad.block≠g):o9 enc d W A n xs:=
  ⟨h.1,h.2.1,fun hn=>by
    obtain⟨ad,e,hc⟩:=h.2.2 hn
    exact⟨ad,e,fun j hj=>Eb hk (hc j hj) (by rw[add_block];exact hf ad e hn)⟩⟩
theorem cell_far {W:World}{p a:Addr}(h:a.block≠p.block) (u:Value):(W.setCell p u).cell? a=W.cell? a:=by
  have:=Below.heap_setCell W p u a.block h
  simp[World.cell?,this]
theorem vo {w:World}{g:Nat}{t:TypeId}{cs cs':Array Value}(h:w.heap[g]? =some (.cells cs t (0,0))) (i:Nat) (u:Value) (e:cs.setIfInBounds i u=cs'):(w.setCell ⟨g,i,none⟩ u).heap[g]? =some (.cells cs' t (0,0)):=e▸yo h i u
theorem vC {w W:World}{g:Nat}{row:Option Nat}(h:kX w W g row) {p:Addr}(hp:w.heap.size<=p.block) (u:Value):kX w (W.setCell p u) g row:=
  ⟨by simpa [World.setCell] using h.1,fun i hi hg hr=>(Below.heap_setCell W p u i (by omega)).trans (h.2 i hi hg hr)⟩
theorem l6 {base:Nat}{w W:World}(h:Below base w W):Below base w W.drew:=h.drew
theorem rF {w W:World}{g:Nat}{row:Option Nat}(h:kX w W g row):kX w W.drew g row:=h
namespace Kd
section
variable {α β:Type}{d:Kd α}{d':Kd β}{e e' base base' n:Nat}{ok ok':Nat->Prop}{w W w1 W1:World}{v u:Value}{xs:List α}{ys:List β}{A:Option Addr}{c:Nat}
theorem xU (h:d.R e w base ok v xs):v.ownBlock=none\/∃k,v.ownBlock=some k/\base<=k:=by
  obtain⟨inner,ho⟩:=wT h
  exact own_base' ho
end
end Kd
namespace Kd
section
variable {α:Type}{d:Kd α}{e base g:Nat}{ok:Nat->Prop}{w w1:World}{v:Value}{xs:List α}{o:Obj}
theorem xV (h:d.R e w base ok v xs) (a:Nat) (ha:w.heap.size<=a):d.R e w base (fun k=>ok k/\k≠a) v xs:=kw (rT h) (fun k hk=>⟨hk.1,by have:=hk.2.2.1;omega⟩)
theorem xW (h:d.R e w1 w.heap.size ok v xs) (hb:w.heap[g]? =some o):d.R e w1 w.heap.size (fun k=>ok k/\k≠g) v xs:=kw (rT h) (fun k hk=>⟨hk.1,by have:=lM hb;have:=hk.2.1;omega⟩)
theorem vz (hb:w.heap[g]? =some o):∀k,w.heap.size<=k->k≠g:=fun k hk=>by have:=lM hb;omega
end
end Kd
section
variable {P:Program}{ops:Array Oper}{rest:List Oper}{o:Oper}{a:Act}{Q:Exit->Act->World->Prop}
theorem Gv {W:World}(hgd:o.guard=none) {N:Tmp}(_hd:o.dst=some N) {cs:Array Value}{t:TypeId}
    (hrun:(execOp a.eval o).run P W=.ok (.value (.pointer (some ⟨W.heap.size,0,none⟩))) (W.alloc (.cells cs t (0,0))))
    (h:∀g,g=W.heap.size->∀w1,w1.heap[g]? =some (.cells cs t (0,0))->Below W.heap.size W w1->wpList P ops Q rest (a.put o.dst (.pointer (some ⟨g,0,none⟩))) w1):wpList P ops Q (o::rest) a W:=
  Kd.Az hgd hrun (h _ rfl _ (zT W _) (o6 (Below.refl _ _) _))
end
namespace Kd
section
variable {α:Type}{enc:α->Value}{h1:∀x,(enc x).oneCell'=true}{e base g n cap:Nat}{ok:Nat->Prop}{W:World}{xs:List α}
theorem sH (d:α) (h:(scalar enc h1).R e W base ok (.slice (some ⟨g,0,none⟩) n cap) xs) (i:Int) (h0:0<=i) (hi:i<n):W.cell? ⟨g,i.toNat,none⟩=some (enc (mX d xs i))/\W.frozen? ⟨g,i.toNat,none⟩=false:=by
  obtain⟨rfl,_⟩:=ku h
  exact FM d h i h0 hi
theorem zG (h:(scalar enc h1).R e W base ok (.slice (some ⟨g,0,none⟩) n cap) xs) (i:Int) (x:α):(scalar enc h1).R e (W.setCell ⟨g,i.toNat,none⟩ (enc x)) base ok (.slice (some ⟨g,0,none⟩) n cap) (xs.set i.toNat x):=by
  obtain⟨rfl,_⟩:=ku h
  exact(BQ h i x).1
end
end Kd
section
variable {P:Program}{ops:Array Oper}{rest:List Oper}{o:Oper}{a:Act}{Q:Exit->Act->World->Prop}
theorem wQ {W w1:World}(hgd:o.guard=none) {t:TypeId}{p:Tmp}{v:Operand}(_ho:o.op=.store t (.tmp p) v) (hN:o.dst=none)
    (hrun:(execOp a.eval o).run P W=.ok .skip w1) (h:∀w',w'=w1->wpList P ops Q rest a w'):wpList P ops Q (o::rest) a W:=by
  refine wpList_plain hgd fun K hK=>?_
  unfold Oper.wp
  rw[hrun]
  show K (a.put o.dst undef) w1
  rw[hN]
  exact hK _ _ (h _ rfl)
end
namespace Kd
section
variable {α:Type}{enc:α->Value}{h1:∀x,(enc x).oneCell'=true}{e base g n cap:Nat}{ok:Nat->Prop}{W:World}{xs:List α}
theorem wU (h:(scalar enc h1).R e W base ok (.slice (some ⟨g,0,none⟩) n cap) xs) (i:Int) (x:α):(scalar enc h1).R e (W.setCell ⟨g,i.toNat,none⟩ (enc x)) base ok (.slice (some ⟨g,0,none⟩) n cap) (xs.set i.toNat x)/\W.grownBy (W.setCell ⟨g,i.toNat,none⟩ (enc x)) (some g):=by
  obtain⟨rfl,_⟩:=ku h
  exact BQ h i x
end
end Kd
section
variable {P:Program}{ops:Array Oper}{rest:List Oper}{o:Oper}{a:Act}{Q:Exit->Act->World->Prop}{W:World}
theorem K3 {N:Tmp}(_hN:o.dst=some N) (h:wpList P ops Q (o::rest) a W):wpList P ops Q (o::rest) a W:=h
theorem wm {t:TypeId}{p:Tmp}{v:Operand}(_ho:o.op=.store t (.tmp p) v) (h:wpList P ops Q (o::rest) a W):wpList P ops Q (o::rest) a W:=h
end
section
variable {P:Program}{ops:Array Oper}{o:Oper}{a:Act}{Q:Exit->Act->World->Prop}{Kc:Act->World->Prop}
theorem DU {W w1:World}{v:Value}(hw:Region.wanted o (yielded ops a.tmps)=true) (hrun:(execOp a.eval o).run P W=.ok (.value v) w1) (h:Kc (a.put o.dst v) w1):if Region.wanted o (yielded ops a.tmps)=true then Oper.wp P o a W Kc Q else Kc (a.put o.dst undef) W:=by
  rw[if_pos hw]
  unfold Oper.wp
  rw[hrun]
  exact h
theorem qc {W:World}(hw:Region.wanted o (yielded ops a.tmps)=true) {N:Tmp}(_hd:o.dst=some N) {cs:Array Value}{t:TypeId}
    (hrun:(execOp a.eval o).run P W=.ok (.value (.pointer (some ⟨W.heap.size,0,none⟩))) (W.alloc (.cells cs t (0,0))))
    (h:∀g,g=W.heap.size->∀w1,w1.heap[g]? =some (.cells cs t (0,0))->Below W.heap.size W w1->Kc (a.put o.dst (.pointer (some ⟨g,0,none⟩))) w1):if Region.wanted o (yielded ops a.tmps)=true then Oper.wp P o a W Kc Q else Kc (a.put o.dst undef) W:=
  DU hw hrun (h _ rfl _ (zT W _) (o6 (Below.refl _ _) _))
namespace Kd
variable {α:Type}
theorem rP (d:Kd α) {w0 W:World}(base e:Nat) (hw:Region.wanted o (yielded ops a.tmps)=true) {N:Tmp}(_hd:o.dst=some N) {xs:List α}{inner:List Value}{ok okp:Nat->Prop}
    (hrun:(execOp a.eval o).run P W=.ok (.value (.slice (some ⟨W.heap.size,0,none⟩) xs.length xs.length)) (W.alloc (.cells inner.toArray e)))
    (hrep:kN (d.M W base okp) d.sz xs inner) (hok:∀k,okp k->ok k) (hfresh:ok W.heap.size) (HB:Below base w0 W) (hbase:base<=W.heap.size) (hm:xs.length<=9223372036854775807)
    (h:∀v1 w1,d.R e w1 base ok v1 xs->Below base w0 w1->W.grownBy w1 none->(∃b,v1.ownBlock=some b/\W.heap.size<=b)->Kc (a.put o.dst v1) w1):if Region.wanted o (yielded ops a.tmps)=true then Oper.wp P o a W Kc Q else Kc (a.put o.dst undef) W:=by
  refine DU hw hrun (h _ _ ⟨fun k hk=>?_,inner,?_,?_⟩ (HB.alloc hbase _) (World.grownBy_alloc W _ none) ⟨W.heap.size,by simp[Value.ownBlock],Nat.le_refl _⟩)
  · have:W.heap.size=k:=by simpa [Value.ownBlock] using hk
    subst this
    exact hfresh
  · have h2:=World.ownsRow_lit (base:=base) (e:=e) (size:=d.sz) W inner.toArray xs.length hbase (by simpa [maxLen] using hm) (by simpa using hrep.1)
    simpa using h2
  refine hrep.pJ (fun p c hp=>d.M_mono (fun k hk=>⟨hok k hk.1,fun he=>?_⟩) (Bw (d.M_bound hp) (o6 (Below.refl _ _) _)))
  have h3:k=W.heap.size:=by simpa [Value.ownBlock] using he
  have:=hk.2.2.1
  omega
theorem zB (d:Kd α) {Rr:α->List Value->Prop}{w0 W:World}(base:Nat) (hw:Region.wanted o (yielded ops a.tmps)=true) (s x:Operand) (t e:TypeId) (z:Value) (bytes:Nat)
    (ho:o.op=.call {callee:=.builtin .append,args:= #[s,x],argTypes:= #[t,t]})
    (ht:P.underlying t=some (.slice e)) (hinfo:(P.info? e).map (fun i=>(i.zero,i.size,i.bytes))=some (some z,d.sz,bytes)) (hz:z.cells.size=d.sz) (hs0:0<d.sz) (hb0:0<bytes)
    (v:Value) (xs ys:List α) (A:Option Addr) (m c:Nat) (ok okp:Nat->Prop) (hs:a.eval s=v) (hx:a.eval x=.slice A m c)
    (HO:d.R e W base ok v xs) (HR:qU Rr d.sz W A m ys) (hKM:∀x cs,Rr x cs->d.M W base okp x cs) (pV:∀k,okp k->ok k/\some k≠v.ownBlock) (hfresh:∀k,W.heap.size<=k->ok k)
    (HB:Below base w0 W) (hbase:base<=W.heap.size) (hl:(xs.length+m)*bytes<=140737488355328)
    (h:∀v1 w1,d.R e w1 base ok v1 (xs++ys)->Below base w0 w1->W.grownBy w1 v.ownBlock->(v1.ownBlock=v.ownBlock\/∃b,v1.ownBlock=some b/\W.heap.size<=b)->Kc (a.put o.dst v1) w1):
    if Region.wanted o (yielded ops a.tmps)=true then Oper.wp P o a W Kc Q else Kc (a.put o.dst undef) W:=by
  obtain⟨i0,hi,hzz⟩:=Option.map_eq_some_iff.1 hinfo
  simp only [Prod.mk.injEq]at hzz
  obtain⟨hz0,hz1,hz2⟩:=hzz
  have hm:ys.length=m:=HR.1
  have hlen:xs.length+m<=140737488355328:=Nat.le_trans (Nat.le_mul_of_pos_right _ hb0) hl
  obtain⟨hok,inner,hown,hr⟩:=HO
  have hrun:∃v1 w1,(Builtin.append_ #[t,t] o.type #[v,.slice A m c]).run P W=.ok v1 w1/\d.R e w1 base ok v1 (xs++ys)/\W.grownBy w1 v.ownBlock/\(v1.ownBlock=v.ownBlock\/∃b,v1.ownBlock=some b/\W.heap.size<=b):=by
    rcases A with _|ad
    · have h0:m=0:=by
        rcases Nat.eq_zero_or_pos m with h0|h0
        · exact h0
        obtain⟨ad,h,_⟩:=HR.2.2 h0
        cases h
      subst h0
      obtain rfl:ys=[]:=List.eq_nil_of_length_eq_zero hm
      refine⟨v,W,?_,by rw[List.append_nil];exact⟨hok,inner,hown,hr⟩,World.grownBy.refl W _,.inl rfl⟩
      rcases hown.2 with⟨rfl,hn⟩|⟨g,cap,cur,rfl,_,_,hnc,_⟩
      · simp[Builtin.append_,run_underlying ht,sizeOf,typeInfo,hi,Builtin.lenOf,Builtin.firstCells]
      simp[Builtin.append_,run_underlying ht,sizeOf,typeInfo,hi,Builtin.lenOf,Builtin.firstCells,hnc,storeCells]
    obtain⟨news,hnr,hnc⟩:=qU.D_ HR
    have hnM:kN (d.M W base okp) d.sz ys news:=hnr.pJ (fun p c hp=>hKM p c hp)
    have hone:∀u∈news,u.oneCell'=true:=by
      intro u hu
      obtain⟨q,hq,rfl⟩:=List.mem_iff_getElem.1 hu
      have hql:q/d.sz<ys.length:=by
        rw[Nat.div_lt_iff_lt_mul hs0]
        rw[←hnM.1]
        exact hq
      have hc:=hnM.2 (q/d.sz) _ (List.getElem?_eq_getElem hql)
      refine d.K_one (d.K_of_M hc) _ ?_
      rw[List.mem_iff_getElem?]
      refine⟨q%d.sz,?_⟩
      rw[List.getElem?_take,if_pos (Nat.mod_lt _ hs0),List.getElem?_drop,Nat.mul_comm,Nat.div_add_mod,List.getElem?_eq_getElem hq]
    obtain⟨v1,w1,hrun,h2,hg,_,hat⟩:=run_append_own_at (P:=P) W base t o.type e i0 z d.sz bytes ht hi hz0 hz1 hz2 hz hs0 v xs.length inner hown ad m c news (by rw[hnM.1,hm]) hnc hone (by simp only [maxLen];omega) hl hbase
    have hat':v1.ownBlock=v.ownBlock\/∃b,v1.ownBlock=some b/\W.heap.size<=b:=by
      rcases hat with hat|hat
      · exact .inl hat
      exact .inr ⟨_,hat,Nat.le_refl _⟩
    have hne:∀k,some k≠v.ownBlock->k<W.heap.size->some k≠v1.ownBlock:=by
      intro k hk hlt
      rcases hat' with hat|⟨b,hb,hle⟩
      · rw[hat];exact hk
      rw[hb]
      intro he
      injection he with he
      omega
    have step:∀ {q:α}{c:List Value}{o:Nat->Prop},d.M W base o q c->(∀k,o k->ok k/\some k≠v.ownBlock)->d.M w1 base (fun k=>ok k/\some k≠v1.ownBlock) q c:=by
      intro q c o hq ho
      have h1:=d.M_move (w1:=w1) (fun k hk=>hg.block k hk.2.2.1 (ho k hk.1).2) (d.M_bound hq)
      exact d.M_mono (fun k hk=>⟨(ho k hk.1).1,hne k (ho k hk.1).2 hk.2.2.1⟩) h1
    refine⟨v1,w1,hrun,⟨fun k hk=>?_,inner++news,by rw[List.length_append,hm];exact h2,EL (hr.pJ (fun _ _ hq=>step hq (fun _ hk=>hk))) (hnM.pJ (fun _ _ hq=>step hq pV))⟩,hg,hat'⟩
    rcases hat' with hat|⟨b,hb,hle⟩
    · exact hok k (hat▸hk)
    rw[hb]at hk
    injection hk with hk
    exact hfresh k (by omega)
  obtain⟨v1,w1,hr1,h1,hg,hat⟩:=hrun
  rw[if_pos hw]
  unfold Oper.wp execOp
  simp only [ho,resolve,invoke,builtin,Sem.run_bind,Sem.run_pure,Result.andThen_ok,List.map_toArray,List.map_cons,List.map_nil,hs,hx,hr1]
  exact h v1 w1 h1 (HB.grown hg hbase (vG hown)) hg hat
end Kd
end
end Go.Proofs.YtgeonpciodepgaaW.PrintWords
namespace Go.Proofs.YtgeonpciodepgaaW.PrintLast
section
variable {P:Program}{ops:Array Oper}{Q:Exit->Act->World->Prop}{md:Region.Mode}{S:World->Prop}{ds:List Nat}
def Region.sF (md:Region.Mode) (ops:Array Oper) (i:Nat):Nat->Nat->Bool
  |0,_=>false
  |fuel+1,d=>match ops[d]? with
    |some o=>o.after.any fun e=>Region.binds md e&&(e.on==i||Region.sF md ops i fuel e.on)
    |none=>false
def Region.xw (md:Region.Mode) (ops:Array Oper) (listed:Array Bool):Bool:=
  (List.range ops.size).all fun j=> !listed.getD j false||match ops[j]? with
    |some o=>o.after.all fun e=> !Region.binds md e||listed.getD e.on false
    |none=>true
def Region.lastB (md:Region.Mode) (ops:Array Oper) (listed:Array Bool) (ds:List Nat) (i:Nat):Bool:=
  ds.all fun d=>listed.getD d true||Region.sF md ops i ops.size d
def uX (md:Region.Mode) (ops:Array Oper) (listed:Array Bool):Prop:=
  ∀j oj,ops[j]? =some oj->listed.getD j false=true->∀e∈oj.after,Region.binds md e=true->listed.getD e.on false=true
theorem Region.GM {listed:Array Bool}(h:Region.xw md ops listed=true):uX md ops listed:=by
  intro j oj hj hl e he hb
  have hlt:j<ops.size:=(Array.getElem?_eq_some_iff.1 hj).1
  have h1:=List.all_eq_true.1 h j (List.mem_range.2 hlt)
  simp only [hl,hj,Bool.not_true,Bool.false_or]at h1
  have h2:=Array.all_eq_true_iff_forall_mem.1 h1 e he
  simpa [hb] using h2
theorem uX.set {listed:Array Bool}{i:Nat}(h:uX md ops listed) (hi:i∈Region.ready md ops listed):uX md ops (listed.setIfInBounds i true):=by
  obtain⟨_,oi,hoi,hall⟩:=mem_ready.1 hi
  intro j oj hj hl e he hb
  by_cases hij:i=j
  · subst hij
    have:oj=oi:=Option.some.inj (hj.symm.trans hoi)
    subst this
    exact getD_set_true (hall e he hb)
  rw[getD_set_ne false hij]at hl
  exact getD_set_true (h j oj hj hl e he hb)
theorem Region.EJ {listed:Array Bool}{i:Nat}(hc:uX md ops listed):∀ (fuel d:Nat),Region.sF md ops i fuel d=true->listed.getD d false=true->listed.getD i false=true
  |0,_,h,_=>by simp[Region.sF]at h
  |fuel+1,d,h,hl=>by
    unfold Region.sF at h
    cases ho:ops[d]? with
    |none=>rw[ho]at h;simp at h
    |some o=>
      rw[ho]at h
      obtain⟨e,he,h1⟩:=Array.any_eq_true'.1 h
      simp only [Bool.and_eq_true,Bool.or_eq_true,beq_iff_eq]at h1
      have hle:=hc d o ho hl e he h1.1
      rcases h1.2 with h2|h2
      · rw[←h2];exact hle
      exact Region.EJ hc fuel e.on h2 hle
theorem Region.JN {listed:Array Bool}{i d fuel:Nat}(hc:uX md ops listed) (hr:Region.sF md ops i fuel d=true) (hun:listed.getD i true=false):d∉Region.ready md ops listed:=by
  intro hd
  obtain⟨_,o,ho,hall⟩:=mem_ready.1 hd
  have hi:listed.getD i false=true:=by
    cases fuel with
    |zero=>simp[Region.sF]at hr
    |succ n=>
      unfold Region.sF at hr
      rw[ho]at hr
      obtain⟨e,he,h1⟩:=Array.any_eq_true'.1 hr
      simp only [Bool.and_eq_true,Bool.or_eq_true,beq_iff_eq]at h1
      have hle:=hall e he h1.1
      rcases h1.2 with h2|h2
      · rw[←h2];exact hle
      exact Region.EJ hc n e.on h2 hle
  rcases Nat.lt_or_ge i listed.size with h'|h'
  · simp[h']at hun hi
    rw[hun]at hi
    cases hi
  simp[Array.getElem?_eq_none h']at hun
def lL (P:Program) (md:Region.Mode) (ops:Array Oper) (Q:Exit->Act->World->Prop) (S:World->Prop) (ds:List Nat):Nat->Array Bool->Act->World->Prop
  |0,listed,a,w=>Region.ready md ops listed=[]/\Q .normal a w
  |fuel+1,listed,a,w=>
    (Region.ready md ops listed=[]->Q .normal a w)/\
    ∀i∈Region.ready md ops listed,wpOp P ops Q i (fun a' w'=>(i∉ds->S w->S w')/\lL P md ops Q S ds fuel (listed.setIfInBounds i true) a' w') a w
theorem Fe:∀ (fuel:Nat) (listed:Array Bool) (a:Act) (w:World),lL P md ops Q S ds fuel listed a w->wpAny P md ops Q fuel listed a w
  |0,_,_,_,h=>h
  |fuel+1,_,_,_,h=>⟨h.1,fun i hi=>wpOp_mono (fun a' w' h'=>Fe fuel _ a' w' h'.2) (h.2 i hi)⟩
theorem KL {i:Nat}{oi:Oper}{v:Value}(hi:ops[i]? =some oi) (hsel:∀ (j:Nat) (o:Oper) cs b,ops[j]? =some o->o.op≠.select cs b)
    (hQ:∀c a w,Q (.panic c) (a.put oi.dst v) w->Q (.panic c) a w) (n:Nat):
    ∀ (fuel:Nat) (listed:Array Bool) (a:Act) (w:World),
      (∀j oj,ops[j]? =some oj->j≠i->listed.getD j true=false->(∀e∈oj.after,Region.binds md e=true->e.on≠i)->oi.apart ops oj=true)->
      uX md ops listed->(∀d∈ds,listed.getD d true=false->Region.sF md ops i n d=true)->
      i∈Region.ready md ops listed->YieldsIf P ops S oi v a->S w->
      lL P md ops Q S ds fuel (listed.setIfInBounds i true) (a.put oi.dst v) w->lL P md ops Q S ds (fuel+1) listed a w:=by
  intro fuel
  induction fuel with
  |zero=>
    intro listed a w _ _ _ hr hy hS H
    refine⟨fun h=>(by rw[h]at hr;cases hr),fun j hj=>?_⟩
    by_cases hji:j=i
    · subst hji;exact hy.wpOp hi hS ⟨fun _ h=>h,H⟩
    have:=ready_mono hj hji
    rw[H.1]at this
    cases this
  |succ fuel ih=>
    intro listed a w hfree hc hd hr hy hS H
    refine⟨fun h=>(by rw[h]at hr;cases hr),fun j hj=>?_⟩
    by_cases hji:j=i
    · subst hji;exact hy.wpOp hi hS ⟨fun _ h=>h,H⟩
    have h1:=H.2 j (ready_mono hj hji)
    obtain⟨hjun,oj,hoj,hall⟩:=mem_ready.1 hj
    have hiun:=(mem_ready.1 hr).1
    have hnot:∀e∈oj.after,Region.binds md e=true->e.on≠i:=fun e he hb heq=>by
      have h1:=hall e he hb
      rw[heq]at h1
      rcases Nat.lt_or_ge i listed.size with h'|h'
      · simp[h']at hiun h1;rw[hiun]at h1;cases h1
      simp[Array.getElem?_eq_none h']at h1
    have hjd:j∉ds:=fun hm=>Region.JN hc (hd j hm hjun) hiun hj
    have h2:=wpOp_putIf hoj (hfree j oj hoj hji hjun hnot) (fun cs b=>hsel i oi cs b hi) (fun cs b=>hsel j oj cs b hoj) hQ hy h1
    have hfree':∀k ok,ops[k]? =some ok->k≠i->(listed.setIfInBounds j true).getD k true=false->
        (∀e∈ok.after,Region.binds md e=true->e.on≠i)->oi.apart ops ok=true:=fun k ok hk hki hun hno=>by
      refine hfree k ok hk hki ?_ hno
      by_cases hjk:j=k
      · subst hjk;exact hjun
      rw[getD_set_ne true hjk]at hun;exact hun
    have hd':∀d∈ds,(listed.setIfInBounds j true).getD d true=false->Region.sF md ops i n d=true:=fun d hm hun=>by
      refine hd d hm ?_
      by_cases hjk:j=d
      · subst hjk;exact hjun
      rw[getD_set_ne true hjk]at hun;exact hun
    refine wpOp_mono (fun a' w' h3=>⟨h3.2.1,ih (listed.setIfInBounds j true) a' w' hfree' (hc.set hj) hd' (ready_mono hr (Ne.symm hji)) h3.1 (h3.2.1 hjd hS) ?_⟩) h2
    rw[Array.setIfInBounds_comm _ _ hji]
    exact h3.2.2
theorem KI {i:Nat}{oi:Oper}{v:Value}(hi:ops[i]? =some oi) (hsel:∀ (j:Nat) (o:Oper) cs b,ops[j]? =some o->o.op≠.select cs b)
    (hQ:∀c a w,Q (.panic c) (a.put oi.dst v) w->Q (.panic c) a w):
    ∀ (fuel:Nat) (listed:Array Bool) (a:Act) (w:World),
      (∀j oj,ops[j]? =some oj->j≠i->listed.getD j true=false->(∀e∈oj.after,Region.binds md e=true->e.on≠i)->oi.apart ops oj=true)->
      i∈Region.ready md ops listed->Yields P ops oi v a->
      lL P md ops Q S ds fuel (listed.setIfInBounds i true) (a.put oi.dst v) w->lL P md ops Q S ds (fuel+1) listed a w:=by
  intro fuel
  induction fuel with
  |zero=>
    intro listed a w _ hr hy H
    refine⟨fun h=>(by rw[h]at hr;cases hr),fun j hj=>?_⟩
    by_cases hji:j=i
    · subst hji;exact(hy.yieldsIf (S:=fun _=>True)).wpOp hi trivial ⟨fun _ h=>h,H⟩
    have:=ready_mono hj hji
    rw[H.1]at this
    cases this
  |succ fuel ih=>
    intro listed a w hfree hr hy H
    refine⟨fun h=>(by rw[h]at hr;cases hr),fun j hj=>?_⟩
    by_cases hji:j=i
    · subst hji;exact(hy.yieldsIf (S:=fun _=>True)).wpOp hi trivial ⟨fun _ h=>h,H⟩
    have h1:=H.2 j (ready_mono hj hji)
    obtain⟨hjun,oj,hoj,hall⟩:=mem_ready.1 hj
    have hiun:=(mem_ready.1 hr).1
    have hnot:∀e∈oj.after,Region.binds md e=true->e.on≠i:=fun e he hb heq=>by
      have h1:=hall e he hb
      rw[heq]at h1
      rcases Nat.lt_or_ge i listed.size with h'|h'
      · simp[h']at hiun h1;rw[hiun]at h1;cases h1
      simp[Array.getElem?_eq_none h']at h1
    have h2:=wpOp_put hoj (hfree j oj hoj hji hjun hnot) (fun cs b=>hsel i oi cs b hi) (fun cs b=>hsel j oj cs b hoj) hQ hy h1
    have hfree':∀k ok,ops[k]? =some ok->k≠i->(listed.setIfInBounds j true).getD k true=false->
        (∀e∈ok.after,Region.binds md e=true->e.on≠i)->oi.apart ops ok=true:=fun k ok hk hki hun hno=>by
      refine hfree k ok hk hki ?_ hno
      by_cases hjk:j=k
      · subst hjk;exact hjun
      rw[getD_set_ne true hjk]at hun;exact hun
    refine wpOp_mono (fun a' w' h3=>⟨h3.2.1,ih (listed.setIfInBounds j true) a' w' hfree' (ready_mono hr (Ne.symm hji)) h3.1 ?_⟩) h2
    rw[Array.setIfInBounds_comm _ _ hji]
    exact h3.2.2
theorem KM {i:Nat}{oi:Oper}{v:Value}{fuel:Nat}{listed:Array Bool}{a:Act}{w:World}(hi:ops[i]? =some oi)
    (hs:Region.noSelect ops=true) (hf:Region.free md ops listed i=true) (hr:(Region.ready md ops listed).contains i=true)
    (hc:Region.xw md ops listed=true) (hl:Region.lastB md ops listed ds i=true)
    (hQ:∀c a w,Q (.panic c) (a.put oi.dst v) w->Q (.panic c) a w) (hy:YieldsIf P ops S oi v a) (hS:S w)
    (h:lL P md ops Q S ds fuel (listed.setIfInBounds i true) (a.put oi.dst v) w):lL P md ops Q S ds (fuel+1) listed a w:=
  KL hi (Region.noSelect_spec hs) hQ ops.size fuel listed a w (Region.free_spec hi hf) (Region.GM hc)
    (fun d hm hun=>by have:=List.all_eq_true.1 hl d hm;rw[hun]at this;simpa using this) (by simpa using hr) hy hS h
theorem KH {rs:List Nat}{fuel:Nat}{listed:Array Bool}{a:Act}{w:World}(hr:Region.ready md ops listed=rs) (hne:rs≠[])
    (h:∀i∈rs,wpOp P ops Q i (fun a' w'=>(i∉ds->S w->S w')/\lL P md ops Q S ds fuel (listed.setIfInBounds i true) a' w') a w):lL P md ops Q S ds (fuel+1) listed a w:=
  ⟨fun h0=>absurd (hr▸h0) hne,hr▸h⟩
theorem KJ {listed:Array Bool}{a:Act}{w:World}(hr:Region.ready md ops listed=[]) (h:Q .normal a w):
    ∀fuel,lL P md ops Q S ds fuel listed a w
  |0=>⟨hr,h⟩
  |_+1=>⟨fun _=>h,by rw[hr];simp⟩
theorem KN {id:Nat}{a:Act}{w:World}(hm:P.follows .mixedOrders=true)
    (h:lL P .any ops Q S ds ops.size (Array.replicate ops.size false) a {w with drawn:=w.drawn+1}):(Code.region id ops true).wp P Q a w:=
  wp_region_any hm (Fe _ _ _ _ h)
end
section
variable {P:Program}{ops:Array Oper}{Q:Exit->Act->World->Prop}{md:Region.Mode}{S:World->Prop}{ds:List Nat}
def qQ (P:Program) (md:Region.Mode) (ops:Array Oper) (Q:Exit->Act->World->Prop) (S:World->Prop) (ds:List Nat) (fuel:Nat) (listed:Array Bool) (a:Act) (w:World) (rs:List Nat):Prop:=
  ∀i∈rs,wpOp P ops Q i (fun a' w'=>(i∉ds->S w->S w')/\lL P md ops Q S ds fuel (listed.setIfInBounds i true) a' w') a w
theorem qQ.nil {fuel:Nat}{listed:Array Bool}{a:Act}{w:World}:qQ P md ops Q S ds fuel listed a w []:=fun _ h=>by cases h
theorem qQ.cons {fuel:Nat}{listed:Array Bool}{a:Act}{w:World}{i:Nat}{o:Oper}{rs:List Nat}(ho:ops[i]? =some o) (hd:i∉ds)
    (h:∀K':Act->World->Prop,Shut (∀a w,S w->(S w->lL P md ops Q S ds fuel (listed.setIfInBounds i true) a w)->K' a w)->if Region.wanted o (yielded ops a.tmps)=true then Oper.wp P o a w K' Q else K' (a.put o.dst undef) w)
    (hs:qQ P md ops Q S ds fuel listed a w rs):qQ P md ops Q S ds fuel listed a w (i::rs):=fun j hj=>by
  rcases List.mem_cons.1 hj with rfl|hj
  · exact wpOp_step ho (fun K' hK=>h K' (fun a w hS hW=>hK a w ⟨fun _ _=>hS,hW hS⟩))
  exact hs j hj
theorem qQ.GU {fuel:Nat}{listed:Array Bool}{a:Act}{w:World}{i:Nat}{o:Oper}{rs:List Nat}(ho:ops[i]? =some o) (hd:i∈ds)
    (h:∀K':Act->World->Prop,Shut (∀a w,lL P md ops Q S ds fuel (listed.setIfInBounds i true) a w->K' a w)->if Region.wanted o (yielded ops a.tmps)=true then Oper.wp P o a w K' Q else K' (a.put o.dst undef) w)
    (hs:qQ P md ops Q S ds fuel listed a w rs):qQ P md ops Q S ds fuel listed a w (i::rs):=fun j hj=>by
  rcases List.mem_cons.1 hj with rfl|hj
  · exact wpOp_step ho (fun K' hK=>h K' (fun a w hW=>hK a w ⟨fun hn=>absurd hd hn,hW⟩))
  exact hs j hj
theorem Bt {rs:List Nat}{fuel:Nat}{listed:Array Bool}{a:Act}{w:World}(hr:Region.ready md ops listed=rs) (hne:rs≠[])
    (h:qQ P md ops Q S ds fuel listed a w rs):lL P md ops Q S ds (fuel+1) listed a w:=KH hr hne h
theorem wO {id n:Nat}{a:Act}{w:World}(l:Array Bool) (hm:P.follows .mixedOrders=true) (hn:ops.size=n) (hl:Array.replicate n false=l) (hS:S w.drew)
    (h:S w.drew->lL P .any ops Q S ds n l a w.drew):(Code.region id ops true).wp P Q a w:=by
  subst hn
  subst hl
  exact KN hm (h hS)
def takeB (md:Region.Mode) (ops:Array Oper) (ds:List Nat) (l l':Array Bool) (i:Nat):Bool:=
  Region.noSelect ops&&Region.free md ops l i&&(Region.ready md ops l).contains i&&Region.xw md ops l&&Region.lastB md ops l ds i&&(l.setIfInBounds i true==l')
theorem qo {i:Nat}{N:Option Tmp}{oi:Oper}{v:Value}{fuel:Nat}{l:Array Bool}{a:Act}{w:World}(l':Array Bool) (hi:ops[i]? =some oi) (hN:oi.dst=N) (hc:takeB md ops ds l l' i=true)
    (hQ:∀c a w,Q (.panic c) (a.put oi.dst v) w->Q (.panic c) a w) (hy:YieldsIf P ops S oi v a) (hS:S w) {a':Act}(ha:a.put N v=a')
    (h:lL P md ops Q S ds fuel l' a' w):lL P md ops Q S ds (fuel+1) l a w:=by
  subst ha
  subst hN
  simp only [takeB,Bool.and_eq_true,beq_iff_eq]at hc
  obtain⟨⟨⟨⟨⟨h1,h2⟩,h3⟩,h4⟩,h5⟩,h6⟩:=hc
  subst h6
  exact KM hi h1 h2 h3 h4 h5 hQ hy hS h
def uD (md:Region.Mode) (ops:Array Oper) (l l':Array Bool) (i:Nat):Bool:=
  Region.noSelect ops&&Region.free md ops l i&&(Region.ready md ops l).contains i&&(l.setIfInBounds i true==l')
theorem zh {i:Nat}{N:Option Tmp}{oi:Oper}{v:Value}{fuel:Nat}{l:Array Bool}{a:Act}{w:World}(l':Array Bool) (hi:ops[i]? =some oi) (hN:oi.dst=N) (hc:uD md ops l l' i=true)
    (hQ:∀c a w,Q (.panic c) (a.put oi.dst v) w->Q (.panic c) a w) (hy:Yields P ops oi v a) {a':Act}(ha:a.put N v=a')
    (h:lL P md ops Q S ds fuel l' a' w):lL P md ops Q S ds (fuel+1) l a w:=by
  subst ha
  subst hN
  simp only [uD,Bool.and_eq_true,beq_iff_eq]at hc
  obtain⟨⟨⟨h1,h2⟩,h3⟩,h6⟩:=hc
  subst h6
  exact KI hi (Region.noSelect_spec h1) hQ fuel l a w (Region.free_spec hi h2) (by simpa using h3) hy h
def uq (md:Region.Mode) (ops:Array Oper) (l l':Array Bool) (i:Nat):Bool:=(Region.ready md ops l==[i])&&(l.setIfInBounds i true==l')
theorem rH {i:Nat}{N:Option Tmp}{oi:Oper}{fuel:Nat}{l:Array Bool}{a:Act}{w:World}(l':Array Bool) (hi:ops[i]? =some oi) (hN:oi.dst=N) (hc:uq md ops l l' i=true) (hd:i∉ds)
    (h:∀K:Act->World->Prop,Shut (∀a' w',S w'->(S w'->lL P md ops Q S ds fuel l' a' w')->K a' w')->if Region.wanted oi (yielded ops a.tmps)=true then Oper.wp P oi a w K Q else K (a.put N undef) w):
    lL P md ops Q S ds (fuel+1) l a w:=by
  subst hN
  simp only [uq,Bool.and_eq_true,beq_iff_eq]at hc
  obtain⟨h1,h2⟩:=hc
  subst h2
  exact Bt h1 (by simp) (qQ.cons hi hd (fun K hK=>h K hK) qQ.nil)
theorem AB {i:Nat}{N:Option Tmp}{oi:Oper}{fuel:Nat}{l:Array Bool}{a:Act}{w:World}(l':Array Bool) (hi:ops[i]? =some oi) (hN:oi.dst=N) (hc:uq md ops l l' i=true) (hd:i∈ds)
    (h:∀K:Act->World->Prop,Shut (∀a' w',lL P md ops Q S ds fuel l' a' w'->K a' w')->if Region.wanted oi (yielded ops a.tmps)=true then Oper.wp P oi a w K Q else K (a.put N undef) w):
    lL P md ops Q S ds (fuel+1) l a w:=by
  subst hN
  simp only [uq,Bool.and_eq_true,beq_iff_eq]at hc
  obtain⟨h1,h2⟩:=hc
  subst h2
  exact Bt h1 (by simp) (qQ.GU hi hd (fun K hK=>h K hK) qQ.nil)
theorem mq {l:Array Bool}{a:Act}{w:World}{n:Nat}(hr:(Region.ready md ops l==[])=true) (h:Q .normal a w):lL P md ops Q S ds n l a w:=KJ (by simpa using hr) h n
theorem qp {i j:Nat}{Ni Nj:Option Tmp}{oi oj:Oper}{fuel:Nat}{l:Array Bool}{a:Act}{w:World}(li lj:Array Bool) (hi:ops[i]? =some oi) (hj:ops[j]? =some oj) (hNi:oi.dst=Ni) (hNj:oj.dst=Nj)
    (hc:(Region.ready md ops l==[i,j]&&l.setIfInBounds i true==li&&l.setIfInBounds j true==lj)=true) (hdi:i∉ds) (hdj:j∉ds)
    (h1:∀K:Act->World->Prop,Shut (∀a' w',S w'->(S w'->lL P md ops Q S ds fuel li a' w')->K a' w')->if Region.wanted oi (yielded ops a.tmps)=true then Oper.wp P oi a w K Q else K (a.put Ni undef) w)
    (h2:∀K:Act->World->Prop,Shut (∀a' w',S w'->(S w'->lL P md ops Q S ds fuel lj a' w')->K a' w')->if Region.wanted oj (yielded ops a.tmps)=true then Oper.wp P oj a w K Q else K (a.put Nj undef) w):
    lL P md ops Q S ds (fuel+1) l a w:=by
  subst hNi
  subst hNj
  simp only [Bool.and_eq_true,beq_iff_eq]at hc
  obtain⟨⟨h3,h4⟩,h5⟩:=hc
  subst h4
  subst h5
  exact Bt h3 (by simp) (qQ.cons hi hdi (fun K hK=>h1 K hK) (qQ.cons hj hdj (fun K hK=>h2 K hK) qQ.nil))
def nH:Act->List (Tmp×Value)->Act
  |a,[]=>a
  |a,(n,v)::r=>nH (a.put (some n) v) r
theorem rq {σ:Type}{fuel:Nat}{l:Array Bool}{a:Act}{w:World}(fuel':Nat) (l':Array Bool) (ns:σ->List (Tmp×Value)) (F:σ->World->Prop)
    (hcont:∀s w',F s w'->lL P md ops Q S ds fuel' l' (nH a (ns s)) w')
    (h:(∀s w',F s w'->lL P md ops Q S ds fuel' l' (nH a (ns s)) w')->lL P md ops Q S ds fuel l a w):lL P md ops Q S ds fuel l a w:=h hcont
theorem mU {fuel:Nat}{l:Array Bool}{a a':Act}{w:World}(ha:a=a') (h:lL P md ops Q S ds fuel l a' w):lL P md ops Q S ds fuel l a w:=by
  subst ha
  exact h
theorem call_ {oi:Oper}{N:Option Tmp}{a:Act}{w:World}{K:Act->World->Prop}(f:FuncId) (args:Array Value) (hw:Region.wanted oi (yielded ops a.tmps)=true) (hN:oi.dst=N) (hrun:(execOp a.eval oi).run P w=.ok (.enter f args) w)
    (h:Calls P f args w fun e w'=>∃v,e=.returned v/\K (a.put N v) w'):if Region.wanted oi (yielded ops a.tmps)=true then Oper.wp P oi a w K Q else K (a.put N undef) w:=by
  rw[if_pos hw]
  subst hN
  unfold Oper.wp
  rw[hrun,Oper.upon_enter]
  refine h.mono fun e w'' hh=>?_
  obtain⟨v,rfl,hk⟩:=hh
  exact hk
theorem yV {f : FuncId} {fn : Func} (hf : P.funcs[f]? = some fn) (hname : (fn.name == "runtime.NumGoroutine") = false) (hb : fn.body.isSome = true) (args : Array Value) (w : World) : (callFunc f args).run P w = .ok (.enter f args) w := by
  have h1 : fn.name ≠ "runtime.NumGoroutine" := by simpa using hname
  obtain⟨c,hc⟩:=Option.isSome_iff_exists.1 hb
  simp[callFunc,hf,h1,hc]
theorem qA {oi : Oper} {N : Option Tmp} {a : Act} {w : World} {K : Act → World → Prop} {f : FuncId} {fn : Func} {as_ : Array Operand} {ts : Array TypeId} (hf : P.funcs[f]? = some fn) (hname : (fn.name == "runtime.NumGoroutine") = false) (hb : fn.body.isSome = true) (args : Array Value)
    (hw:Region.wanted oi (yielded ops a.tmps)=true) (hN:oi.dst=N) (hop:oi.op=.call {callee:=.value (.func f),args:=as_,argTypes:=ts}) (hargs:as_.map a.eval=args)
    (h:Calls P f args w fun e w'=>∃v,e=.returned v/\K (a.put N v) w'):if Region.wanted oi (yielded ops a.tmps)=true then Oper.wp P oi a w K Q else K (a.put N undef) w:=by
  refine call_ f args hw hN ?_ h
  have he:=yV hf hname hb args w
  unfold execOp
  simp[hop,resolve,Deferred.ofValue,invoke,Act.eval,hargs,he]
theorem uN {rest : List Oper} {oi : Oper} {a : Act} {w : World} (N : Option Tmp) (hd : oi.dst = N) (hg : oi.guard = none) {f : FuncId} {fn : Func} {as_ : Array Operand} {ts : Array TypeId} (hf : P.funcs[f]? = some fn) (hname : (fn.name == "runtime.NumGoroutine") = false) (hb : fn.body.isSome = true) (args : Array Value)
    (hop:oi.op=.call {callee:=.value (.func f),args:=as_,argTypes:=ts}) (hargs:as_.map a.eval=args)
    (h:Calls P f args w fun e w'=>∃v,e=.returned v/\wpList P ops Q rest (a.put N v) w'):wpList P ops Q (oi::rest) a w:=by
  refine wpList_plain hg fun K hK=>?_
  have he:=yV hf hname hb args w
  have hrun:(execOp a.eval oi).run P w=.ok (.enter f args) w:=by
    unfold execOp
    simp[hop,resolve,Deferred.ofValue,invoke,Act.eval,hargs,he]
  unfold Oper.wp
  rw[hrun,Oper.upon_enter]
  refine h.mono fun e w'' hh=>?_
  obtain⟨v,rfl,hk⟩:=hh
  subst hd
  exact hK _ _ hk
theorem uu {oi:Oper}{N:Option Tmp}{a:Act}{w w1:World}{v:Value}{K:Act->World->Prop}(hw:Region.wanted oi (yielded ops a.tmps)=true) (hN:oi.dst=N) (hrun:(execOp a.eval oi).run P w=.ok (.value v) w1)
    (h:K (a.put N v) w1):if Region.wanted oi (yielded ops a.tmps)=true then Oper.wp P oi a w K Q else K (a.put N undef) w:=by
  rw[if_pos hw]
  subst hN
  unfold Oper.wp
  rw[hrun]
  exact h
theorem pF {oi:Oper}{a:Act}{w w1:World}{K:Act->World->Prop}(hw:Region.wanted oi (yielded ops a.tmps)=true) (hN:oi.dst=none) (hrun:(execOp a.eval oi).run P w=.ok .skip w1)
    (h:K a w1):if Region.wanted oi (yielded ops a.tmps)=true then Oper.wp P oi a w K Q else K (a.put none undef) w:=by
  rw[if_pos hw]
  unfold Oper.wp
  rw[hrun]
  show K (a.put oi.dst undef) w1
  rw[hN]
  exact h
theorem mP (n:Int):IntKind.i64.wrap n=Go.RowKit.wrap64 n:=by unfold Go.RowKit.wrap64;exact IntKind.wrap_i64 n
theorem nD (n:Int):IntKind.i32.wrap n=Go.RowKit.wrap32 n:=by unfold Go.RowKit.wrap32;exact IntKind.wrap_i32 n
end
end Go.Proofs.YtgeonpciodepgaaW.PrintLast
namespace Go.Proofs.YtgeonpciodepgaaW.PrintWords
open Go.RowKit
namespace Kd
def tag {α:Type}(f:Nat->Nat) (d:Kd α):Kd (α×Nat) where
  sz:=d.sz
  E:=d.E
  K:=fun w x cs=>d.K w x.1 cs
  M:=fun w base ok x cs=>d.M w base (fun k=>ok k/\f k=x.2) x.1 cs
  K_len:=fun h=>d.K_len h
  K_one:=fun h=>d.K_one h
  K_below:=fun hb h=>d.K_below hb h
  K_of_M:=fun h=>d.K_of_M h
  M_mono:=fun hok h=>d.M_mono (fun k hk=>⟨hok k hk.1,hk.2⟩) h
  M_bound:=fun h=>d.M_mono (fun _ hk=>⟨⟨hk.1.1,hk.2⟩,hk.1.2⟩) (d.M_bound h)
  M_move:=fun hm h=>d.M_move (fun k hk=>hm k hk.1) h
  M_lower:=fun hb h=>d.M_lower hb h
def bare {α:Type}(d:Kd α):Kd α where
  sz:=d.sz
  E:=d.E
  K:=d.K
  M:=fun w base _ x cs=>d.M w base (fun _=>False) x cs
  K_len:=fun h=>d.K_len h
  K_one:=fun h=>d.K_one h
  K_below:=fun hb h=>d.K_below hb h
  K_of_M:=fun h=>d.K_of_M h
  M_mono:=fun _ h=>h
  M_bound:=fun h=>h
  M_move:=fun _ h=>d.M_move (fun _ hk=>hk.elim) h
  M_lower:=fun hb h=>d.M_lower hb h
def raw (sz:Nat):Kd (List Value) where
  sz:=sz
  E:=[]
  K:=fun _ x cs=>cs=x/\cs.length=sz/\∀u∈cs,u.oneCell'=true
  M:=fun _ _ _ x cs=>cs=x/\cs.length=sz/\∀u∈cs,u.oneCell'=true
  K_len:=fun h=>h.2.1
  K_one:=fun h=>h.2.2
  K_below:=fun _ h=>h
  K_of_M:=fun h=>h
  M_mono:=fun _ h=>h
  M_bound:=fun h=>h
  M_move:=fun _ h=>h
  M_lower:=fun _ h=>h
def S {α:Type}(d:Kd α) (e:Nat) (w:World) (base:Nat) (ok:Nat->Prop) (v:Value) (xs:List α):Prop:=∃f,(tag f d).R e w base ok v xs.zipIdx
section
variable {α β:Type}{d:Kd α}{d':Kd β}{e e':Nat}{w w1 W:World}{base b:Nat}{ok ok' okv oku:Nat->Prop}{u v:Value}{xs:List α}{ys:List β}
theorem zt {xs:List α}{j:Nat}{p:α}(h:xs[j]? =some p):xs.zipIdx[j]? =some (p,j):=by rw[List.getElem?_zipIdx,h,Nat.zero_add];rfl
theorem S_R (h:S d e w base ok v xs):d.R e w base ok v xs:=by
  obtain⟨f,h0,inner,ho,hr⟩:=h
  rw[List.length_zipIdx]at ho
  exact⟨h0,inner,ho,by have:=hr.1;rw[List.length_zipIdx]at this;exact this,fun j p hj=>d.M_mono (fun _ hk=>hk.1) (hr.2 j (p,j) (zt hj))⟩
theorem BM {ad:Addr}{n cap:Nat}(h:d.R e w base ok (.slice (some ad) n cap) xs):∃g,ad=⟨g,0,none⟩:=by
  obtain⟨_,inner,ho,hr⟩:=h
  rcases ho.2 with⟨hv,_⟩|⟨g,cap',cur,hv,_⟩
  · cases hv
  injection hv with ha _ _
  injection ha with ha
  exact⟨g,ha⟩
theorem FN {ad:Addr}{n cap:Nat}(h:d.R e W base ok (.slice (some ad) n cap) xs) (z:α) (i:Int) (h0:0<=i) (h1:i<n):
    ∃c,c.length=d.sz/\d.M W base (fun k=>ok k/\some k≠(Value.slice (some ad) n cap).ownBlock) (xs.getD i.toNat z) c/\∀j u,c[j]? =some u->W.cell? (ad.add (i.toNat*d.sz+j))=some u:=by
  obtain⟨g,rfl⟩:=BM h
  obtain⟨c,hcl,hM,hcc,_⟩:=zD h z i h0 h1
  refine⟨c,hcl,d.M_mono (fun k hk=>⟨hk.1,fun he=>hk.2 (by simpa [Value.ownBlock] using he)⟩) hM,fun j u hu=>?_⟩
  rw[r_,Nat.zero_add]
  exact hcc j u hu
theorem KU (h:d.R e w base ok v xs):v.cells.toList=[v]/\v.oneCell'=true:=by
  obtain⟨A,c,rfl⟩:=kL h
  exact⟨rfl,rfl⟩
theorem zI (hE:d.E=[]) (h:d.R e w base ok v xs):d.R e w base (fun k=>some k=v.ownBlock) v xs:=by
  obtain⟨h0,inner,ho,hr⟩:=h
  refine⟨fun k hk=>hk.symm,inner,ho,hr.pJ (fun p c hp=>d.M_mono (fun k hk=>?_) (d.M_bound hp))⟩
  obtain⟨_,_,_,q,hq,_⟩:=hk
  rw[hE]at hq
  cases hq
theorem uB (d:Kd α) (e:Nat) (w:World) (base:Nat) (ok:Nat->Prop):S d e w base ok (.slice none 0 0) []:=⟨fun _=>0,r9 _ _ _ _ _⟩
theorem qI (h:S d e w base ok v xs) (hok:∀k,ok k->ok' k):S d e w base ok' v xs:=by
  obtain⟨f,h⟩:=h
  exact⟨f,kw h hok⟩
theorem FV (h:S d e w base ok v xs):S d e w base (fun k=>ok k/\base<=k/\k<w.heap.size/\∃q,q∈e::d.E/\∃cells,w.heap[k]? =some (.cells cells q (0,0))) v xs:=by
  obtain⟨f,h⟩:=h
  exact⟨f,rT h⟩
theorem FX (h:S d e w base ok v xs) (hm:∀k,ok k->w1.heap[k]? =w.heap[k]?):S d e w1 base ok v xs:=by
  obtain⟨f,h⟩:=h
  exact⟨f,vO h hm⟩
theorem vQ {base':Nat}(h:S d e w base ok v xs) (hb:base'<=base):S d e w base' ok v xs:=by
  obtain⟨f,h⟩:=h
  exact⟨f,kR h hb⟩
theorem BZ (h:S d e w base ok v xs) (hm:∀k,ok k->k<w.heap.size->w1.heap[k]? =w.heap[k]?):S d e w1 base ok v xs:=
  qI (FX (FV h) (fun k hk=>hm k hk.1 hk.2.2.1)) (fun _ hk=>hk.1)
theorem om (h:S d e w base ok v xs) (hb:Below w.heap.size w w1):S d e w1 base ok v xs:=BZ h (fun k _ hk=>hb.block k hk)
theorem oH (h:S d e w base ok v xs) (o:Obj):S d e (w.alloc o) base ok v xs:=om h (o6 (Below.refl _ _) o)
theorem nI (h:S d e w base ok v xs):S d e w.drew base ok v xs:=om h (wV (Below.refl _ _))
theorem oI (h:S d e w base ok v xs) (m:Nat):S d e (w.drewN m) base ok v xs:=om h (pK (Below.refl _ _) m)
theorem uA (h:S d e w base ok v xs) {p:Addr}(hok:∀k,ok k->k≠p.block) (u:Value):S d e (w.setCell p u) base ok v xs:=BZ h (fun k ho _=>Below.heap_setCell w p u k (hok k ho))
theorem yg (h:S d e w base ok v xs) {g t:Nat}{cells:Array Value}(hb:w.heap[g]? =some (.cells cells t (0,0))) (ht:∀q,q∈e::d.E->q≠t):S d e w base (fun k=>ok k/\k≠g) v xs:=by
  obtain⟨f,h⟩:=h
  exact⟨f,lJ h hb ht⟩
theorem sU (h:S d e w base ok v xs):∀k,v.ownBlock=some k->∃cells,w.heap[k]? =some (.cells cells e (0,0)):=o8 (S_R h)
theorem BX (h:S d e w base ok v xs):∀k,v.ownBlock=some k->k<w.heap.size:=kZ (S_R h)
theorem BV (h:S d e w base ok v xs):∀k,v.ownBlock=some k->base<=k:=qg (S_R h)
theorem yf (h:S d e W base ok u xs) (hty:∀k,v.ownBlock=some k->∃cells,W.heap[k]? =some (.cells cells e' (0,0))) (ht:∀q,q∈e::d.E->q≠e') (hg:W.grownBy w1 v.ownBlock):S d e w1 base ok u xs:=by
  obtain⟨f,h⟩:=h
  exact⟨f,oV h hty ht hg⟩
theorem rU (h:S d e W base ok u xs) (hbase:∀k,v.ownBlock=some k->W.heap.size<=k) (hb:Below W.heap.size W w1):S d e w1 base (fun k=>ok k/\some k≠v.ownBlock) u xs:=by
  obtain⟨f,h⟩:=h
  exact⟨f,zC h hbase hb⟩
theorem yc (h:S d e w1 W.heap.size ok v xs) (hlt:∀k,u.ownBlock=some k->k<W.heap.size):S d e w1 W.heap.size (fun k=>ok k/\some k≠u.ownBlock) v xs:=by
  obtain⟨f,h⟩:=h
  exact⟨f,lI h hlt⟩
theorem zJ {v1:Value}(h:S d e W base (fun k=>ok k/\some k≠v.ownBlock) u xs) (hg:W.grownBy w1 v.ownBlock) (hat:v1.ownBlock=v.ownBlock\/∃b,v1.ownBlock=some b/\W.heap.size<=b):S d e w1 base (fun k=>ok k/\some k≠v1.ownBlock) u xs:=by
  obtain⟨f,h⟩:=h
  exact⟨f,oL h hg hat⟩
theorem FU (h:(bare d).R e w base ok v xs):S d e w base ok v xs:=by
  obtain⟨h0,inner,ho,hr⟩:=h
  refine⟨fun _=>0,h0,inner,by rw[List.length_zipIdx];exact ho,by rw[List.length_zipIdx];exact hr.1,fun j p hj=>?_⟩
  rw[List.getElem?_zipIdx,Nat.zero_add]at hj
  obtain⟨x,hx,rfl⟩:=Option.map_eq_some_iff.1 hj
  exact d.M_mono (fun _ hk=>hk.elim) (hr.2 j x hx)
theorem FT {f f':Nat->Nat}{zs:List (α×Nat)}(h:(tag f d).R e w base ok v zs) (hf:∀k,ok k->k<w.heap.size->f' k=f k):(tag f' d).R e w base ok v zs:=by
  obtain⟨h0,inner,ho,hr⟩:=rT h
  exact⟨fun k hk=>(h0 k hk).1,inner,ho,hr.1,fun j p hj=>d.M_mono (fun k hk=>⟨⟨hk.1.1.1,hk.1.2⟩,(hf k hk.1.1.1 hk.1.1.2.2.1).trans hk.2⟩) (hr.2 j p hj)⟩
end
section
variable {α β:Type}{d:Kd α}{d':Kd β}{e e' g:Nat}{w w1 W:World}{base b:Nat}{ok ok' okv oku:Nat->Prop}{u v:Value}{xs:List α}{ys:List β}
theorem x_ (h:S d e w base ok v xs) {t:Nat}{cells:Array Value}(hb:w.heap[g]? =some (.cells cells t (0,0))) (ht:e≠t):some g≠v.ownBlock:=lU (S_R h) hb ht
theorem sS (h:S d e w base ok v xs):∃A c,v=.slice A xs.length c:=kL (S_R h)
theorem qJ {A:Option Addr}{n c:Nat}(h:S d e w base ok (.slice A n c) xs):n=xs.length/\n<=c/\d.C w A xs.length xs:=ku (S_R h)
theorem xY {ad:Addr}{n cap:Nat}(h:S d e W base ok (.slice (some ad) n cap) xs) (z:α) (i:Int) (h0:0<=i) (h1:i<n):
    ∃c,c.length=d.sz/\d.M W base (fun k=>ok k/\some k≠(Value.slice (some ad) n cap).ownBlock) (xs.getD i.toNat z) c/\∀j u,c[j]? =some u->W.cell? (ad.add (i.toNat*d.sz+j))=some u:=FN (S_R h) z i h0 h1
theorem KR (xs:List α) (p:α):(xs++[p]).zipIdx=xs.zipIdx++[(p,xs.length)]:=by rw[List.zipIdx_append];simp
end
section
open Classical in
theorem FY {α:Type}{d:Kd α}{e base:Nat}{okv:Nat->Prop}{w:World}{v:Value}{xs:List α}(h:S d e w base okv v xs) (m:Nat) (okp:Nat->Prop) (hap:∀k,okp k->¬okv k):∃f,(∀k,okp k->f k=m)/\(tag f d).R e w base okv v xs.zipIdx:=by
  obtain⟨f,h⟩:=h
  exact⟨fun k=>if okp k then m else f k,fun k hk=>if_pos hk,FT h (fun k hk _=>if_neg (fun h2=>hap k h2 hk))⟩
variable {P:Program}{ops:Array Oper}{rest:List Oper}{o:Oper}{a:Act}{Q:Exit->Act->World->Prop}{Kc:Act->World->Prop}{α:Type}
theorem BU (d:Kd α) {w0 W:World}(base:Nat) (hgd:o.guard=none) (s x:Operand) (t e:TypeId) (z:Value) (bytes:Nat)
    (ho:o.op=.call {callee:=.builtin .append,args:= #[s,x],argTypes:= #[t,t]})
    (ht:P.underlying t=some (.slice e)) (hinfo:(P.info? e).map (fun i=>(i.zero,i.size,i.bytes))=some (some z,d.sz,bytes)) (hz:z.cells.size=d.sz) (hs0:0<d.sz) (hb0:0<bytes)
    (v:Value) (xs:List α) (p:α) (cs:List Value) (ok okp:Nat->Prop) (hs:a.eval s=v) (hx:a.eval x=.slice (some ⟨W.heap.size,0,none⟩) 1 1) (hp:d.M W base okp p cs) (pV:∀k,okp k->ok k/\some k≠v.ownBlock) (hfresh:∀k,W.heap.size<=k->ok k)
    (HO:S d e W base (fun k=>ok k/\¬okp k) v xs) (HB:Below base w0 W) (hbase:base<=W.heap.size) (hl:(xs.length+1)*bytes<=140737488355328)
    (h:∀v1 w1,S d e w1 base ok v1 (xs++[p])->Below base w0 w1->W.grownBy w1 v.ownBlock->(v1.ownBlock=v.ownBlock\/∃b,v1.ownBlock=some b/\W.heap.size<=b)->wpList P ops Q rest (a.put o.dst v1) w1):
    wpList P ops Q (o::rest) a (W.alloc (.cells cs.toArray e)):=by
  obtain⟨f,hf,hR⟩:=FY HO xs.length okp (fun _ hk h2=>h2.2 hk)
  refine pM (tag f d) base hgd s x t e z bytes ho ht hinfo hz hs0 hb0 v xs.zipIdx (p,xs.length) cs ok okp hs hx (d.M_mono (fun k hk=>⟨hk,hf k hk⟩) hp) pV hfresh (kw hR (fun _ hk=>hk.1)) HB hbase (by rw[List.length_zipIdx];exact hl) ?_
  intro v1 w1 hr
  rw[←KR]at hr
  exact h v1 w1 ⟨f,hr⟩
theorem xZ (d:Kd α) {w0 W:World}(base e:Nat) (hgd:o.guard=none) {N:Tmp}(_hd:o.dst=some N) {xs:List α}{inner:List Value}{ok okp:Nat->Prop}
    (hrun:(execOp a.eval o).run P W=.ok (.value (.slice (some ⟨W.heap.size,0,none⟩) xs.length xs.length)) (W.alloc (.cells inner.toArray e)))
    (hrep:kN (d.M W base (fun _=>False)) d.sz xs inner) (_hok:∀k,okp k->ok k) (hfresh:ok W.heap.size) (HB:Below base w0 W) (hbase:base<=W.heap.size) (hm:xs.length<=9223372036854775807)
    (h:∀v1 w1,S d e w1 base ok v1 xs->Below base w0 w1->W.grownBy w1 none->(∃b,v1.ownBlock=some b/\W.heap.size<=b)->wpList P ops Q rest (a.put o.dst v1) w1):wpList P ops Q (o::rest) a W:=
  zF (bare d) base e hgd _hd (ok:=ok) (okp:=ok) hrun hrep (fun _ hk=>hk) hfresh HB hbase hm (fun v1 w1 hr=>h v1 w1 (FU hr))
end
def gap {α:Type}(f:Nat->Nat) (d:Kd α) (i:Nat) (c:List Value):Kd (α×Nat) where
  sz:=d.sz
  E:=d.E
  K:=fun w x cs=>(x.2=i->cs=c/\cs.length=d.sz/\∀u∈cs,u.oneCell'=true)/\(x.2≠i->d.K w x.1 cs)
  M:=fun w base ok x cs=>(x.2=i->cs=c/\cs.length=d.sz/\∀u∈cs,u.oneCell'=true)/\(x.2≠i->d.M w base (fun k=>ok k/\f k=x.2) x.1 cs)
  K_len:=fun{w x cs} h=>by
    by_cases hx:x.2=i
    · exact(h.1 hx).2.1
    exact d.K_len (h.2 hx)
  K_one:=fun{w x cs} h=>by
    by_cases hx:x.2=i
    · exact(h.1 hx).2.2
    exact d.K_one (h.2 hx)
  K_below:=fun hb h=>⟨h.1,fun hx=>d.K_below hb (h.2 hx)⟩
  K_of_M:=fun h=>⟨h.1,fun hx=>d.K_of_M (h.2 hx)⟩
  M_mono:=fun hok h=>⟨h.1,fun hx=>d.M_mono (fun k hk=>⟨hok k hk.1,hk.2⟩) (h.2 hx)⟩
  M_bound:=fun h=>⟨h.1,fun hx=>d.M_mono (fun _ hk=>⟨⟨hk.1.1,hk.2⟩,hk.1.2⟩) (d.M_bound (h.2 hx))⟩
  M_move:=fun hm h=>⟨h.1,fun hx=>d.M_move (fun k hk=>hm k hk.1) (h.2 hx)⟩
  M_lower:=fun hb h=>⟨h.1,fun hx=>d.M_lower hb (h.2 hx)⟩
def H {α:Type}(d:Kd α) (e:Nat) (w:World) (base:Nat) (ok:Nat->Prop) (v:Value) (xs:List α) (i:Int) (oki:Nat->Prop) (c:List Value):Prop:=
  (∀k,oki k->ok k)/\∃f,(gap f d i.toNat c).R e w base (fun k=>ok k/\¬oki k) v xs.zipIdx
section
variable {α β:Type}{d:Kd α}{e e' g n cap:Nat}{w w1 W:World}{base:Nat}{ok ok' oki okp:Nat->Prop}{u v:Value}{xs:List α}{i:Int}{c:List Value}
theorem FW (h:S d e W base ok (.slice (some ⟨g,0,none⟩) n cap) xs) (z:α) (i:Int) (h0:0<=i) (h1:i<n):
    ∃ (oki:Nat->Prop) (c:List Value),c.length=d.sz/\d.M W base oki (xs.getD i.toNat z) c/\(∀j u,c[j]? =some u->W.cell? ⟨g,i.toNat*d.sz+j,none⟩=some u)/\(∀k,oki k->ok k/\k≠g)/\H d e W base ok (.slice (some ⟨g,0,none⟩) n cap) xs i oki c:=by
  obtain⟨f,hR⟩:=h
  have hn:=(ku hR).1
  rw[List.length_zipIdx]at hn
  have hgo:some g=(Value.slice (some ⟨g,0,none⟩) n cap).ownBlock:=by simp[Value.ownBlock]
  obtain⟨hok0,inner,ho,hr⟩:=hR
  have hil:i.toNat<xs.length:=by omega
  have hlen:inner.length=xs.length*d.sz:=by have:=hr.1;rw[List.length_zipIdx]at this;exact this
  have hseg:i.toNat*d.sz+d.sz<=inner.length:=by rw[hlen,←Nat.succ_mul];exact Nat.mul_le_mul_right _ hil
  have hM:=hr.2 i.toNat _ (zt (List.getElem?_eq_getElem hil))
  have hkg:∀k,some k≠(Value.slice (some ⟨g,0,none⟩) n cap).ownBlock->k≠g:=fun k hk he=>hk (by rw[he];exact hgo)
  refine⟨fun k=>(ok k/\k≠g)/\f k=i.toNat,(inner.drop (i.toNat*d.sz)).take d.sz,by rw[List.length_take,List.length_drop];omega,?_,fun j u hu=>?_,fun k hk=>hk.1,fun k hk=>hk.1.1,f,fun k hk=>⟨hok0 k hk,fun h2=>h2.1.2 ?_⟩,inner,ho,hr.1,fun m p hm=>?_⟩
  · rw[List.getD_eq_getElem?_getD,List.getElem?_eq_getElem hil]
    exact d.M_mono (fun k hk=>⟨⟨hk.1.1,hkg k hk.1.2⟩,hk.2⟩) hM
  · rw[List.getElem?_take]at hu
    split at hu
    · rw[List.getElem?_drop]at hu
      have:=ho.cells (g:=g) hgo.symm _ u hu
      rwa [add_plain]at this
    cases hu
  · rw[←hgo]at hk;injection hk with hk;exact hk.symm
  have hold:=hr.2 m p hm
  have hp2:p.2=m:=by
    rw[List.getElem?_zipIdx,Nat.zero_add]at hm
    obtain⟨q,_,rfl⟩:=Option.map_eq_some_iff.1 hm
    rfl
  refine⟨fun hx=>?_,fun hx=>d.M_mono (fun k hk=>⟨⟨⟨hk.1.1,fun h2=>hx ?_⟩,hk.1.2⟩,hk.2⟩) hold⟩
  · have hmi:m=i.toNat:=by omega
    subst hmi
    exact⟨rfl,d.K_len (d.K_of_M hM),d.K_one (d.K_of_M hM)⟩
  rw[←hk.2];exact h2.2
open Classical in
theorem Fz (h:H d e w base ok v xs i oki c) {x':α}(hM:d.M w base okp x' c) (hok:∀k,okp k->oki k):S d e w base ok v (xs.set i.toNat x'):=by
  obtain⟨ho,f,h0,inner,hown,hr⟩:=h
  refine⟨fun k=>if oki k then i.toNat else f k,fun k hk=>(h0 k hk).1,inner,by rw[List.length_zipIdx,List.length_set];rw[List.length_zipIdx]at hown;exact hown,by have:=hr.1;rw[List.length_zipIdx]at this;rw[List.length_zipIdx,List.length_set];exact this,fun m p hm=>?_⟩
  rw[List.getElem?_zipIdx,Nat.zero_add]at hm
  obtain⟨q,hq,rfl⟩:=Option.map_eq_some_iff.1 hm
  have hml:m<xs.length:=by
    have:=(List.getElem?_eq_some_iff.1 hq).1
    rwa [List.length_set]at this
  by_cases hmi:m=i.toNat
  · subst hmi
    rw[List.getElem?_set_self hml]at hq
    injection hq with hq
    subst hq
    have hc:=((hr.2 i.toNat _ (zt (List.getElem?_eq_getElem hml))).1 rfl).1
    show d.M w base _ x' ((inner.drop (i.toNat*d.sz)).take d.sz)
    rw[show(inner.drop (i.toNat*d.sz)).take d.sz=c from hc]
    exact d.M_mono (fun k hk=>⟨⟨ho k (hok k hk),fun he=>(h0 k he.symm).2 (hok k hk)⟩,if_pos (hok k hk)⟩) hM
  rw[List.getElem?_set_ne (Ne.symm hmi)]at hq
  exact d.M_mono (fun k hk=>⟨⟨hk.1.1.1,hk.1.2⟩,(if_neg hk.1.1.2).trans hk.2⟩) ((hr.2 m (q,m) (zt hq)).2 hmi)
theorem FC (h:H d e w base ok v xs i oki c) (hm:∀k,ok k->¬oki k->k<w.heap.size->w1.heap[k]? =w.heap[k]?):H d e w1 base ok v xs i oki c:=by
  obtain⟨ho,f,h⟩:=h
  exact⟨ho,f,vP h (fun k hk hlt=>hm k hk.1 hk.2 hlt)⟩
theorem FB (h:H d e w base ok v xs i oki c) {row:Option Nat}(hg:w.grownBy w1 row) (hrow:∀k,row=some k->oki k):H d e w1 base ok v xs i oki c:=
  FC h (fun k _ hn hlt=>hg.block k hlt (fun he=>hn (hrow k he.symm)))
theorem KV {ad:Addr}(h:S d e W base ok (.slice (some ad) n cap) xs) (z:α) (i:Int) (h0:0<=i) (h1:i<n):
    ∃ (oki:Nat->Prop) (c:List Value),c.length=d.sz/\d.M W base oki (xs.getD i.toNat z) c/\(∀j u,c[j]? =some u->W.cell? (ad.add (i.toNat*d.sz+j))=some u)/\(∀k,oki k->ok k/\some k≠(Value.slice (some ad) n cap).ownBlock)/\
      ∀ {w1:World}{row:Option Nat}{x':α},W.grownBy w1 row->(∀k,row=some k->oki k)->d.M w1 base oki x' c->S d e w1 base ok (.slice (some ad) n cap) (xs.set i.toNat x'):=by
  obtain⟨g,rfl⟩:=BM (S_R h)
  obtain⟨oki,c,hcl,hM,hcc,hoki,hH⟩:=FW h z i h0 h1
  refine⟨oki,c,hcl,hM,fun j u hu=>?_,fun k hk=>⟨(hoki k hk).1,fun he=>(hoki k hk).2 ?_⟩,fun hg hrow hM1=>Fz (FB hH hg hrow) hM1 (fun _ hk=>hk)⟩
  · rw[r_,Nat.zero_add]
    exact hcc j u hu
  simpa [Value.ownBlock] using he
end
end Kd
end Go.Proofs.YtgeonpciodepgaaW.PrintWords
namespace Go.Proofs.YtgeonpciodepgaaW.PrintWords
open Go.RowKit
namespace Kd
structure Heap {α:Type}(d:Kd α):Prop where
  K:∀ {w w1:World}{x:α}{cs:List Value},(∀k,k<w.heap.size->w1.heap[k]? =w.heap[k]?)->d.K w x cs->d.K w1 x cs
theorem GK {w w1:World}(hb:∀k,k<w.heap.size->w1.heap[k]? =w.heap[k]?) {a:Addr}{v:Value}(h:w.cell? a=some v):w1.cell? a=some v:=by
  have:=hb a.block (World.block_lt_of_cell? w a h)
  simpa [World.cell?,this] using h
theorem Heap.C {α:Type}{d:Kd α}(hd:Heap d) {w w1:World}{A:Option Addr}{n:Nat}{xs:List α}(hb:∀k,k<w.heap.size->w1.heap[k]? =w.heap[k]?) (h:d.C w A n xs):d.C w1 A n xs:=
  ⟨h.1,h.2.1,fun hn=>by
    obtain⟨ad,e,hc⟩:=h.2.2 hn
    refine⟨ad,e,fun j p hj=>?_⟩
    obtain⟨c,hs,hr,hcell⟩:=hc j p hj
    exact⟨c,hs,hd.K hb hr,fun i u hu=>GK hb (hcell i u hu)⟩⟩
section
variable {α:Type}{d:Kd α}{e base g n c:Nat}{ok:Nat->Prop}{w w0 W:World}{A:Option Addr}{xs:List α}
theorem Fg (h:d.R e W base ok (.slice A n c) xs) (hok:∀k,ok k->k≠g):∀W',kX W W' g none->d.C W' A n xs:=fun W' hk=>by
  have h2:=ku (nC h hk hok)
  rw[h2.1]
  exact h2.2.2
theorem uw (h:∀W',kX w W' g none->d.C W' A n xs) (hk:kX w W g none):d.C W A n xs:=h W hk
end
end Kd
end Go.Proofs.YtgeonpciodepgaaW.PrintWords
namespace Go.Proofs.YtgeonpciodepgaaW.PrintWords
open Go.RowKit
def Kept (w W:World) (S:Nat->Prop):Prop:=w.heap.size<=W.heap.size/\∀i,i<w.heap.size->¬S i->W.heap[i]? =w.heap[i]?
section
variable {w W W2:World}{S S2 S':Nat->Prop}
theorem Kept.refl (w:World) (S:Nat->Prop):Kept w w S:=⟨Nat.le_refl _,fun _ _ _=>rfl⟩
theorem Kept.of_below (h:Below w.heap.size w W) (S:Nat->Prop):Kept w W S:=⟨h.size,fun i hi _=>h.block i hi⟩
theorem Kept.mono (h:Kept w W S) (hs:∀k,S k->S' k):Kept w W S':=⟨h.1,fun i hi hn=>h.2 i hi (fun hk=>hn (hs i hk))⟩
theorem Kept.Bf (h:Kept w W S) (k:Kept W W2 S2) (hs:∀k,S2 k->S k\/w.heap.size<=k):Kept w W2 S:=
  ⟨Nat.le_trans h.1 k.1,fun i hi hn=>(k.2 i (Nat.lt_of_lt_of_le hi h.1) (fun h2=>(hs i h2).elim hn (fun h3=>by omega))).trans (h.2 i hi hn)⟩
theorem Kept.wH {row:Option Nat}(hg:W.grownBy W2 row) (h:Kept w W S) (hr:∀k,row=some k->S k\/w.heap.size<=k):Kept w W2 S:=
  h.Bf (S2:=fun k=>row=some k) ⟨hg.size,fun i hi hn=>hg.block i hi (fun he=>hn he.symm)⟩ hr
theorem Kept.below (h:Kept w W S) (hb:Below W.heap.size W W2):Kept w W2 S:=h.Bf (Kept.of_below hb (fun _=>False)) (fun _ hk=>hk.elim)
theorem Kept.alloc (h:Kept w W S) (o:Obj):Kept w (W.alloc o) S:=h.below (o6 (Below.refl _ _) o)
theorem Kept.drew (h:Kept w W S):Kept w W.drew S:=h
theorem Kept.drewN (h:Kept w W S) (m:Nat):Kept w (W.drewN m) S:=h
theorem Kept.setCell (h:Kept w W S) {p:Addr}(hp:S p.block\/w.heap.size<=p.block) (u:Value):Kept w (W.setCell p u) S:=
  h.Bf (S2:=fun k=>k=p.block) ⟨by simp[World.setCell],fun i _ hn=>Below.heap_setCell W p u i hn⟩ (fun k hk=>by rw[hk];exact hp)
theorem Kept.keep {g:Nat}(h:kX w W g none) (k:Kept W W2 S2) (hs:∀k,S2 k->w.heap.size<=k):kX w W2 g none:=
  ⟨Nat.le_trans h.1 k.1,fun i hi hg hr=>(k.2 i (Nat.lt_of_lt_of_le hi h.1) (fun h2=>by have:=hs i h2;omega)).trans (h.2 i hi hg hr)⟩
theorem Gr {g:Nat}{o:Obj}(hb:W.heap[g]? =some o) (hk:Kept W W2 S) (hne:¬S g):W2.heap[g]? =some o:=(hk.2 g (lM hb) hne).trans hb
end
end Go.Proofs.YtgeonpciodepgaaW.PrintWords
namespace Go.Proofs.YtgeonpciodepgaaW.PrintWords
open Go.RowKit
def qx (P:World->Prop) (W:World) (ok:Nat->Prop):Prop:=∀W':World,(∀k,ok k->k<W.heap.size->W'.heap[k]? =W.heap[k]?)->P W'
theorem IC {W W1:World}{k:Nat}(h:W1.heap[k]? =W.heap[k]?) (hlt:k<W.heap.size):k<W1.heap.size:=by
  rw[Array.getElem?_eq_getElem hlt]at h
  exact(Array.getElem?_eq_some_iff.1 h).1
namespace qx
variable {P Q:World->Prop}{W W1:World}{ok ok':Nat->Prop}
theorem now (h:qx P W ok):P W:=h W (fun _ _ _=>rfl)
theorem mono (h:qx P W ok) (hok:∀k,ok k->ok' k):qx P W ok':=fun W' hW=>h W' (fun k hk hlt=>hW k (hok k hk) hlt)
theorem bound (h:qx P W ok):qx P W (fun k=>ok k/\k<W.heap.size):=fun W' hW=>h W' (fun k hk hlt=>hW k ⟨hk,hlt⟩ hlt)
theorem step (h:qx P W ok) (hm:∀k,ok k->k<W.heap.size->W1.heap[k]? =W.heap[k]?):qx P W1 ok:=fun W' hW=>h W' (fun k hk hlt=>(hW k hk (IC (hm k hk hlt) hlt)).trans (hm k hk hlt))
theorem imp (h:qx P W ok) (hi:∀W',P W'->Q W'):qx Q W ok:=fun W' hW=>hi W' (h W' hW)
theorem old (h:qx P W ok) (hb:Below W.heap.size W W1):qx P W1 (fun k=>ok k/\k<W.heap.size):=(h.bound).step (fun k _ hlt=>hb.block k hlt)
end qx
namespace Kd
def F {α:Type}(d:Kd α) (W:World) (ok:Nat->Prop) (A:Option Addr) (n:Nat) (xs:List α):Prop:=qx (fun W=>d.C W A n xs) W ok
def FK {α:Type}(d:Kd α) (W:World) (ok:Nat->Prop) (x:α) (c:List Value):Prop:=qx (fun W=>d.K W x c) W ok
section
variable {α β:Type}{d:Kd α}{e base n n' cc g N:Nat}{ok ok' okp S:Nat->Prop}{w w0 w1 W W1:World}{A A':Option Addr}{u v v1:Value}{xs:List α}{xs':List β}{d':Kd β}{x:α}{c:List Value}
theorem Bv (h:F d W ok A n xs) (hok:∀k,ok k->ok' k):F d W ok' A n xs:=qx.mono h hok
theorem Fx (h:F d W ok A n xs) (hm:∀k,ok k->k<W.heap.size->W1.heap[k]? =W.heap[k]?):F d W1 ok A n xs:=qx.step h hm
theorem xP (h:F d W ok A n xs) (hb:Below W.heap.size W W1):F d W1 ok A n xs:=Fx h (fun k _ hlt=>hb.block k hlt)
theorem Fq (h:F d W ok A n xs) (o:Obj):F d (W.alloc o) ok A n xs:=xP h (o6 (Below.refl _ _) o)
theorem Fs (h:F d W ok A n xs):F d W.drew ok A n xs:=xP h (wV (Below.refl _ _))
theorem Fu (h:F d W ok A n xs) (m:Nat):F d (W.drewN m) ok A n xs:=xP h (pK (Below.refl _ _) m)
theorem Fw (d:Kd α) (W:World) (ok:Nat->Prop):F d W ok none ([]:List α).length []:=fun W' _=>Fh d W'
theorem Fv (h:F d W ok A n xs) (hbase:∀k,v.ownBlock=some k->W.heap.size<=k) (hb:Below W.heap.size W W1):F d W1 (fun k=>ok k/\some k≠v.ownBlock) A n xs:=
  Bv (qx.old h hb) (fun k hk=>⟨hk.1,fun he=>by have:=hbase k he.symm;have:=hk.2;omega⟩)
theorem R_F (h:d.R e W base ok (.slice A n cc) xs):F d W ok A n xs:=fun W' hW=>by
  have h2:=ku (vP h hW)
  rw[h2.1]
  exact h2.2.2
theorem Fp (h:d.M W base ok x c):FK d W ok x c:=fun _ hW=>d.K_of_M (BA h hW)
end
end Kd
end Go.Proofs.YtgeonpciodepgaaW.PrintWords
namespace Go.Proofs.YtgeonpciodepgaaW.PrintWords
open Go.RowKit
namespace Kd
def chunks (sz:Nat) (n:Nat) (inner:List Value):List (List Value):=(List.range n).map fun j=>(inner.drop (j*sz)).take sz
theorem xu (sz n:Nat) (inner:List Value):(chunks sz n inner).length=n:=by simp[chunks]
theorem GL {sz n:Nat}{inner:List Value}{j:Nat}(hj:j<n):(chunks sz n inner)[j]? =some ((inner.drop (j*sz)).take sz):=by simp[chunks,hj]
theorem DC {sz n:Nat}{inner:List Value}{j:Nat}{c:List Value}(h:(chunks sz n inner)[j]? =some c):c=(inner.drop (j*sz)).take sz:=by
  have hj:j<n:=by have:=(List.getElem?_eq_some_iff.1 h).1;rwa [xu]at this
  rw[GL hj]at h
  injection h with h
  exact h.symm
theorem JS {α:Type}{Rr:α->List Value->Prop}{sz:Nat}{xs:List α}{inner:List Value}(h:kN Rr sz xs inner) (hR:∀x c,Rr x c->c.length=sz/\∀u∈c,u.oneCell'=true):kN (fun x cs=>cs=x/\cs.length=sz/\∀u∈cs,u.oneCell'=true) sz (chunks sz xs.length inner) inner:=by
  refine⟨by rw[xu];exact h.1,fun j p hj=>?_⟩
  have hjl:j<xs.length:=by have:=(List.getElem?_eq_some_iff.1 hj).1;rwa [xu]at this
  have hp:=DC hj
  exact⟨hp.symm,hR _ _ (h.2 j _ (List.getElem?_eq_getElem hjl))⟩
section
variable {α:Type}{d:Kd α}{e base n cc g:Nat}{ok ok' okp S:Nat->Prop}{w w1 W W1:World}{A:Option Addr}{u v v1:Value}{xs:List α}{x:α}{c:List Value}
def N {α:Type}(d:Kd α) (e:Nat) (w:World) (base:Nat) (ok:Nat->Prop) (v:Value) (xs:List α):Prop:=
  (∀k,v.ownBlock=some k->ok k)/\∃rows:List (List Value),rows.length=xs.length/\(raw d.sz).R e w base (fun k=>some k=v.ownBlock) v rows/\∀ (j:Nat) (x:α) (c:List Value),xs[j]? =some x->rows[j]? =some c->FK d w (fun k=>ok k/\some k≠v.ownBlock) x c
theorem R_N (h:d.R e w base ok v xs):N d e w base ok v xs:=by
  obtain⟨h0,inner,ho,hr⟩:=h
  refine⟨h0,chunks d.sz xs.length inner,xu _ _ _,⟨fun k hk=>hk.symm,inner,by rw[xu];exact ho,JS hr (fun x c hp=>⟨d.K_len (d.K_of_M hp),d.K_one (d.K_of_M hp)⟩)⟩,fun j x c hx hc=>?_⟩
  rw[DC hc]
  exact Fp (hr.2 j x hx)
theorem uy (d:Kd α) (e:Nat) (w:World) (base:Nat) (ok:Nat->Prop):N d e w base ok (.slice none 0 0) []:=R_N (r9 _ _ _ _ _)
theorem KS (h:N d e w base ok v xs) {t:Nat}{cells:Array Value}(hb:w.heap[g]? =some (.cells cells t (0,0))) (ht:e≠t):some g≠v.ownBlock:=by
  obtain⟨_,rows,_,hR,_⟩:=h
  exact lU hR hb ht
end
end Kd
end Go.Proofs.YtgeonpciodepgaaW.PrintWords
namespace Go.Proofs.YtgeonpciodepgaaW.PrintWords
open Go.RowKit
section
variable {P:Program}{d:Nat}{xs ys:Array Value}{f:Field}{fs:List Field}{a b:Value}{r s:Bool}{w:World}
theorem H9 (hn : (f.name == "_") = false) (ha : (part f.type xs f.offset).run P w = .ok a w) (hb : (part f.type ys f.offset).run P w = .ok b w) (he : (Op.equalIn d f.type a b).run P w = .ok r w) : (Op.eqFields d xs ys [f]).run P w = .ok r w := by
  have hn' : f.name ≠ "_" := by simpa using hn
  simp only [Op.eqFields,if_pos hn',Sem.run_bind,ha,hb,he,Result.andThen_ok]
  cases r<;>simp
theorem H8 (hn : (f.name == "_") = false) (ha : (part f.type xs f.offset).run P w = .ok a w) (hb : (part f.type ys f.offset).run P w = .ok b w) (he : (Op.equalIn d f.type a b).run P w = .ok r w) (hr : (Op.eqFields d xs ys fs).run P w = .ok s w) : (Op.eqFields d xs ys (f :: fs)).run P w = .ok (r && s) w := by
  have hn' : f.name ≠ "_" := by simpa using hn
  rw[Op.eqFields]
  simp only [if_pos hn',Sem.run_bind,ha,hb,he,Result.andThen_ok]
  cases r
  · simp
  simpa using hr
theorem H7 {t:TypeId}{fs:Array Field}(hu:P.underlying t=some (.struct fs)) (hp:P.stoodInHeld t=false) (h:(Op.eqFields d xs ys fs.toList).run P w=.ok r w):(Op.equalIn (d+1) t (.agg xs) (.agg ys)).run P w=.ok r w:=by
  have hf:P.fieldsOf t=fs:=by simp[Program.fieldsOf,hu]
  rw[run_equalIn_struct (P:=P) w d t xs ys (by rw[hf];exact hu) hp,hf]
  exact h
end
end Go.Proofs.YtgeonpciodepgaaW.PrintWords
namespace Go.Proofs.YtgeonpciodepgaaW.PrintLast
open Go.Proofs.YtgeonpciodepgaaW.PrintWords (jP)
def wF (md:Region.Mode) (o:Oper):List Nat:=(o.after.toList.filter (fun e=>Region.binds md e)).map (fun e=>e.on)
def Aq (md:Region.Mode) (ops:Array Oper) (i:Nat) (oi:Oper):List Nat:=(List.range ops.size).filter fun j=> !(j==i)&&match ops[j]? with
  |some oj=> !(oj.after.any (fun e=>Region.binds md e&&e.on==i)||oi.apart ops oj)
  |none=>false
def mK (md:Region.Mode) (ops:Array Oper):Bool×List (List Nat×List Nat):=(Region.noSelect ops,(List.range ops.size).map fun i=>match ops[i]? with
  |some o=>(wF md o,Aq md ops i o)
  |none=>([],[]))
def uS (T:List (List Nat×List Nat)) (l:List Bool) (i:Nat):Bool:= !l.getD i true&&match T[i]? with
  |some r=>r.1.all (fun j=>l.getD j false)
  |none=>false
def wM (T:List (List Nat×List Nat)) (l:List Bool):List Nat:=(List.range T.length).filter (uS T l)
def xy (T:List (List Nat×List Nat)) (l:List Bool) (i:Nat):Bool:=match T[i]? with
  |some r=>r.2.all (fun j=>l.getD j true)
  |none=>false
def yU (T:List (List Nat×List Nat)) (l:List Bool):Bool:=(List.range T.length).all fun j=> !l.getD j false||match T[j]? with
  |some r=>r.1.all (fun k=>l.getD k false)
  |none=>true
def wL (T:List (List Nat×List Nat)) (i:Nat):Nat->Nat->Bool
  |0,_=>false
  |fuel+1,d=>match T[d]? with
    |some r=>r.1.any fun j=>j==i||wL T i fuel j
    |none=>false
def lastT (T:List (List Nat×List Nat)) (l:List Bool) (ds:List Nat) (i:Nat):Bool:=ds.all fun d=>l.getD d true||wL T i T.length d
section
variable {md:Region.Mode}{ops:Array Oper}{T:Bool×List (List Nat×List Nat)}{l l' li lj lk:Array Bool}{ds:List Nat}{i j k:Nat}
theorem gd (l:Array Bool) (j:Nat) (b:Bool):l.getD j b=l.toList.getD j b:=by simp[Array.getD_eq_getD_getElem?,List.getD_eq_getElem?_getD]
theorem Eo (o:Oper) (p:Nat->Bool):o.after.all (fun e=> !Region.binds md e||p e.on)=(wF md o).all p:=by
  unfold wF
  rw[←Array.all_toList]
  induction o.after.toList with
  |nil=>rfl
  |cons e r ih=>
    rw[List.all_cons,ih,List.filter_cons]
    cases h:Region.binds md e<;>simp
theorem Jh (o:Oper) (p:Nat->Bool):o.after.any (fun e=>Region.binds md e&&p e.on)=(wF md o).any p:=by
  unfold wF
  rw[←Array.any_toList]
  induction o.after.toList with
  |nil=>rfl
  |cons e r ih=>
    rw[List.any_cons,ih,List.filter_cons]
    cases h:Region.binds md e<;>simp
theorem zi:(mK md ops).2.length=ops.size:=by simp[mK]
theorem zl {o:Oper}(h:ops[i]? =some o):(mK md ops).2[i]? =some (wF md o,Aq md ops i o):=by
  have hi:=(Array.getElem?_eq_some_iff.1 h).1
  unfold mK
  rw[List.getElem?_map,List.getElem?_range hi,Option.map_some,h]
theorem zk (h:ops[i]? =none):(mK md ops).2[i]? =none:=by
  have hi:ops.size<=i:=Array.getElem?_eq_none_iff.1 h
  exact List.getElem?_eq_none (by rw[zi];exact hi)
theorem JP:uS (mK md ops).2 l.toList i=(!l.getD i true&&((ops[i]?).map (·.after.all fun e=> !Region.binds md e||l.getD e.on false)).getD false):=by
  unfold uS
  rw[gd]
  cases h:ops[i]? with
  |none=>rw[zk h];rfl
  |some o=>
    rw[zl h]
    simp only [Option.map_some,Option.getD_some]
    rw[←Eo]
    simp only [gd]
theorem ready_eq:Region.ready md ops l=wM (mK md ops).2 l.toList:=by
  unfold Region.ready wM
  rw[zi]
  refine List.filter_congr (fun i _=>?_)
  rw[JP]
theorem free_eq:Region.free md ops l i=xy (mK md ops).2 l.toList i:=by
  unfold Region.free xy
  cases h:ops[i]? with
  |none=>rw[zk h]
  |some oi=>
    rw[zl h]
    simp only [Aq]
    rw[List.all_filter]
    congr 1
    funext j
    rw[gd]
    cases hj:ops[j]? with
    |none=>cases(j==i)<;>cases(l.toList.getD j true)<;>simp
    |some oj=>
      cases(j==i)<;>cases(l.toList.getD j true)<;>cases(oj.after.any (fun e=>Region.binds md e&&e.on==i)||oi.apart ops oj)<;>simp_all
theorem GN:Region.xw md ops l=yU (mK md ops).2 l.toList:=by
  unfold Region.xw yU
  rw[zi]
  congr 1
  funext j
  rw[gd]
  cases h:ops[j]? with
  |none=>rw[zk h]
  |some o=>
    rw[zl h]
    simp only
    rw[←Eo]
    simp only [gd]
theorem EI:∀ (fuel d:Nat),Region.sF md ops i fuel d=wL (mK md ops).2 i fuel d
  |0,_=>rfl
  |fuel+1,d=>by
    unfold Region.sF wL
    cases h:ops[d]? with
    |none=>rw[zk h]
    |some o=>
      rw[zl h]
      simp only
      rw[←Jh]
      congr 1
      funext e
      rw[EI fuel]
theorem IR:Region.lastB md ops l ds i=lastT (mK md ops).2 l.toList ds i:=by
  unfold Region.lastB lastT
  rw[zi]
  congr 1
  funext d
  rw[gd,EI]
theorem EK (h:uS T.2 l.toList i=true) (hT:mK md ops=T):(Region.ready md ops l).contains i=true:=by
  subst hT
  rw[ready_eq]
  unfold wM
  rw[List.contains_iff_mem,List.mem_filter,List.mem_range]
  refine⟨?_,h⟩
  unfold uS at h
  rw[Bool.and_eq_true]at h
  cases hq:(mK md ops).2[i]? with
  |none=>rw[hq]at h;simp at h
  |some r=>exact(List.getElem?_eq_some_iff.1 hq).1
theorem xK (h:(l.toList.set i true==l'.toList)=true):(l.setIfInBounds i true==l')=true:=by
  rw[beq_iff_eq]at h⊢
  apply Array.ext'
  rw[Array.toList_setIfInBounds]
  exact h
def Cb (T:Bool×List (List Nat×List Nat)) (l l':List Bool) (i:Nat):Bool:=T.1&&xy T.2 l i&&uS T.2 l i&&(l.set i true==l')
theorem yh (hT:mK md ops=T) (h:Cb T l.toList l'.toList i=true):uD md ops l l' i=true:=by
  simp only [Cb,Bool.and_eq_true]at h
  obtain⟨⟨⟨h1,h2⟩,h3⟩,h4⟩:=h
  have h5:=EK h3 hT
  have h6:=xK h4
  subst hT
  simp only [uD,Bool.and_eq_true]
  exact⟨⟨⟨h1,by rw[free_eq];exact h2⟩,h5⟩,h6⟩
def Be (T:Bool×List (List Nat×List Nat)) (ds:List Nat) (l l':List Bool) (i:Nat):Bool:=T.1&&xy T.2 l i&&uS T.2 l i&&yU T.2 l&&lastT T.2 l ds i&&(l.set i true==l')
theorem Kk (hT:mK md ops=T) (h:Be T ds l.toList l'.toList i=true):takeB md ops ds l l' i=true:=by
  simp only [Be,Bool.and_eq_true]at h
  obtain⟨⟨⟨⟨⟨h1,h2⟩,h3⟩,h4⟩,h5⟩,h6⟩:=h
  have h7:=EK h3 hT
  have h8:=xK h6
  subst hT
  simp only [takeB,Bool.and_eq_true]
  exact⟨⟨⟨⟨⟨h1,by rw[free_eq];exact h2⟩,h7⟩,by rw[GN];exact h4⟩,by rw[IR];exact h5⟩,h8⟩
theorem rX (hT:mK md ops=T) (h:(wM T.2 l.toList==[i]&&l.toList.set i true==l'.toList)=true):uq md ops l l' i=true:=by
  simp only [Bool.and_eq_true]at h
  obtain⟨h1,h2⟩:=h
  subst hT
  simp only [uq,Bool.and_eq_true]
  exact⟨by rw[ready_eq];exact h1,xK h2⟩
theorem qw (hT:mK md ops=T) (h:(wM T.2 l.toList==[i,j]&&l.toList.set i true==li.toList&&l.toList.set j true==lj.toList)=true):(Region.ready md ops l==[i,j]&&l.setIfInBounds i true==li&&l.setIfInBounds j true==lj)=true:=by
  simp only [Bool.and_eq_true]at h⊢
  obtain⟨⟨h1,h2⟩,h3⟩:=h
  subst hT
  exact⟨⟨by rw[ready_eq];exact h1,xK h2⟩,xK h3⟩
theorem mF (hT:mK md ops=T) (h:(wM T.2 l.toList==[])=true):(Region.ready md ops l==[])=true:=by
  subst hT
  rw[ready_eq]
  exact h
def upM (B:List Nat) (d:Nat):List Nat->Nat
  |[]=>0
  |n::r=>(2^n|||(if n<d then B.getD n 0 else 0))|||upM B d r
def nM (T:List (List Nat×List Nat)) (B:List Nat):Bool:=(List.range T.length).all fun d=>match T[d]? with
  |some r=>(B.getD d 0|||upM B d r.1)==upM B d r.1
  |none=>false
theorem Fa {B:List Nat}{d i:Nat}:∀ {ns:List Nat},(upM B d ns).testBit i=true->∃n∈ns,n=i\/(n<d/\(B.getD n 0).testBit i=true)
  |[],h=>by simp[upM]at h
  |n::r,h=>by
    unfold upM at h
    rw[Nat.testBit_or,Nat.testBit_or,Bool.or_eq_true,Bool.or_eq_true]at h
    rcases h with(h|h)|h
    · rw[Nat.testBit_two_pow]at h
      exact⟨n,List.mem_cons_self,.inl (by simpa using h)⟩
    · by_cases hn:n<d
      · rw[if_pos hn]at h
        exact⟨n,List.mem_cons_self,.inr ⟨hn,h⟩⟩
      rw[if_neg hn]at h
      simp at h
    obtain⟨m,hm,h2⟩:=Fa h
    exact⟨m,List.mem_cons_of_mem _ hm,h2⟩
theorem EG {T:List (List Nat×List Nat)}{B:List Nat}(hB:nM T B=true):∀ (fuel d:Nat),d<fuel->d<T.length->(B.getD d 0).testBit i=true->wL T i fuel d=true
  |0,d,h,_,_=>by omega
  |fuel+1,d,h,hd,hb=>by
    have h1:=List.all_eq_true.1 hB d (List.mem_range.2 hd)
    cases hr:T[d]? with
    |none=>rw[hr]at h1;simp at h1
    |some r=>
      rw[hr]at h1
      simp only [beq_iff_eq]at h1
      have h2:(upM B d r.1).testBit i=true:=by rw[←h1,Nat.testBit_or,hb,Bool.true_or]
      obtain⟨n,hn,h3⟩:=Fa h2
      unfold wL
      rw[hr]
      simp only
      rw[List.any_eq_true]
      refine⟨n,hn,?_⟩
      rcases h3 with rfl|⟨h4,h5⟩
      · simp
      rw[EG hB fuel n (by omega) (by omega) h5,Bool.or_true]
def Ee (T:List (List Nat×List Nat)) (B:List Nat) (l:List Bool) (ds:List Nat) (i:Nat):Bool:=ds.all fun d=>l.getD d true||(decide (d<T.length)&&(B.getD d 0).testBit i)
def EW (T:Bool×List (List Nat×List Nat)) (B:List Nat) (ds:List Nat) (l l':List Bool) (i:Nat):Bool:=T.1&&xy T.2 l i&&uS T.2 l i&&yU T.2 l&&Ee T.2 B l ds i&&(l.set i true==l')
theorem rC {B:List Nat}(hT:mK md ops=T) (hB:nM T.2 B=true) (h:EW T B ds l.toList l'.toList i=true):takeB md ops ds l l' i=true:=by
  refine Kk hT ?_
  simp only [EW,Be,Bool.and_eq_true]at h⊢
  obtain⟨⟨⟨⟨⟨h1,h2⟩,h3⟩,h4⟩,h5⟩,h6⟩:=h
  refine⟨⟨⟨⟨⟨h1,h2⟩,h3⟩,h4⟩,?_⟩,h6⟩
  unfold Ee at h5
  unfold lastT
  rw[List.all_eq_true]at h5⊢
  intro d hd
  have h7:=h5 d hd
  rw[Bool.or_eq_true,Bool.and_eq_true,decide_eq_true_eq]at h7
  rcases h7 with h7|⟨h8,h9⟩
  · rw[h7,Bool.true_or]
  rw[EG hB _ d h8 h8 h9,Bool.or_true]
theorem Bp {P:Program}{Q:Exit->Act->World->Prop}{S:World->Prop}{n:Nat}{a:Act}{w:World}{B:List Nat}(hT:mK md ops=T) (hB:nM T.2 B=true) (h:jP (mK md ops=T)->jP (nM T.2 B=true)->lL P md ops Q S ds n l a w):lL P md ops Q S ds n l a w:=h ⟨hT⟩ ⟨hB⟩
end
def tO:Code->Nat->Option (Array Oper)
  | .region id ops _,k=>if id==k then some ops else none
  | .seq a b,k=>match tO a k with
    |some o=>some o
    |none=>tO b k
  | .cond _ a b,k=>match tO a k with
    |some o=>some o
    |none=>tO b k
  | .block _ c,k=>tO c k
  | .loop c,k=>tO c k
  | .scope c,k=>tO c k
  | .rangeFunc _ _ a b,k=>match tO a k with
    |some o=>some o
    |none=>tO b k
  |_,_=>none
def opsOf (f:Func) (k:Nat):Array Oper:=((f.body.bind fun c=>tO c k)).getD #[]
end Go.Proofs.YtgeonpciodepgaaW.PrintLast
namespace Go.Proofs.YtgeonpciodepgaaW.PrintWords
open Go.RowKit
section
variable {P:Program}{ops:Array Oper}{rest:List Oper}{o:Oper}{a:Act}{Q:Exit->Act->World->Prop}{W:World}
theorem nN (hw:Region.wanted o (yielded ops a.tmps)=true) (h:wpList P ops Q ({o with guard:=none}::rest) a W):wpList P ops Q (o::rest) a W:=by
  have h1:Region.wanted {o with guard:=none} (yielded ops a.tmps)=true:=rfl
  unfold wpList at h⊢
  rw[if_pos h1]at h
  rw[if_pos hw]
  exact h
end
end Go.Proofs.YtgeonpciodepgaaW.PrintWords
namespace Go.Proofs.YtgeonpciodepgaaW.PrintMore
open Go.RowKit Go.Proofs.YtgeonpciodepgaaW.PrintWords
namespace Kd
open Go.Proofs.YtgeonpciodepgaaW.PrintWords.Kd
section
variable {α:Type}{d:Kd α}{e base g N:Nat}{ok:Nat->Prop}{W w1:World}{u v:Value}{xs:List α}
theorem BP (hu:d.R e W base (fun k=>ok k/\k≠g) u xs) (hk:kX W w1 g none):d.R e w1 base (fun k=>ok k/\k<W.heap.size) u xs:=
  kw (nC (rT hu) hk (fun _ h=>h.1.2)) (fun _ h=>⟨h.1.1,h.2.2.1⟩)
theorem BS (h:d.R e w1 base (fun k=>ok k/\k<N) u xs) (hbase:∀k,v.ownBlock=some k->N<=k):d.R e w1 base (fun k=>(ok k/\some k≠v.ownBlock)/\k<N) u xs:=
  kw h (fun k hk=>⟨⟨hk.1,fun e=>Nat.lt_irrefl _ (Nat.lt_of_lt_of_le hk.2 (hbase k e.symm))⟩,hk.2⟩)
end
end Kd
theorem wu (k k':IntKind) (x y:Int):Builtin.max2 (.int k x) (.int k' y)=pure (.int k (if x<y then y else x)):=by simp only [Builtin.max2,gt_iff_lt]
theorem wB (k k':IntKind) (x y:Int):Builtin.min2 (.int k x) (.int k' y)=pure (.int k (if y<x then y else x)):=by simp only [Builtin.min2]
theorem wz (ats:Array TypeId) (ty:TypeId) (a b:Value):Builtin.max_ ats ty #[a,b]=(Builtin.max2 a b>>= fun s=>pure s):=by simp only [Builtin.max_,List.foldlM_cons,List.foldlM_nil]
theorem wE (ats:Array TypeId) (ty:TypeId) (a b:Value):Builtin.min_ ats ty #[a,b]=(Builtin.min2 a b>>= fun s=>pure s):=by simp only [Builtin.min_,List.foldlM_cons,List.foldlM_nil]
theorem wy (ats:Array TypeId) (ty:TypeId) (a b c:Value):Builtin.max_ ats ty #[a,b,c]=(Builtin.max2 a b>>= fun s=>Builtin.max2 s c>>= fun s=>pure s):=by simp only [Builtin.max_,List.foldlM_cons,List.foldlM_nil]
theorem wD (ats:Array TypeId) (ty:TypeId) (a b c:Value):Builtin.min_ ats ty #[a,b,c]=(Builtin.min2 a b>>= fun s=>Builtin.min2 s c>>= fun s=>pure s):=by simp only [Builtin.min_,List.foldlM_cons,List.foldlM_nil]
theorem ww (ats:Array TypeId) (ty:TypeId) (a b c d:Value):Builtin.max_ ats ty #[a,b,c,d]=(Builtin.max2 a b>>= fun s=>Builtin.max2 s c>>= fun s=>Builtin.max2 s d>>= fun s=>pure s):=by simp only [Builtin.max_,List.foldlM_cons,List.foldlM_nil]
theorem wC (ats:Array TypeId) (ty:TypeId) (a b c d:Value):Builtin.min_ ats ty #[a,b,c,d]=(Builtin.min2 a b>>= fun s=>Builtin.min2 s c>>= fun s=>Builtin.min2 s d>>= fun s=>pure s):=by simp only [Builtin.min_,List.foldlM_cons,List.foldlM_nil]
end Go.Proofs.YtgeonpciodepgaaW.PrintMore
namespace Go.Proofs.YtgeonpciodepgaaW.PrintWords
open Go.RowKit
section
variable {P:Program}{ops:Array Oper}{rest:List Oper}{o:Oper}{a:Act}{Q:Exit->Act->World->Prop}{W:World}
theorem wh {f:FuncId}{as_:Array Operand}{ts:Array TypeId}(_ho:o.op=.call {callee:=.value (.func f),args:=as_,argTypes:=ts}) (h:wpList P ops Q (o::rest) a W):wpList P ops Q (o::rest) a W:=h
theorem oO {b:Builtin}{xs:Array Operand}{ts:Array TypeId}(_ho:o.op=.call {callee:=.builtin b,args:=xs,argTypes:=ts}) (h:wpList P ops Q (o::rest) a W):wpList P ops Q (o::rest) a W:=h
end
def mx (a b:Int):Int:=if a<b then b else a
def mn (a b:Int):Int:=if b<a then b else a
def shl (k:IntKind) (x y:Int):Int:=k.wrap (x*2^min y.toNat k.bits)
def shr (k:IntKind) (x y:Int):Int:=x/2^min y.toNat k.bits
theorem DL (w:World) (n:Nat):w.drewN n=w.drewN n:=rfl
namespace Kd
section
variable {α:Type}{d:Kd α}{e base:Nat}{ok:Nat->Prop}{W w1:World}{v:Value}{xs:List α}
theorem FP (h:d.R e W base ok v xs) (hE:d.E=[]) {row:Option Nat}(hg:W.grownBy w1 row) (hne:row≠v.ownBlock):d.R e w1 base ok v xs:=
  kw (FO (zI hE h) hg (fun _ hk e_=>hne (e_.symm.trans hk))) (fun k hk=>h.1 k hk.symm)
end
end Kd
end Go.Proofs.YtgeonpciodepgaaW.PrintWords
namespace Go.Proofs.YtgeonpciodepgaaW.PrintWords
open Go.RowKit
namespace Kd
def V {α:Type}(d:Kd α) (_e:Nat) (W:World) (_base:Nat) (ok:Nat->Prop) (v:Value) (xs:List α):Prop:=∃A c,v=.slice A xs.length c/\xs.length<=c/\F d W ok A xs.length xs
section
variable {α β:Type}{d:Kd α}{e base base' n m c g N' lo hi:Nat}{ok ok' S:Nat->Prop}{w W w1:World}{A:Option Addr}{ad:Addr}{u v v1:Value}{xs:List α}
theorem vR (h:V d e W base ok v xs) (hF:∀A,F d W ok A xs.length xs->F d w1 ok' A xs.length xs):V d e w1 base' ok' v xs:=by
  obtain⟨A,c,hv,hl,hf⟩:=h
  exact⟨A,c,hv,hl,hF A hf⟩
theorem uC (d:Kd α) (e:Nat) (W:World) (base:Nat) (ok:Nat->Prop):V d e W base ok (.slice none 0 0) []:=⟨none,0,rfl,Nat.le_refl _,Fw d W ok⟩
theorem R_V (h:d.R e W base ok v xs):V d e W base' ok v xs:=by
  obtain⟨A,c,rfl⟩:=kL h
  exact⟨A,c,rfl,(ku h).2.1,R_F h⟩
theorem F4 (h:V d e W base ok v xs) (hok:∀k,ok k->ok' k):V d e W base ok' v xs:=vR h (fun _ hf=>Bv hf hok)
theorem FZ (h:V d e W base ok v xs) (hb:Below W.heap.size W w1):V d e w1 base ok v xs:=vR h (fun _ hf=>xP hf hb)
theorem zK (h:V d e W base ok v xs) (o:Obj):V d e (W.alloc o) base ok v xs:=vR h (fun _ hf=>Fq hf o)
theorem zL (h:V d e W base ok v xs):V d e W.drew base ok v xs:=vR h (fun _ hf=>Fs hf)
theorem zM (h:V d e W base ok v xs) (m:Nat):V d e (W.drewN m) base ok v xs:=vR h (fun _ hf=>Fu hf m)
theorem F3 (h:V d e W base ok v xs) (hbase:∀k,u.ownBlock=some k->W.heap.size<=k) (hb:Below W.heap.size W w1):V d e w1 base (fun k=>ok k/\some k≠u.ownBlock) v xs:=vR h (fun _ hf=>Fv hf hbase hb)
end
end Kd
end Go.Proofs.YtgeonpciodepgaaW.PrintWords
namespace Go.Proofs.YtgeonpciodepgaaW.PrintWords
theorem kN.one {α:Type}{R:α->List Value->Prop}{ps:List α}{cs:List Value}{p:α}{v:Value}(hp:R p [v]) (h:kN R 1 ps cs):kN R 1 (p::ps) (v::cs):=by
  refine⟨by simp[h.1],fun j q hq=>?_⟩
  cases j with
  |zero=>
    simp only [List.getElem?_cons_zero,Option.some.injEq]at hq
    subst hq
    simpa using hp
  |succ j=>
    simp only [List.getElem?_cons_succ]at hq
    have h1:=h.2 j q hq
    simpa [Nat.mul_one] using h1
theorem kN.front {α:Type}{R:α->List Value->Prop}{size:Nat}{ps:List α}{cs c all:List Value}{p:α}(hp:R p c) (hc:c.length=size) (h:kN R size ps cs) (ha:c++cs=all):kN R size (p::ps) all:=by
  subst ha
  refine⟨by rw[List.length_append,hc,h.1,List.length_cons,Nat.succ_mul,Nat.add_comm],fun j q hq=>?_⟩
  cases j with
  |zero=>
    simp only [List.getElem?_cons_zero,Option.some.injEq]at hq
    subst hq
    rw[Nat.zero_mul,List.drop_zero,List.take_append_of_le_length (by omega),List.take_of_length_le (by omega)]
    exact hp
  |succ j=>
    simp only [List.getElem?_cons_succ]at hq
    have h1:=h.2 j q hq
    rw[Nat.succ_mul,List.drop_append,List.drop_of_length_le (by rw[hc];exact Nat.le_add_left _ _),List.nil_append,hc,Nat.add_sub_cancel]
    exact h1
theorem kN.c2 {α:Type}{R:α->List Value->Prop}{ps:List α}{cs:List Value}{p:α}{va vb:Value}(hp:R p [va,vb]) (h:kN R 2 ps cs):kN R 2 (p::ps) (va::vb::cs):=kN.front hp rfl h rfl
theorem kN.c3 {α:Type}{R:α->List Value->Prop}{ps:List α}{cs:List Value}{p:α}{va vb vc:Value}(hp:R p [va,vb,vc]) (h:kN R 3 ps cs):kN R 3 (p::ps) (va::vb::vc::cs):=kN.front hp rfl h rfl
theorem kN.c4 {α:Type}{R:α->List Value->Prop}{ps:List α}{cs:List Value}{p:α}{va vb vc vd:Value}(hp:R p [va,vb,vc,vd]) (h:kN R 4 ps cs):kN R 4 (p::ps) (va::vb::vc::vd::cs):=kN.front hp rfl h rfl
theorem kN.c5 {α:Type}{R:α->List Value->Prop}{ps:List α}{cs:List Value}{p:α}{va vb vc vd ve:Value}(hp:R p [va,vb,vc,vd,ve]) (h:kN R 5 ps cs):kN R 5 (p::ps) (va::vb::vc::vd::ve::cs):=kN.front hp rfl h rfl
theorem kN.c6 {α:Type}{R:α->List Value->Prop}{ps:List α}{cs:List Value}{p:α}{va vb vc vd ve vf:Value}(hp:R p [va,vb,vc,vd,ve,vf]) (h:kN R 6 ps cs):kN R 6 (p::ps) (va::vb::vc::vd::ve::vf::cs):=kN.front hp rfl h rfl
theorem kN.c7 {α:Type}{R:α->List Value->Prop}{ps:List α}{cs:List Value}{p:α}{va vb vc vd ve vf vg:Value}(hp:R p [va,vb,vc,vd,ve,vf,vg]) (h:kN R 7 ps cs):kN R 7 (p::ps) (va::vb::vc::vd::ve::vf::vg::cs):=kN.front hp rfl h rfl
theorem kN.c8 {α:Type}{R:α->List Value->Prop}{ps:List α}{cs:List Value}{p:α}{va vb vc vd ve vf vg vh:Value}(hp:R p [va,vb,vc,vd,ve,vf,vg,vh]) (h:kN R 8 ps cs):kN R 8 (p::ps) (va::vb::vc::vd::ve::vf::vg::vh::cs):=kN.front hp rfl h rfl
theorem kN.c9 {α:Type}{R:α->List Value->Prop}{ps:List α}{cs:List Value}{p:α}{va vb vc vd ve vf vg vh vi:Value}(hp:R p [va,vb,vc,vd,ve,vf,vg,vh,vi]) (h:kN R 9 ps cs):kN R 9 (p::ps) (va::vb::vc::vd::ve::vf::vg::vh::vi::cs):=kN.front hp rfl h rfl
theorem kN.c10 {α:Type}{R:α->List Value->Prop}{ps:List α}{cs:List Value}{p:α}{va vb vc vd ve vf vg vh vi vj:Value}(hp:R p [va,vb,vc,vd,ve,vf,vg,vh,vi,vj]) (h:kN R 10 ps cs):kN R 10 (p::ps) (va::vb::vc::vd::ve::vf::vg::vh::vi::vj::cs):=kN.front hp rfl h rfl
end Go.Proofs.YtgeonpciodepgaaW.PrintWords
namespace Go.Proofs.Ytgeonpciodepgaa.G
open Go.Proofs.YtgeonpciodepgaaW.PrintWords
structure Tie where
 f0:Int
 f1:Int
deriving DecidableEq
theorem RV2 {α:Type}{d:Kd α}{e base base' base0:Nat}{W:World}{v:Value}{xs:List α}{P Q:Nat->Prop}(h:Kd.R d e W base (fun k=>base0<=k/\Q k) v xs):Kd.V d e W base' (fun k=>(P k\/base0<=k)/\Q k) v xs:=
 Kd.F4 (Kd.R_V h) (fun _ hk=>⟨.inr hk.1,hk.2⟩)
end Go.Proofs.Ytgeonpciodepgaa.G
namespace Go.Proofs.Ytgeonpciodepgaa.P
open Go.RowKit Go.Proofs.YtgeonpciodepgaaW.PrintWords Go.Proofs.YtgeonpciodepgaaW.PrintLast Go.Proofs.YtgeonpciodepgaaW.PrintWords.Kd
variable {p:Prop}
def lu (n b:Nat):Array Bool:=((List.range n).map fun i=>b.testBit i).toArray
section
variable {P:Program}{md:Region.Mode}{ops:Array Oper}{Q:Exit->Act->World->Prop}{S:World->Prop}{ds:List Nat}
theorem jR {fuel n b0:Nat}{a:Act}{w:World}{oi:Oper}{v:Value}{a':Act}(i:Nat) (N:Tmp) (b:Nat) (h:lL P md ops Q S ds fuel (lu n b) a' w)
  (hi:ops[i]? =some oi:=by rfl) (hN:oi.dst=some N:=by rfl) (hc:uD md ops (lu n b0) (lu n b) i=true:=by first|exact yh HT_.out (by kernel_rfl)|kernel_rfl)
  (hQ:∀c a w,Q (.panic c) (a.put oi.dst v) w->Q (.panic c) a w:=by exact fun _ _ _ h=>h) (hy:Yields P ops oi v a:=by exact Or.inl ⟨by rfl,by(intro w';go_simp;with_reducible rfl)⟩)
  (ha:a.put (some N) v=a':=by first|(simp only [Act.put,List.setIfInBounds_toArray,List.set_cons_zero,List.set_cons_succ,mP,nD];rfl)|rfl):lL P md ops Q S ds (fuel+1) (lu n b0) a w:=
 zh (lu n b) hi hN hc hQ hy ha h
theorem lg {fuel n b0:Nat}{a:Act}{w:World}{oi:Oper}{a':Act}(i:Nat) (N:Tmp) (b:Nat) (h:lL P md ops Q S ds fuel (lu n b) a' w)
  (hi:ops[i]? =some oi:=by rfl) (hN:oi.dst=some N:=by rfl) (hc:uD md ops (lu n b0) (lu n b) i=true:=by first|exact yh HT_.out (by kernel_rfl)|kernel_rfl)
  (hQ:∀c a w,Q (.panic c) (a.put oi.dst undef) w->Q (.panic c) a w:=by exact fun _ _ _ h=>h) (hy:Yields P ops oi undef a:=by exact Or.inr ⟨by rfl,rfl⟩)
  (ha:a.put (some N) undef=a':=by first|(simp only [Act.put,List.setIfInBounds_toArray,List.set_cons_zero,List.set_cons_succ,mP,nD];rfl)|rfl):lL P md ops Q S ds (fuel+1) (lu n b0) a w:=
 zh (lu n b) hi hN hc hQ hy ha h
theorem ta0 {fuel n b0:Nat}{a:Act}{w:World}{oi:Oper}{v:Value}{a':Act}(i:Nat) (N:Tmp) (b:Nat) (h:lL P md ops Q S ds fuel (lu n b) a' w)
  (hi:ops[i]? =some oi:=by rfl) (hN:oi.dst=some N:=by rfl) (hc:takeB md ops ds (lu n b0) (lu n b) i=true:=by first|exact rC HT_.out HW_.out (by kernel_rfl)|kernel_rfl)
  (hQ:∀c a w,Q (.panic c) (a.put oi.dst v) w->Q (.panic c) a w:=by exact fun _ _ _ h=>h) (hy:YieldsIf P ops S oi v a:=by exact Or.inl ⟨by rfl,by(intro w' _;go_simp;with_reducible rfl)⟩) (hS:S w:=by exact hHeld)
  (ha:a.put (some N) v=a':=by first|(simp only [Act.put,List.setIfInBounds_toArray,List.set_cons_zero,List.set_cons_succ,mP,nD];rfl)|rfl):lL P md ops Q S ds (fuel+1) (lu n b0) a w:=
 qo (lu n b) hi hN hc hQ hy hS ha h
theorem ta1 {fuel n b0:Nat}{a:Act}{w:World}{oi:Oper}{v:Value}{a':Act}(i:Nat) (N:Tmp) (b:Nat) (h:lL P md ops Q S ds fuel (lu n b) a' w)
  (hi:ops[i]? =some oi:=by rfl) (hN:oi.dst=some N:=by rfl) (hc:takeB md ops ds (lu n b0) (lu n b) i=true:=by first|exact rC HT_.out HW_.out (by kernel_rfl)|kernel_rfl)
  (hQ:∀c a w,Q (.panic c) (a.put oi.dst v) w->Q (.panic c) a w:=by exact fun _ _ _ h=>h) (hy:YieldsIf P ops S oi v a:=by exact Or.inl ⟨by rfl,by(intro w' s0;go_simp;with_reducible rfl)⟩) (hS:S w:=by exact hHeld)
  (ha:a.put (some N) v=a':=by first|(simp only [Act.put,List.setIfInBounds_toArray,List.set_cons_zero,List.set_cons_succ,mP,nD];rfl)|rfl):lL P md ops Q S ds (fuel+1) (lu n b0) a w:=
 qo (lu n b) hi hN hc hQ hy hS ha h
theorem ta2 {fuel n b0:Nat}{a:Act}{w:World}{oi:Oper}{v:Value}{a':Act}(i:Nat) (N:Tmp) (b:Nat) (h:lL P md ops Q S ds fuel (lu n b) a' w)
  (hi:ops[i]? =some oi:=by rfl) (hN:oi.dst=some N:=by rfl) (hc:takeB md ops ds (lu n b0) (lu n b) i=true:=by first|exact rC HT_.out HW_.out (by kernel_rfl)|kernel_rfl)
  (hQ:∀c a w,Q (.panic c) (a.put oi.dst v) w->Q (.panic c) a w:=by exact fun _ _ _ h=>h) (hy:YieldsIf P ops S oi v a:=by exact Or.inl ⟨by rfl,by(rintro w' ⟨s0,s1⟩;go_simp;with_reducible rfl)⟩) (hS:S w:=by exact hHeld)
  (ha:a.put (some N) v=a':=by first|(simp only [Act.put,List.setIfInBounds_toArray,List.set_cons_zero,List.set_cons_succ,mP,nD];rfl)|rfl):lL P md ops Q S ds (fuel+1) (lu n b0) a w:=
 qo (lu n b) hi hN hc hQ hy hS ha h
theorem ta3 {fuel n b0:Nat}{a:Act}{w:World}{oi:Oper}{v:Value}{a':Act}(i:Nat) (N:Tmp) (b:Nat) (h:lL P md ops Q S ds fuel (lu n b) a' w)
  (hi:ops[i]? =some oi:=by rfl) (hN:oi.dst=some N:=by rfl) (hc:takeB md ops ds (lu n b0) (lu n b) i=true:=by first|exact rC HT_.out HW_.out (by kernel_rfl)|kernel_rfl)
  (hQ:∀c a w,Q (.panic c) (a.put oi.dst v) w->Q (.panic c) a w:=by exact fun _ _ _ h=>h) (hy:YieldsIf P ops S oi v a:=by exact Or.inl ⟨by rfl,by(rintro w' ⟨s0,s1,s2⟩;go_simp;with_reducible rfl)⟩) (hS:S w:=by exact hHeld)
  (ha:a.put (some N) v=a':=by first|(simp only [Act.put,List.setIfInBounds_toArray,List.set_cons_zero,List.set_cons_succ,mP,nD];rfl)|rfl):lL P md ops Q S ds (fuel+1) (lu n b0) a w:=
 qo (lu n b) hi hN hc hQ hy hS ha h
theorem ta4 {fuel n b0:Nat}{a:Act}{w:World}{oi:Oper}{v:Value}{a':Act}(i:Nat) (N:Tmp) (b:Nat) (h:lL P md ops Q S ds fuel (lu n b) a' w)
  (hi:ops[i]? =some oi:=by rfl) (hN:oi.dst=some N:=by rfl) (hc:takeB md ops ds (lu n b0) (lu n b) i=true:=by first|exact rC HT_.out HW_.out (by kernel_rfl)|kernel_rfl)
  (hQ:∀c a w,Q (.panic c) (a.put oi.dst v) w->Q (.panic c) a w:=by exact fun _ _ _ h=>h) (hy:YieldsIf P ops S oi v a:=by exact Or.inl ⟨by rfl,by(rintro w' ⟨s0,s1,s2,s3⟩;go_simp;with_reducible rfl)⟩) (hS:S w:=by exact hHeld)
  (ha:a.put (some N) v=a':=by first|(simp only [Act.put,List.setIfInBounds_toArray,List.set_cons_zero,List.set_cons_succ,mP,nD];rfl)|rfl):lL P md ops Q S ds (fuel+1) (lu n b0) a w:=
 qo (lu n b) hi hN hc hQ hy hS ha h
theorem ta5 {fuel n b0:Nat}{a:Act}{w:World}{oi:Oper}{v:Value}{a':Act}(i:Nat) (N:Tmp) (b:Nat) (h:lL P md ops Q S ds fuel (lu n b) a' w)
  (hi:ops[i]? =some oi:=by rfl) (hN:oi.dst=some N:=by rfl) (hc:takeB md ops ds (lu n b0) (lu n b) i=true:=by first|exact rC HT_.out HW_.out (by kernel_rfl)|kernel_rfl)
  (hQ:∀c a w,Q (.panic c) (a.put oi.dst v) w->Q (.panic c) a w:=by exact fun _ _ _ h=>h) (hy:YieldsIf P ops S oi v a:=by exact Or.inl ⟨by rfl,by(rintro w' ⟨s0,s1,s2,s3,s4⟩;go_simp;with_reducible rfl)⟩) (hS:S w:=by exact hHeld)
  (ha:a.put (some N) v=a':=by first|(simp only [Act.put,List.setIfInBounds_toArray,List.set_cons_zero,List.set_cons_succ,mP,nD];rfl)|rfl):lL P md ops Q S ds (fuel+1) (lu n b0) a w:=
 qo (lu n b) hi hN hc hQ hy hS ha h
theorem ta6 {fuel n b0:Nat}{a:Act}{w:World}{oi:Oper}{v:Value}{a':Act}(i:Nat) (N:Tmp) (b:Nat) (h:lL P md ops Q S ds fuel (lu n b) a' w)
  (hi:ops[i]? =some oi:=by rfl) (hN:oi.dst=some N:=by rfl) (hc:takeB md ops ds (lu n b0) (lu n b) i=true:=by first|exact rC HT_.out HW_.out (by kernel_rfl)|kernel_rfl)
  (hQ:∀c a w,Q (.panic c) (a.put oi.dst v) w->Q (.panic c) a w:=by exact fun _ _ _ h=>h) (hy:YieldsIf P ops S oi v a:=by exact Or.inl ⟨by rfl,by(rintro w' ⟨s0,s1,s2,s3,s4,s5⟩;go_simp;with_reducible rfl)⟩) (hS:S w:=by exact hHeld)
  (ha:a.put (some N) v=a':=by first|(simp only [Act.put,List.setIfInBounds_toArray,List.set_cons_zero,List.set_cons_succ,mP,nD];rfl)|rfl):lL P md ops Q S ds (fuel+1) (lu n b0) a w:=
 qo (lu n b) hi hN hc hQ hy hS ha h
theorem ta7 {fuel n b0:Nat}{a:Act}{w:World}{oi:Oper}{v:Value}{a':Act}(i:Nat) (N:Tmp) (b:Nat) (h:lL P md ops Q S ds fuel (lu n b) a' w)
  (hi:ops[i]? =some oi:=by rfl) (hN:oi.dst=some N:=by rfl) (hc:takeB md ops ds (lu n b0) (lu n b) i=true:=by first|exact rC HT_.out HW_.out (by kernel_rfl)|kernel_rfl)
  (hQ:∀c a w,Q (.panic c) (a.put oi.dst v) w->Q (.panic c) a w:=by exact fun _ _ _ h=>h) (hy:YieldsIf P ops S oi v a:=by exact Or.inl ⟨by rfl,by(rintro w' ⟨s0,s1,s2,s3,s4,s5,s6⟩;go_simp;with_reducible rfl)⟩) (hS:S w:=by exact hHeld)
  (ha:a.put (some N) v=a':=by first|(simp only [Act.put,List.setIfInBounds_toArray,List.set_cons_zero,List.set_cons_succ,mP,nD];rfl)|rfl):lL P md ops Q S ds (fuel+1) (lu n b0) a w:=
 qo (lu n b) hi hN hc hQ hy hS ha h
theorem ta8 {fuel n b0:Nat}{a:Act}{w:World}{oi:Oper}{v:Value}{a':Act}(i:Nat) (N:Tmp) (b:Nat) (h:lL P md ops Q S ds fuel (lu n b) a' w)
  (hi:ops[i]? =some oi:=by rfl) (hN:oi.dst=some N:=by rfl) (hc:takeB md ops ds (lu n b0) (lu n b) i=true:=by first|exact rC HT_.out HW_.out (by kernel_rfl)|kernel_rfl)
  (hQ:∀c a w,Q (.panic c) (a.put oi.dst v) w->Q (.panic c) a w:=by exact fun _ _ _ h=>h) (hy:YieldsIf P ops S oi v a:=by exact Or.inl ⟨by rfl,by(rintro w' ⟨s0,s1,s2,s3,s4,s5,s6,s7⟩;go_simp;with_reducible rfl)⟩) (hS:S w:=by exact hHeld)
  (ha:a.put (some N) v=a':=by first|(simp only [Act.put,List.setIfInBounds_toArray,List.set_cons_zero,List.set_cons_succ,mP,nD];rfl)|rfl):lL P md ops Q S ds (fuel+1) (lu n b0) a w:=
 qo (lu n b) hi hN hc hQ hy hS ha h
theorem ta9 {fuel n b0:Nat}{a:Act}{w:World}{oi:Oper}{v:Value}{a':Act}(i:Nat) (N:Tmp) (b:Nat) (h:lL P md ops Q S ds fuel (lu n b) a' w)
  (hi:ops[i]? =some oi:=by rfl) (hN:oi.dst=some N:=by rfl) (hc:takeB md ops ds (lu n b0) (lu n b) i=true:=by first|exact rC HT_.out HW_.out (by kernel_rfl)|kernel_rfl)
  (hQ:∀c a w,Q (.panic c) (a.put oi.dst v) w->Q (.panic c) a w:=by exact fun _ _ _ h=>h) (hy:YieldsIf P ops S oi v a:=by exact Or.inl ⟨by rfl,by(rintro w' ⟨s0,s1,s2,s3,s4,s5,s6,s7,s8⟩;go_simp;with_reducible rfl)⟩) (hS:S w:=by exact hHeld)
  (ha:a.put (some N) v=a':=by first|(simp only [Act.put,List.setIfInBounds_toArray,List.set_cons_zero,List.set_cons_succ,mP,nD];rfl)|rfl):lL P md ops Q S ds (fuel+1) (lu n b0) a w:=
 qo (lu n b) hi hN hc hQ hy hS ha h
theorem K5 {fuel n b0:Nat}{a:Act}{w:World}{oi:Oper}{v:Value}{a':Act}(i:Nat) (N:Tmp) (b:Nat) (h:lL P md ops Q S ds fuel (lu n b) a' w)
  (hi:ops[i]? =some oi:=by rfl) (hN:oi.dst=some N:=by rfl) (hc:takeB md ops ds (lu n b0) (lu n b) i=true:=by first|exact rC HT_.out HW_.out (by kernel_rfl)|kernel_rfl)
  (hQ:∀c a w,Q (.panic c) (a.put oi.dst v) w->Q (.panic c) a w:=by exact fun _ _ _ h=>h) (hy:YieldsIf P ops S oi v a:=by exact Or.inl ⟨by rfl,by(rintro w' ⟨s0,s1,s2,s3,s4,s5,s6,s7,s8,s9⟩;go_simp;with_reducible rfl)⟩) (hS:S w:=by exact hHeld)
  (ha:a.put (some N) v=a':=by first|(simp only [Act.put,List.setIfInBounds_toArray,List.set_cons_zero,List.set_cons_succ,mP,nD];rfl)|rfl):lL P md ops Q S ds (fuel+1) (lu n b0) a w:=
 qo (lu n b) hi hN hc hQ hy hS ha h
theorem K6 {fuel n b0:Nat}{a:Act}{w:World}{oi:Oper}{v:Value}{a':Act}(i:Nat) (N:Tmp) (b:Nat) (h:lL P md ops Q S ds fuel (lu n b) a' w)
  (hi:ops[i]? =some oi:=by rfl) (hN:oi.dst=some N:=by rfl) (hc:takeB md ops ds (lu n b0) (lu n b) i=true:=by first|exact rC HT_.out HW_.out (by kernel_rfl)|kernel_rfl)
  (hQ:∀c a w,Q (.panic c) (a.put oi.dst v) w->Q (.panic c) a w:=by exact fun _ _ _ h=>h) (hy:YieldsIf P ops S oi v a:=by exact Or.inl ⟨by rfl,by(rintro w' ⟨s0,s1,s2,s3,s4,s5,s6,s7,s8,s9,s10⟩;go_simp;with_reducible rfl)⟩) (hS:S w:=by exact hHeld)
  (ha:a.put (some N) v=a':=by first|(simp only [Act.put,List.setIfInBounds_toArray,List.set_cons_zero,List.set_cons_succ,mP,nD];rfl)|rfl):lL P md ops Q S ds (fuel+1) (lu n b0) a w:=
 qo (lu n b) hi hN hc hQ hy hS ha h
theorem K7 {fuel n b0:Nat}{a:Act}{w:World}{oi:Oper}{v:Value}{a':Act}(i:Nat) (N:Tmp) (b:Nat) (h:lL P md ops Q S ds fuel (lu n b) a' w)
  (hi:ops[i]? =some oi:=by rfl) (hN:oi.dst=some N:=by rfl) (hc:takeB md ops ds (lu n b0) (lu n b) i=true:=by first|exact rC HT_.out HW_.out (by kernel_rfl)|kernel_rfl)
  (hQ:∀c a w,Q (.panic c) (a.put oi.dst v) w->Q (.panic c) a w:=by exact fun _ _ _ h=>h) (hy:YieldsIf P ops S oi v a:=by exact Or.inl ⟨by rfl,by(rintro w' ⟨s0,s1,s2,s3,s4,s5,s6,s7,s8,s9,s10,s11⟩;go_simp;with_reducible rfl)⟩) (hS:S w:=by exact hHeld)
  (ha:a.put (some N) v=a':=by first|(simp only [Act.put,List.setIfInBounds_toArray,List.set_cons_zero,List.set_cons_succ,mP,nD];rfl)|rfl):lL P md ops Q S ds (fuel+1) (lu n b0) a w:=
 qo (lu n b) hi hN hc hQ hy hS ha h
theorem K8 {fuel n b0:Nat}{a:Act}{w:World}{oi:Oper}{v:Value}{a':Act}(i:Nat) (N:Tmp) (b:Nat) (h:lL P md ops Q S ds fuel (lu n b) a' w)
  (hi:ops[i]? =some oi:=by rfl) (hN:oi.dst=some N:=by rfl) (hc:takeB md ops ds (lu n b0) (lu n b) i=true:=by first|exact rC HT_.out HW_.out (by kernel_rfl)|kernel_rfl)
  (hQ:∀c a w,Q (.panic c) (a.put oi.dst v) w->Q (.panic c) a w:=by exact fun _ _ _ h=>h) (hy:YieldsIf P ops S oi v a:=by exact Or.inl ⟨by rfl,by(rintro w' ⟨s0,s1,s2,s3,s4,s5,s6,s7,s8,s9,s10,s11,s12⟩;go_simp;with_reducible rfl)⟩) (hS:S w:=by exact hHeld)
  (ha:a.put (some N) v=a':=by first|(simp only [Act.put,List.setIfInBounds_toArray,List.set_cons_zero,List.set_cons_succ,mP,nD];rfl)|rfl):lL P md ops Q S ds (fuel+1) (lu n b0) a w:=
 qo (lu n b) hi hN hc hQ hy hS ha h
theorem K9 {fuel n b0:Nat}{a:Act}{w:World}{oi:Oper}{v:Value}{a':Act}(i:Nat) (N:Tmp) (b:Nat) (h:lL P md ops Q S ds fuel (lu n b) a' w)
  (hi:ops[i]? =some oi:=by rfl) (hN:oi.dst=some N:=by rfl) (hc:takeB md ops ds (lu n b0) (lu n b) i=true:=by first|exact rC HT_.out HW_.out (by kernel_rfl)|kernel_rfl)
  (hQ:∀c a w,Q (.panic c) (a.put oi.dst v) w->Q (.panic c) a w:=by exact fun _ _ _ h=>h) (hy:YieldsIf P ops S oi v a:=by exact Or.inl ⟨by rfl,by(rintro w' ⟨s0,s1,s2,s3,s4,s5,s6,s7,s8,s9,s10,s11,s12,s13⟩;go_simp;with_reducible rfl)⟩) (hS:S w:=by exact hHeld)
  (ha:a.put (some N) v=a':=by first|(simp only [Act.put,List.setIfInBounds_toArray,List.set_cons_zero,List.set_cons_succ,mP,nD];rfl)|rfl):lL P md ops Q S ds (fuel+1) (lu n b0) a w:=
 qo (lu n b) hi hN hc hQ hy hS ha h
theorem puN {fuel:Nat}{l:Array Bool}{a:Act}{w:World}{oi:Oper}{v:Value}{a':Act}(i:Nat) (N:Option Tmp) (l':Array Bool) (h:lL P md ops Q S ds fuel l' a' w)
  (hi:ops[i]? =some oi:=by rfl) (hN:oi.dst=N:=by rfl) (hc:uD md ops l l' i=true:=by first|exact yh HT_.out (by kernel_rfl)|kernel_rfl)
  (hQ:∀c a w,Q (.panic c) (a.put oi.dst v) w->Q (.panic c) a w:=by exact fun _ _ _ h=>h) (hy:Yields P ops oi v a:=by exact Or.inl ⟨by rfl,by(intro w';go_simp;with_reducible rfl)⟩)
  (ha:a.put N v=a':=by first|(simp only [Act.put,List.setIfInBounds_toArray,List.set_cons_zero,List.set_cons_succ,mP,nD];rfl)|rfl):lL P md ops Q S ds (fuel+1) l a w:=
 zh l' hi hN hc hQ hy ha h
theorem pfN {fuel:Nat}{l:Array Bool}{a:Act}{w:World}{oi:Oper}{a':Act}(i:Nat) (N:Option Tmp) (l':Array Bool) (h:lL P md ops Q S ds fuel l' a' w)
  (hi:ops[i]? =some oi:=by rfl) (hN:oi.dst=N:=by rfl) (hc:uD md ops l l' i=true:=by first|exact yh HT_.out (by kernel_rfl)|kernel_rfl)
  (hQ:∀c a w,Q (.panic c) (a.put oi.dst undef) w->Q (.panic c) a w:=by exact fun _ _ _ h=>h) (hy:Yields P ops oi undef a:=by exact Or.inr ⟨by rfl,rfl⟩)
  (ha:a.put N undef=a':=by first|(simp only [Act.put,List.setIfInBounds_toArray,List.set_cons_zero,List.set_cons_succ,mP,nD];rfl)|rfl):lL P md ops Q S ds (fuel+1) l a w:=
 zh l' hi hN hc hQ hy ha h
theorem kK {fuel:Nat}{l:Array Bool}{a a0 a':Act}{v:Value}{w:World}(N:Tmp) (h:lL P md ops Q S ds fuel l a' w) (hs:a=a0.put (some N) v:=by rfl)
  (ha:a0.put (some N) v=a':=by(simp only [Act.put,List.setIfInBounds_toArray,List.set_cons_zero,List.set_cons_succ,mP,nD];rfl)):lL P md ops Q S ds fuel l a w:=mU (hs.trans ha) h
theorem noN {fuel:Nat}{l:Array Bool}{a a0 a':Act}{v:Value}{w:World}(N:Option Tmp) (h:lL P md ops Q S ds fuel l a' w) (hs:a=a0.put N v:=by rfl)
  (ha:a0.put N v=a':=by(simp only [Act.put,List.setIfInBounds_toArray,List.set_cons_zero,List.set_cons_succ,mP,nD];rfl)):lL P md ops Q S ds fuel l a w:=mU (hs.trans ha) h
end
section
variable {P:Program}{ops:Array Oper}{rest:List Oper}{o:Oper}{a:Act}{Q:Exit->Act->World->Prop}
theorem pU {W:World}(N:Tmp) (cs:Array Value) (t:TypeId)
  (h:∀g,g=W.heap.size->∀w1,w1.heap[g]? =some (.cells cs t (0,0))->Below W.heap.size W w1->wpList P ops Q rest (a.put o.dst (.pointer (some ⟨g,0,none⟩))) w1)
  (hd:o.dst=some N:=by with_reducible rfl) (hgd:o.guard=none:=by rfl)
  (hrun:(execOp a.eval o).run P W=.ok (.value (.pointer (some ⟨W.heap.size,0,none⟩))) (W.alloc (.cells cs t (0,0))):=by first|(go_simp;done)|(go_simp;rfl)):wpList P ops Q (o::rest) a W:=Gv hgd hd hrun h
end
theorem jX {p q:Prop}(H:q) (h:q->p:=by(intro h_;(with_reducible repeat(first|apply kI|apply kJ|apply kv));exact h_)):p:=h H
theorem cV {p q:Prop}(H:q) (h:q->p:=by(intro h_;(with_reducible repeat(first|apply zK|apply zM|apply zL));exact h_)):p:=h H
theorem jZ {p q:Prop}(H:q) (h:q->p:=by(intro h_;(with_reducible repeat(first|refine pz ?_ _|refine kP ?_|refine nu ?_ _));exact h_)):p:=h H
theorem jT {B:Nat}{w w1 w2:World}(H:Below B w w1) (h:Below B w w2:=by repeat(first|(with_reducible first|exact HB.out|apply o6|apply pK|apply l6)|(with_reducible refine nQ ?_ (jP.out (by assumption)))|exact HB.out)):Below B w w2:=h
theorem lm {w w1 w2:World}{g:Nat}{row:Option Nat}(H:kX w w1 g row) (h:kX w w2 g row:=by repeat(first|(with_reducible first|exact HK.out|apply kX.xJ|apply y8|apply rF|apply y7)|(with_reducible refine vC ?_ (jP.out (by assumption)) _)|exact HK.out)):kX w w2 g row:=h
theorem qV(h:p:=by(try simp only [List.map_toArray,List.map_cons,List.map_nil]);first|done|rfl|(simp only [List.length_drop,List.length_take];rfl)):p:=h
theorem yj(h:p:=by first|(with_reducible assumption)|assumption):p:=h
theorem dm {p:Prop}(h:p):jP p:=⟨h⟩
section
variable {w0 w w1 W W1:World}{g:Nat}{o:Obj}{row:Option Nat}
theorem jU (H:jP (w0.heap[g]? =some o)) (hb:Below w.heap.size w w1) (h:w0.heap[g]? =some o->w.heap[g]? =some o:=by(intro h_;(with_reducible repeat(first|refine pz ?_ _|refine kP ?_|refine nu ?_ _));exact h_)):jP (w1.heap[g]? =some o):=⟨nY (h H.out) hb⟩
theorem lT (H:jP (w0.heap[g]? =some o)) {g1:Nat}(N:jP (g≠g1)) (hk:kX w w1 g1 row) (hr:some g≠row:=by simp) (h:w0.heap[g]? =some o->w.heap[g]? =some o:=by(intro h_;(with_reducible repeat(first|refine pz ?_ _|refine kP ?_|refine nu ?_ _));exact h_)):jP (w1.heap[g]? =some o):=⟨kX.blk hk (h H.out) N.out hr⟩
theorem lZ (H:jP (w0.heap[g]? =some o)) (hg:w.grownBy w1 row) (hne:some g≠row) (h:w0.heap[g]? =some o->w.heap[g]? =some o:=by(intro h_;(with_reducible repeat(first|refine pz ?_ _|refine kP ?_|refine nu ?_ _));exact h_)):jP (w1.heap[g]? =some o):=⟨zS (h H.out) hg hne⟩
theorem kg (H:jP (Below w.heap.size w w0)) (hb:Below W.heap.size W w1) (h:Below w.heap.size w W:=by repeat(first|(with_reducible first|exact HB.out|apply o6|apply pK|apply l6)|(with_reducible refine nQ ?_ (jP.out (by assumption)))|exact HB.out)):jP (Below w.heap.size w w1):=⟨lY h hb⟩
theorem l8 {g:Nat}(H:jP (kX w w0 g none)) (hb:Below W.heap.size W w1) (h:kX w W g none:=by repeat(first|(with_reducible first|exact HK.out|apply kX.xJ|apply y8|apply rF|apply y7)|(with_reducible refine vC ?_ (jP.out (by assumption)) _)|exact HK.out)):jP (kX w w1 g none):=⟨kX.trans h (kX.of_below hb g none) (.inl rfl)⟩
theorem ny {g:Nat}(H:jP (kX w w0 g row)) (hk:kX W w1 g row) (h:kX w W g row:=by repeat(first|(with_reducible first|exact HK.out|apply kX.xJ|apply y8|apply rF|apply y7)|(with_reducible refine vC ?_ (jP.out (by assumption)) _)|exact HK.out)):jP (kX w w1 g row):=⟨kX.trans h hk (.inl rfl)⟩
theorem kr (H:jP (Below w.heap.size w w1)) {a:Addr}{v:Value}(h:w.cell? a=some v):w1.cell? a=some v:=(H.out.cell (World.block_lt_of_cell? w _ h)).trans h
theorem jS {cs:Array Value}{t:TypeId}(H:jP (w.heap[g]? =some (.cells cs t (0,0)))) (i:Nat) {v:Value}(h:cs[i]? =some v:=by rfl):w.cell? ⟨g,i,none⟩=some v:=(mr H.out i).trans h
end
section
variable {α β:Type}{d:Kd α}{d':Kd β}{e e' base base':Nat}{ok ok':Nat->Prop}{w0 w W w1:World}{u v:Value}{xs:List α}{ys:List β}
theorem kH (H:jP (Kd.R d e w0 base ok v xs)) (hb:Below w.heap.size w w1) (h:Kd.R d e w0 base ok v xs->Kd.R d e w base ok v xs:=by(intro h_;(with_reducible repeat(first|apply kI|apply kJ|apply kv));exact h_)):jP (Kd.R d e w1 base ok v xs):=⟨qb (h H.out) hb⟩
theorem vb (H:jP (Kd.V d e w0 base ok v xs)) (hb:Below w.heap.size w w1) (h:Kd.V d e w0 base ok v xs->Kd.V d e w base ok v xs:=by(intro h_;(with_reducible repeat(first|apply zK|apply zM|apply zL));exact h_)):jP (Kd.V d e w1 base ok v xs):=⟨FZ (h H.out) hb⟩
theorem lV (H:jP (Kd.R d e w0 base ok u xs)) (ho:Kd.R d' e' W w.heap.size ok' v ys) (hb:Below w.heap.size w w1) (h:Kd.R d e w0 base ok u xs->Kd.R d e w base ok u xs:=by(intro h_;(with_reducible repeat(first|apply kI|apply kJ|apply kv));exact h_)):jP (Kd.R d e w1 base (fun k=>ok k/\some k≠v.ownBlock) u xs):=⟨zC (h H.out) (qg ho) hb⟩
theorem ve (H:jP (Kd.V d e w0 base ok u xs)) (ho:Kd.R d' e' W w.heap.size ok' v ys) (hb:Below w.heap.size w w1) (h:Kd.V d e w0 base ok u xs->Kd.V d e w base ok u xs:=by(intro h_;(with_reducible repeat(first|apply zK|apply zM|apply zL));exact h_)):jP (Kd.V d e w1 base (fun k=>ok k/\some k≠v.ownBlock) u xs):=⟨F3 (h H.out) (qg ho) hb⟩
end
theorem ow(h:p:=by first|rfl|(simp[Value.ownBlock];rfl)):p:=h
theorem oq {p q:Prop}(H:q) (h:q->p:=by(intro h_;(first|rw[add_block]|(show some (Addr.add _ _).block≠_;rw[add_block])|skip);first|exact h_|exact h_.1|exact h_.2|exact h_.1.1|exact h_.1.2|exact h_.2.1|exact h_.2.2)):p:=h H
theorem kz {p q:Prop}(H:q) (h:q->p:=by(intro h_;repeat(first|exact h_|(with_reducible refine sP ?_ _)|(with_reducible refine sQ ?_ _)|(with_reducible refine rM ?_)))):p:=h H
theorem kS {α β:Type}{o:Option α}{f:α->Option β}{r:β}(h:o.bind f=some r):∃a,jP (o=some a)/\f a=some r:=by
 obtain⟨a,h1,h2⟩:=Option.bind_eq_some_iff.mp h
 exact⟨a,⟨h1⟩,h2⟩
section
variable {w:World}{g:Nat}{t:TypeId}{v0 v1 v2 v3 v4 v5:Value}
theorem d1 (H:jP (w.heap[g]? =some (.cells #[v0] t (0,0)))):w.cell? ⟨g,0,none⟩=some v0/\w.frozen? ⟨g,0,none⟩=false:=⟨(mr H.out 0).trans rfl,l7 H.out 0⟩
theorem ko (H:jP (w.heap[g]? =some (.cells #[v0,v1] t (0,0)))):w.cell? ⟨g,0,none⟩=some v0/\w.cell? ⟨g,1,none⟩=some v1/\w.frozen? ⟨g,0,none⟩=false/\w.frozen? ⟨g,1,none⟩=false:=⟨(mr H.out 0).trans rfl,(mr H.out 1).trans rfl,l7 H.out 0,l7 H.out 1⟩
theorem d3 (H:jP (w.heap[g]? =some (.cells #[v0,v1,v2] t (0,0)))):w.cell? ⟨g,0,none⟩=some v0/\w.cell? ⟨g,1,none⟩=some v1/\w.cell? ⟨g,2,none⟩=some v2/\w.frozen? ⟨g,0,none⟩=false/\w.frozen? ⟨g,1,none⟩=false/\w.frozen? ⟨g,2,none⟩=false:=⟨(mr H.out 0).trans rfl,(mr H.out 1).trans rfl,(mr H.out 2).trans rfl,l7 H.out 0,l7 H.out 1,l7 H.out 2⟩
theorem d4 (H:jP (w.heap[g]? =some (.cells #[v0,v1,v2,v3] t (0,0)))):w.cell? ⟨g,0,none⟩=some v0/\w.cell? ⟨g,1,none⟩=some v1/\w.cell? ⟨g,2,none⟩=some v2/\w.cell? ⟨g,3,none⟩=some v3/\w.frozen? ⟨g,0,none⟩=false/\w.frozen? ⟨g,1,none⟩=false/\w.frozen? ⟨g,2,none⟩=false/\w.frozen? ⟨g,3,none⟩=false:=⟨(mr H.out 0).trans rfl,(mr H.out 1).trans rfl,(mr H.out 2).trans rfl,(mr H.out 3).trans rfl,l7 H.out 0,l7 H.out 1,l7 H.out 2,l7 H.out 3⟩
theorem d5 (H:jP (w.heap[g]? =some (.cells #[v0,v1,v2,v3,v4] t (0,0)))):w.cell? ⟨g,0,none⟩=some v0/\w.cell? ⟨g,1,none⟩=some v1/\w.cell? ⟨g,2,none⟩=some v2/\w.cell? ⟨g,3,none⟩=some v3/\w.cell? ⟨g,4,none⟩=some v4/\w.frozen? ⟨g,0,none⟩=false/\w.frozen? ⟨g,1,none⟩=false/\w.frozen? ⟨g,2,none⟩=false/\w.frozen? ⟨g,3,none⟩=false/\w.frozen? ⟨g,4,none⟩=false:=⟨(mr H.out 0).trans rfl,(mr H.out 1).trans rfl,(mr H.out 2).trans rfl,(mr H.out 3).trans rfl,(mr H.out 4).trans rfl,l7 H.out 0,l7 H.out 1,l7 H.out 2,l7 H.out 3,l7 H.out 4⟩
theorem d6 (H:jP (w.heap[g]? =some (.cells #[v0,v1,v2,v3,v4,v5] t (0,0)))):w.cell? ⟨g,0,none⟩=some v0/\w.cell? ⟨g,1,none⟩=some v1/\w.cell? ⟨g,2,none⟩=some v2/\w.cell? ⟨g,3,none⟩=some v3/\w.cell? ⟨g,4,none⟩=some v4/\w.cell? ⟨g,5,none⟩=some v5/\w.frozen? ⟨g,0,none⟩=false/\w.frozen? ⟨g,1,none⟩=false/\w.frozen? ⟨g,2,none⟩=false/\w.frozen? ⟨g,3,none⟩=false/\w.frozen? ⟨g,4,none⟩=false/\w.frozen? ⟨g,5,none⟩=false:=⟨(mr H.out 0).trans rfl,(mr H.out 1).trans rfl,(mr H.out 2).trans rfl,(mr H.out 3).trans rfl,(mr H.out 4).trans rfl,(mr H.out 5).trans rfl,l7 H.out 0,l7 H.out 1,l7 H.out 2,l7 H.out 3,l7 H.out 4,l7 H.out 5⟩
end
section
variable {P:Program}{ops:Array Oper}{Q:Exit->Act->World->Prop}
theorem kE {rest:List Oper}{o:Oper}{a:Act}{w:World}(N:Tmp) (_hN:o.dst=some N) (h:wpList P ops Q (o::rest) a w):wpList P ops Q (o::rest) a w:=h
theorem kV {rest:List Oper}{o:Oper}{a:Act}{w:World}(f:FuncId) {as_:Array Operand}{ts:Array TypeId}(_ho:o.op=.call {callee:=.value (.func f),args:=as_,argTypes:=ts}) (h:wpList P ops Q (o::rest) a w):wpList P ops Q (o::rest) a w:=h
theorem Iy {rest:List Oper}{oi:Oper}{a:Act}{w:World}{f:FuncId}(N:Tmp) {fn:Func}{as_:Array Operand}{ts:Array TypeId}(hf:P.funcs[f]? =some fn) (args:Array Value)
  (h:Calls P f args w fun e w'=>∃v,e=.returned v/\wpList P ops Q rest (a.put (some N) v) w')
  (hop : oi.op = .call { callee := .value (.func f), args := as_, argTypes := ts } := by with_reducible rfl) (hd : oi.dst = some N := by rfl) (hg : oi.guard = none := by rfl) (hname : (fn.name == "runtime.NumGoroutine") = false := by kernel_rfl) (hb : fn.body.isSome = true := by rfl)
  (hargs:as_.map a.eval=args:=by exact qV):wpList P ops Q (oi::rest) a w:=uN (some N) hd hg hf hname hb args hop hargs h
variable {md:Region.Mode}{S:World->Prop}{ds:List Nat}
theorem K4 {oi:Oper}{N:Option Tmp}{a:Act}{w:World}{K:Act->World->Prop}{f:FuncId}{fn:Func}{as_:Array Operand}{ts:Array TypeId}(hf:P.funcs[f]? =some fn) (args:Array Value)
  (h : Calls P f args w fun e w' => ∃ v, e = .returned v ∧ K (a.put N v) w') (hop : oi.op = .call { callee := .value (.func f), args := as_, argTypes := ts } := by rfl) (hname : (fn.name == "runtime.NumGoroutine") = false := by kernel_rfl) (hb : fn.body.isSome = true := by rfl)
  (hw:Region.wanted oi (yielded ops a.tmps)=true:=by rfl) (hN:oi.dst=N:=by rfl) (hargs:as_.map a.eval=args:=by exact qV):if Region.wanted oi (yielded ops a.tmps)=true then Oper.wp P oi a w K Q else K (a.put N undef) w:=qA hf hname hb args hw hN hop hargs h
theorem lv {oi:Oper}{fuel n b0:Nat}{a:Act}{w:World}(i:Nat) (N:Tmp) (b:Nat)
  (h:∀K:Act->World->Prop,Shut (∀a' w',S w'->(S w'->lL P md ops Q S ds fuel (lu n b) a' w')->K a' w')->if Region.wanted oi (yielded ops a.tmps)=true then Oper.wp P oi a w K Q else K (a.put (some N) undef) w)
  (hi:ops[i]? =some oi:=by rfl) (hN:oi.dst=some N:=by rfl) (hc:uq md ops (lu n b0) (lu n b) i=true:=by exact rX HT_.out (by kernel_rfl)) (hd:i∉ds:=by decide):lL P md ops Q S ds (fuel+1) (lu n b0) a w:=rH (lu n b) hi hN hc hd h
theorem vF {oi:Oper}{fuel:Nat}{l:Array Bool}{a:Act}{w:World}(i:Nat) (N:Option Tmp) (l':Array Bool)
  (h:∀K:Act->World->Prop,Shut (∀a' w',S w'->(S w'->lL P md ops Q S ds fuel l' a' w')->K a' w')->if Region.wanted oi (yielded ops a.tmps)=true then Oper.wp P oi a w K Q else K (a.put N undef) w)
  (hi:ops[i]? =some oi:=by rfl) (hN:oi.dst=N:=by rfl) (hc:uq md ops l l' i=true:=by exact rX HT_.out (by kernel_rfl)) (hd:i∉ds:=by decide):lL P md ops Q S ds (fuel+1) l a w:=rH l' hi hN hc hd h
theorem mO {id:Nat}{a:Act}{w:World}{T:Bool×List (List Nat×List Nat)}{B:List Nat}(n:Nat) {S:World->Prop}(ds:List Nat) (hS:S w.drew) (hT:mK .any ops=T) (hB:nM T.2 B=true)
  (h:S w.drew->jP (mK .any ops=T)->jP (nM T.2 B=true)->lL P .any ops Q S ds n (lu n 0) a w.drew) (hm:P.follows .mixedOrders=true:=by kernel_rfl) (hn:ops.size=n:=by rfl)
  (hl:Array.replicate n false=lu n 0:=by kernel_rfl):(Code.region id ops true).wp P Q a w:=wO (lu n 0) hm hn hl hS fun h1=>Bp hT hB (h h1)
theorem qD {oi:Oper}{fuel:Nat}{l:Array Bool}{a:Act}{w:World}(i:Nat) (N:Option Tmp) (l':Array Bool)
  (h:∀K:Act->World->Prop,Shut (∀a' w',lL P md ops Q S ds fuel l' a' w'->K a' w')->if Region.wanted oi (yielded ops a.tmps)=true then Oper.wp P oi a w K Q else K (a.put N undef) w)
  (hi:ops[i]? =some oi:=by rfl) (hN:oi.dst=N:=by rfl) (hc:uq md ops l l' i=true:=by exact rX HT_.out (by kernel_rfl)) (hd:i∈ds:=by decide):lL P md ops Q S ds (fuel+1) l a w:=AB l' hi hN hc hd h
end
theorem mW {P:Prop} [Decidable P] {α:Type}{x:Option α}{r:α}(h:(if P then x else none)=some r):P/\x=some r:=by
 by_cases c:P
 ·rw[if_pos c]at h;exact⟨c,h⟩
 rw[if_neg c]at h;cases h
theorem xB {P:Prop} [Decidable P] {α:Type}{x:Option α}{r:α}(h:(if P then none else x)=some r):¬P/\x=some r:=by
 by_cases c:P
 ·rw[if_pos c]at h;cases h
 rw[if_neg c]at h;exact⟨c,h⟩
theorem lC {P:Prop} [Decidable P] {α:Type}{x:Option α}{r:α}(h:(if P then x else none)=some r):decide P=true/\x=some r:=⟨decide_eq_true (mW h).1,(mW h).2⟩
theorem mE {b:Bool}{α:Type}{x y:Option α}{r:α}(h:(if b=true then x else y)=some r):b=true/\x=some r\/b=false/\y=some r:=by
 cases b with
 |true=>exact .inl ⟨rfl,h⟩
 |false=>exact .inr ⟨rfl,h⟩
theorem l5 {p q e:Prop}(hy:e) (H:q) (h:e->q->p:=by(intro hy_ H_;first|(rw[hy_];with_reducible exact H_)|(have aJ:=(Option.bind_some _ _).symm.trans H_;rw[hy_];with_reducible exact aJ)|(have aJ:=(Option.bind_some _ _).symm.trans H_;with_reducible exact aJ)|with_reducible exact H_|(rw[hy_];exact H_)|exact H_)):p:=h hy H
theorem KY {w:World}{g t:Nat}{a b u v:Value}(H:w.heap[g]? =some (.cells #[a,b] t (0,0))):((w.setCell ⟨g,0,none⟩ u).setCell ⟨g,1,none⟩ v).heap[g]? =some (.cells #[u,v] t (0,0)):=vo (cs:= #[u,b]) (vo (cs:= #[a,b]) H 0 _ rfl) 1 _ rfl
theorem KX {w:World}{g t:Nat}{a b v:Value}(H:w.heap[g]? =some (.cells #[a,b] t (0,0))):(w.setCell ⟨g,1,none⟩ v).heap[g]? =some (.cells #[a,v] t (0,0)):=vo (cs:= #[a,b]) H 1 _ rfl
theorem KW {w:World}{g t:Nat}{a b u:Value}(H:w.heap[g]? =some (.cells #[a,b] t (0,0))):(w.setCell ⟨g,0,none⟩ u).heap[g]? =some (.cells #[u,b] t (0,0)):=vo (cs:= #[a,b]) H 0 _ rfl
theorem lH {p q:Prop}(H:q) (h:q->p:=by(intro h_;repeat(first|(with_reducible first|exact h_|refine pz ?_ _|refine kP ?_|refine nu ?_ _)|refine pO ?_ (jP.out (by assumption)) _|apply KY|apply KX|apply KW|exact h_))):p:=h H
theorem rG {p q r:Prop}(H:q) (N:r) (h:q->r->p:=by(intro ap_ ag_;first|exact Nat.ne_of_lt (Nat.lt_of_lt_of_le (by have:=World.block_lt_of_cell? _ _ ap_;first|rwa [add_block]at this|exact this) ag_)|(rw[add_block];exact Nat.ne_of_lt (Nat.lt_of_lt_of_le (by have:=World.block_lt_of_cell? _ _ ap_;first|rwa [add_block]at this|exact this) ag_))|(show(Addr.add _ _).block≠_;rw[add_block];exact Nat.ne_of_lt (Nat.lt_of_lt_of_le (by have:=World.block_lt_of_cell? _ _ ap_;first|rwa [add_block]at this|exact this) ag_))|(dsimp only;exact Nat.ne_of_lt (Nat.lt_of_lt_of_le (by have:=World.block_lt_of_cell? _ _ ap_;first|rwa [add_block]at this|exact this) ag_)))):p:=h H N
theorem jY {p:Prop} [Decidable p] (h:decide p=true:=by first|(with_reducible assumption)|assumption):p:=of_decide_eq_true h
theorem mV(h:p:=by first|rfl|(simp[pg,pq]<;>rfl)|(simp[*,pg,pq]<;>rfl)):p:=h
end Go.Proofs.Ytgeonpciodepgaa.P
namespace Go.Proofs.Ytgeonpciodepgaa.P
open Go.RowKit Go.Proofs.YtgeonpciodepgaaW.PrintWords Go.Proofs.YtgeonpciodepgaaW.PrintLast Go.Proofs.YtgeonpciodepgaaW.PrintWords.Kd
theorem oo {p q1 q2 q3 q4 q5 q6 q7 q8 q9 q10 q11 q12 q13 q14:Prop}(h1:q1) (h2:q2:=by exact trivial) (h3:q3:=by exact trivial) (h4:q4:=by exact trivial) (h5:q5:=by exact trivial) (h6:q6:=by exact trivial) (h7:q7:=by exact trivial) (h8:q8:=by exact trivial)
  (h9:q9:=by exact trivial) (h10:q10:=by exact trivial) (h11:q11:=by exact trivial) (h12:q12:=by exact trivial) (h13:q13:=by exact trivial) (h14:q14:=by exact trivial)
  (h:q1->q2->q3->q4->q5->q6->q7->q8->q9->q10->q11->q12->q13->q14->p:=by
   (intro a_ b_ c_ d_ e_ f_ g_ i_ j_ k_ l_ m_ n_ o_;repeat' with_reducible first|exact LeO.refl _|exact LeO.none _|refine LeO.ite ?_ ?_|refine LeO.bind ?_ (fun _=>?_)|apply a_|apply b_|apply c_|apply d_|apply e_|apply f_|apply g_|apply i_|apply j_|apply k_|apply l_|apply m_|apply n_|apply o_)):p:=h h1 h2 h3 h4 h5 h6 h7 h8 h9 h10 h11 h12 h13 h14
section
variable {P:Program}{ops:Array Oper}{Q:Exit->Act->World->Prop}{rest:List Oper}{o:Oper}{a:Act}{w:World}{f:FuncId}{fn:Func}{as_:Array Operand}{ts:Array TypeId}{args:Array Value}{v:Value}
theorem lN {R:Ending->World->Prop}(N:Tmp) (hd:o.dst=some N) (hf:P.funcs[f]? =some fn) (T:Calls P f args w R) (h:∀e w',R e w'->∃v,e=.returned v/\wpList P ops Q rest (a.put (some N) v) w')
  (hop : o.op = .call { callee := .value (.func f), args := as_, argTypes := ts } := by with_reducible rfl) (hg : o.guard = none := by rfl) (hname : (fn.name == "runtime.NumGoroutine") = false := by kernel_rfl) (hb : fn.body.isSome = true := by rfl)
  (hargs:as_.map a.eval=args:=by exact qV):wpList P ops Q (o::rest) a w:=uN (some N) hd hg hf hname hb args hop hargs (T.mono h)
theorem nU {B:World->Prop}(N:Tmp) (hd:o.dst=some N) (hf:P.funcs[f]? =some fn) (T:Calls P f args w fun e w'=>e=.returned v/\B w') (h:∀w',B w'->wpList P ops Q rest (a.put (some N) v) w')
  (hop : o.op = .call { callee := .value (.func f), args := as_, argTypes := ts } := by with_reducible rfl) (hg : o.guard = none := by rfl) (hname : (fn.name == "runtime.NumGoroutine") = false := by kernel_rfl) (hb : fn.body.isSome = true := by rfl)
  (hargs:as_.map a.eval=args:=by exact qV):wpList P ops Q (o::rest) a w:=lN N hd hf T (fun _ w' ⟨h1,h2⟩=>⟨v,h1,h w' h2⟩) hop hg hname hb hargs
theorem mi {R:Ending->World->Prop}{N:Option Tmp}{K:Act->World->Prop}(hf:P.funcs[f]? =some fn) (T:Calls P f args w R) (h:∀e w',R e w'->∃v,e=.returned v/\K (a.put N v) w')
  (hop : o.op = .call { callee := .value (.func f), args := as_, argTypes := ts } := by rfl) (hname : (fn.name == "runtime.NumGoroutine") = false := by kernel_rfl) (hb : fn.body.isSome = true := by rfl)
  (hw:Region.wanted o (yielded ops a.tmps)=true:=by rfl) (hN:o.dst=N:=by rfl) (hargs:as_.map a.eval=args:=by exact qV):if Region.wanted o (yielded ops a.tmps)=true then Oper.wp P o a w K Q else K (a.put N undef) w:=qA hf hname hb args hw hN hop hargs (T.mono h)
theorem qL {B:World->Prop}{N:Option Tmp}{K:Act->World->Prop}(hf:P.funcs[f]? =some fn) (T:Calls P f args w fun e w'=>e=.returned v/\B w') (h:∀w',B w'->K (a.put N v) w')
  (hop : o.op = .call { callee := .value (.func f), args := as_, argTypes := ts } := by rfl) (hname : (fn.name == "runtime.NumGoroutine") = false := by kernel_rfl) (hb : fn.body.isSome = true := by rfl)
  (hw:Region.wanted o (yielded ops a.tmps)=true:=by rfl) (hN:o.dst=N:=by rfl) (hargs:as_.map a.eval=args:=by exact qV):if Region.wanted o (yielded ops a.tmps)=true then Oper.wp P o a w K Q else K (a.put N undef) w:=mi hf T (fun _ w' ⟨h1,h2⟩=>⟨v,h1,h w' h2⟩) hop hname hb hw hN hargs
theorem ll {W:World}(cs:Array Value) (t:TypeId)
  (h:∀g,g=W.heap.size->∀w1,w1.heap[g]? =some (.cells cs t (0,0))->Below W.heap.size W w1->wpList P ops Q rest (a.put o.dst (.pointer (some ⟨g,0,none⟩))) w1)
  (hgd:o.guard=none:=by rfl)
  (hrun:(execOp a.eval o).run P W=.ok (.value (.pointer (some ⟨W.heap.size,0,none⟩))) (W.alloc (.cells cs t (0,0))):=by first|(go_simp;done)|(go_simp;rfl)):wpList P ops Q (o::rest) a W:=Az hgd hrun (h _ rfl _ (zT W _) (o6 (Below.refl _ _) _))
end
section
variable {P:Program}{md:Region.Mode}{ops:Array Oper}{Q:Exit->Act->World->Prop}{S:World->Prop}{ds:List Nat}
theorem kF {fuel n b0:Nat}{a:Act}{w:World}{oi:Oper}{v:Value}{a':Act}(i:Nat) (N:Tmp) (b:Nat) (h:lL P md ops Q S ds fuel (lu n b) a' w)
  (hi:ops[i]? =some oi:=by rfl) (hN:oi.dst=some N:=by rfl) (hc:takeB md ops ds (lu n b0) (lu n b) i=true:=by first|exact rC HT_.out HW_.out (by kernel_rfl)|kernel_rfl)
  (hQ:∀c a w,Q (.panic c) (a.put oi.dst v) w->Q (.panic c) a w:=by exact fun _ _ _ h=>h) (hy:YieldsIf P ops S oi v a:=by exact Or.inl ⟨by rfl,by(intro w' h_;(repeat(obtain⟨_,h_⟩:=h_));go_simp;with_reducible rfl)⟩) (hS:S w:=by exact hHeld)
  (ha:a.put (some N) v=a':=by first|(simp only [Act.put,List.setIfInBounds_toArray,List.set_cons_zero,List.set_cons_succ,mP,nD];rfl)|rfl):lL P md ops Q S ds (fuel+1) (lu n b0) a w:=
 qo (lu n b) hi hN hc hQ hy hS ha h
end
theorem oW {α:Type}{P:Program}{ops:Array Oper}{Q:Exit->Act->World->Prop}{rest:List Oper}{o:Oper}{a:Act}{W:World}(d:Kd α) {N:Tmp}(hd:o.dst=some N) (e:Nat) (xs:List α) (inner:List Value) (hrep:kN (d.M W W.heap.size (fun _=>True)) d.sz xs inner)
  (h:∀v1 w1,d.R e w1 W.heap.size (fun _=>True) v1 xs->Below W.heap.size W w1->W.grownBy w1 none->(∃b,v1.ownBlock=some b/\W.heap.size<=b)->wpList P ops Q rest (a.put o.dst v1) w1)
  (hm:xs.length<=9223372036854775807:=by simp) (hgd:o.guard=none:=by rfl)
  (hrun:(execOp a.eval o).run P W=.ok (.value (.slice (some ⟨W.heap.size,0,none⟩) xs.length xs.length)) (W.alloc (.cells inner.toArray e)):=by first|(go_simp;done)|(go_simp;rfl)):wpList P ops Q (o::rest) a W:=zF d _ e hgd hd hrun hrep (fun _ hk=>hk) trivial (Below.refl _ _) (Nat.le_refl _) hm h
theorem mo {p:Prop} [Decidable p] {α:Type}{x y:Option α}{r:α}(h:(if p then x else y)=some r):decide p=true/\x=some r\/decide p=false/\y=some r:=by
 by_cases c:p
 ·rw[if_pos c]at h;exact .inl ⟨decide_eq_true c,h⟩
 rw[if_neg c]at h;exact .inr ⟨decide_eq_false c,h⟩
end Go.Proofs.Ytgeonpciodepgaa.P
namespace Go.Proofs.Ytgeonpciodepgaa.P
set_option maxHeartbeats 8000000
set_option maxRecDepth 100000
open Go.RowKit Go.Proofs.YtgeonpciodepgaaW.PrintWords Go.Proofs.YtgeonpciodepgaaW.PrintLast Go.Proofs.YtgeonpciodepgaaW.PrintMore Go.Proofs.YtgeonpciodepgaaW.PrintWords.Kd Go.Proofs.YtgeonpciodepgaaW.PrintMore.Kd
attribute [local go_sem] wu wB wz wE wy wD ww wC
variable {p:Prop}
def DT:Option Int->Value
  |none=> .nilIface
  |some c=> .iface 0 (.int .i64 c)
theorem pg:DT none=.nilIface:=rfl
theorem pq (c:Int):DT (some c)=.iface 0 (.int .i64 c):=rfl
theorem info3:(Try.prog.info? 3).map (fun i=>(i.zero,i.size,i.bytes))=some (some (.int .i64 0),1,8):=by kernel_rfl
theorem D8:(Try.prog.info? 4).map (fun i=>(i.zero,i.size,i.bytes))=some (some (.bool false),1,1):=by kernel_rfl
theorem info5:(Try.prog.info? 5).map (fun i=>(i.zero,i.size,i.bytes))=some (some (.int .u8 0),1,1):=by kernel_rfl
theorem D9:(Try.prog.info? 45).map (fun i=>(i.zero,i.size,i.bytes))=some (some (.slice none 0 0),1,24):=by kernel_rfl
theorem qM:(Try.prog.info? 59).map (fun i=>(i.zero,i.size,i.bytes))=some (some (.agg #[(.int .i64 0),(.int .i64 0)]),2,16):=by kernel_rfl
abbrev S59:=G.Tie
def z59:S59:=⟨(0:Int),(0:Int)⟩
def k59:Kd S59:=Kd.iso (Kd.pair (Kd.int .i64) (Kd.int .i64)) (fun x:S59=>(x.f0,x.f1))
theorem IL {w:World}{x:S59}{cs:List Value}(h:k59.K w x cs):cs=[.int .i64 x.f0,.int .i64 x.f1]:=by
  obtain⟨_,_,rfl,rfl,rfl⟩:=h;exact rfl
theorem Ea {w:World}{base:Nat}{ok:Nat->Prop}{x:S59}{cs:List Value}(h:k59.M w base ok x cs):cs=[.int .i64 x.f0,.int .i64 x.f1]:=by
  obtain⟨_,_,rfl,rfl,rfl⟩:=h;exact rfl
theorem pR (w:World) (base:Nat) (ok:Nat->Prop) (x:S59):k59.M w base ok x [.int .i64 x.f0,.int .i64 x.f1]:=⟨[.int .i64 x.f0],[.int .i64 x.f1],rfl,rfl,rfl⟩
def jQ (xs:List S59) (i:Int):S59:=xs.getD i.toNat z59
theorem mZ {w:World}{A:Option Addr}{n:Nat}{xs:List S59}(h:Kd.C k59 w A n xs) (i:Int) (h0:0<=i) (h1:i<n):∃ad,A=some ad/\w.cell? (ad.add (i.toNat*2))=some (.int .i64 (jQ xs i).f0)/\w.cell? ⟨(ad.add (i.toNat*2)).block,(ad.add (i.toNat*2)).off+1,none⟩=some (.int .i64 (jQ xs i).f1):=by
  obtain⟨ad,c,e,_,hK,aa⟩:=Bu h z59 i h0 h1;have hc:∀j u,c[j]? =some u->w.cell? (ad.add (i.toNat*2+j))=some u:=aa;obtain rfl:=IL hK;exact⟨ad,e,hc 0 _ rfl,by rw[←F7 _ _ 1 (by omega)];exact hc 1 _ rfl⟩
def l9 (xs:List (List Int)) (i:Int):(List Int):=xs.getD i.toNat ([]:List Int)
theorem uE {w:World}{A:Option Addr}{n:Nat}{xs:List (List Int)}(h:Kd.C (Kd.slice 3 (Kd.int .i64)) w A n xs) (i:Int) (h0:0<=i) (h1:i<n):∃ad A0 c0,A=some ad/\w.cell? (ad.add i.toNat)=some (.slice A0 (l9 xs i).length c0)/\(l9 xs i).length<=c0/\(Kd.int .i64).C w A0 (l9 xs i).length (l9 xs i):=by
  obtain⟨ad,c,e,_,hK,aa⟩:=Bu h ([]:List Int) i h0 h1;have hc:∀j u,c[j]? =some u->w.cell? (ad.add (i.toNat*1+j))=some u:=aa;obtain⟨A0,c0,rfl,l0,g0⟩:=hK;exact⟨ad,A0,c0,e,by have hq:=hc 0 _ rfl;rwa [Nat.mul_one,Nat.add_zero]at hq,l0,g0⟩
structure S31 where
  f0:Int
  f1:(List S59)
theorem si(h:p:=by exact lH af.out):p:=h
theorem nZ(h:p:=by exact lH ac.out):p:=h
theorem yz(h:p:=by(try simp only [List.map_toArray,List.map_cons,List.map_nil]);first|done|(simp only [aK];rfl)|rfl|(simp only [List.length_drop,List.length_take];rfl)):p:=h
theorem xc(h:p:=by rw[hg];exact Nat.ne_of_lt (lM (g:=ah) (o:=.cells #[.int .i64 ag,.slice (some aj) aa.length az] 31 (0,0)) (jZ ac.out))):p:=h
theorem xe(h:p:=by rw[hg];exact Nat.ne_of_gt (lM (g:=ah) (o:=.cells #[.int .i64 ag,.slice (some aj) aa.length az] 31 (0,0)) (jZ ac.out))):p:=h
theorem zY(h:p:=by rw[hg];exact Nat.ne_of_lt (lM (g:=aq) (o:=.cells #[.int .i64 ag,.int .i64 aI] 59 (0,0)) (jZ au.out))):p:=h
theorem zZ(h:p:=by rw[hg];exact Nat.ne_of_gt (lM (g:=aq) (o:=.cells #[.int .i64 ag,.int .i64 aI] 59 (0,0)) (jZ au.out))):p:=h
theorem nK(h:p:=by first|rfl|(simp[pg,pq]<;>rfl)|(simp[*,pg,pq]<;>rfl)):p:=h
theorem kD(h:p:=by first|rfl|(simp;done)|(simp[*];done)):p:=h
theorem kC(h:p:=by rw[hg];exact(kM (jT HB.out))):p:=h
theorem kU(h:p:=by kernel_rfl):p:=h
def qa.f (a0:Int) (a1:Int) (a2:Int):Option (Bool):=if a0>=a1 then(some (decide (a0<=a2))) else(some false)
theorem qa.calls {a0:Int}{a1:Int}{a2:Int}{r:Bool}{w:World}(h:qa.f a0 a1 a2=some r):
  Calls Try.prog 75 #[.int .i64 a0,.int .i64 a1,.int .i64 a2] w fun e w'=>e=.returned (.bool r)/\kY w w':=by
 unfold qa.f at h;have H:=h;clear h
 replace H:=mo H;rcases H with⟨bJ,H⟩|⟨bJ,H⟩
 ·obtain rfl:=Option.some.inj H
  go_enter Try.func75,Try.ntmps75
  go_wp2
  go_ret
  exact⟨kD,by repeat(first|exact kY.refl _|apply kY.step)⟩
 obtain rfl:=Option.some.inj H
 go_enter Try.func75,Try.ntmps75
 go_wp2
 go_ret
 exact⟨kD,by repeat(first|exact kY.refl _|apply kY.step)⟩
def sG.f (ag:Int) (aI:Int) (ax:Int) (aN:Int):Option (Bool):=if ag<ax then(some true) else(if ag=ax then(some (decide (aI<aN))) else(some false))
theorem sG.calls {ag:Int}{aI:Int}{ax:Int}{aN:Int}{r:Bool}{w:World}(h:sG.f ag aI ax aN=some r):
  Calls Try.prog 76 #[.agg #[.int .i64 ag,.int .i64 aI],.agg #[.int .i64 ax,.int .i64 aN]] w fun e w'=>e=.returned (.bool r)/\Below w.heap.size w w':=by
 have bK:=Try.underlying59;have HB:=dm (Below.refl w.heap.size w);unfold sG.f at h;have H:=h;clear h
 replace H:=mo H;rcases H with⟨bL,H⟩|⟨bL,H⟩
 ·obtain rfl:=Option.some.inj H
  go_enter Try.func76,Try.ntmps76
  go_wp2_with (first|((with_reducible refine kE 2 rfl ?_);refine ll #[.int .i64 ag,.int .i64 aI] 59 ?_;intro aq hg w4 jV hb;have au:=dm (jV);have bh:=dm (kC:w.heap.size<=aq);have bj:=dm (kC:w.heap.size<=aq);replace HB:=kg HB hb;clear hb jV hg)|((with_reducible refine kE 3 rfl ?_);refine ll #[.int .i64 ax,.int .i64 aN] 59 ?_;intro ay hg w5 jV hb;have aR:=dm (jV);have bk:=dm (kC:w.heap.size<=ay);have bl:=dm (kC:w.heap.size<=ay);replace HB:=kg HB hb;have aF:=dm (zY:aq≠ay);have aG:=dm (zZ:ay≠aq);replace au:=jU au hb;clear hb jV hg;have dJ:=aF.out;have dK:=aG.out;have⟨bz,bA,bB,bC⟩:=ko (w:=w5) au;have⟨cU,cW,cX,cY⟩:=ko (w:=w5) aR))
  go_ret
  exact⟨nK,jT HB.out⟩
 skip
 by_cases c9:ag=ax
 ·rw[if_pos c9]at H;have bd:=beq_iff_eq.mpr c9;have bM:=bne_eq_false_iff_eq.mpr c9;clear c9;obtain rfl:=Option.some.inj H
  go_enter Try.func76,Try.ntmps76
  go_wp2_with (first|((with_reducible refine kE 2 rfl ?_);refine ll #[.int .i64 ag,.int .i64 aI] 59 ?_;intro aq hg dM jV hb;have au:=dm (jV);have bh:=dm (kC:w.heap.size<=aq);have bj:=dm (kC:w.heap.size<=aq);replace HB:=kg HB hb;clear hb jV hg)|((with_reducible refine kE 3 rfl ?_);refine ll #[.int .i64 ax,.int .i64 aN] 59 ?_;intro ay hg bG jV hb;have aR:=dm (jV);have bk:=dm (kC:w.heap.size<=ay);have bl:=dm (kC:w.heap.size<=ay);replace HB:=kg HB hb;have aF:=dm (zY:aq≠ay);have aG:=dm (zZ:ay≠aq);replace au:=jU au hb;clear hb jV hg;have dl:=aF.out;have dn:=aG.out;have⟨bN,bO,bP,bQ⟩:=ko (w:=bG) au;have⟨bR,bS,bT,bU⟩:=ko (w:=bG) aR))
  go_ret
  exact⟨nK,jT HB.out⟩
 rw[if_neg c9]at H;have bd:=beq_eq_false_iff_ne.mpr c9;have bM:=bne_iff_ne.mpr c9;obtain rfl:=Option.some.inj H
 go_enter Try.func76,Try.ntmps76
 go_wp2_with (first|((with_reducible refine kE 2 rfl ?_);refine ll #[.int .i64 ag,.int .i64 aI] 59 ?_;intro aq hg dN jV hb;have au:=dm (jV);have bh:=dm (kC:w.heap.size<=aq);have bj:=dm (kC:w.heap.size<=aq);replace HB:=kg HB hb;clear hb jV hg)|((with_reducible refine kE 3 rfl ?_);refine ll #[.int .i64 ax,.int .i64 aN] 59 ?_;intro ay hg bH jV hb;have aR:=dm (jV);have bk:=dm (kC:w.heap.size<=ay);have bl:=dm (kC:w.heap.size<=ay);replace HB:=kg HB hb;have aF:=dm (zY:aq≠ay);have aG:=dm (zZ:ay≠aq);replace au:=jU au hb;clear hb jV hg;have dq:=aF.out;have dr:=aG.out;have⟨bV,bW,bX,bY⟩:=ko (w:=bH) au;have⟨bZ,b3,b4,b5⟩:=ko (w:=bH) aR))
 go_ret
 exact⟨nK,jT HB.out⟩
mutual
def mf.j0:Nat->Bool->Int->List (S59)->Option (Bool)
 |0,_,_,_=>none
 |k+1,cZ,aH,ao=>if cZ=true then(some false) else(mf.l0 k 0 aH ao)
def mf.l0:Nat->Int->Int->List (S59)->Option (Bool)
 |0,_,_,_=>none
 |k+1,x3,aH,ao=>if x3<(ao.length:Int) then(if 0<=x3 then((qa.f ((jQ ao x3).f0) 0 (wrap64 (aH - 1))).bind fun aZ=>(if aZ=true then((qa.f ((jQ ao x3).f1) (wrap64 (((jQ ao x3).f0)+1)) (wrap64 (aH - 1))).bind fun aO=>(if aO=true then(if x3>0 then(if 0<=(wrap64 (x3 - 1)) then(if(wrap64 (x3 - 1))<(ao.length:Int) then((sG.f ((jQ ao (wrap64 (x3 - 1))).f0) ((jQ ao (wrap64 (x3 - 1))).f1) ((jQ ao x3).f0) ((jQ ao x3).f1)).bind fun aE=>(if aE=true then(mf.l0 k (wrap64 (x3+1)) aH ao) else(some false))) else(none)) else(none)) else(mf.l0 k (wrap64 (x3+1)) aH ao)) else(some false))) else(some false))) else(none)) else(some true)
end
def mf.f (k:Nat) (ag:Int) (aa:List (S59)):Option (Bool):=(qa.f ag 0 8).bind fun aS=>(if aS=true then(mf.j0 k (decide ((aa.length:Int)>64)) ag aa) else(mf.j0 k true ag aa))
def mf.T7:Bool×List (List Nat×List Nat):=(true,[([],[]),([0],[0]),([],[]),([2],[2]),([3],[3]),([1,4],[1,4]),([5],[5]),([6,5],[6]),([7],[7]),([8,7],[7,8]),([7],[7]),([10,7],[7,10]),([11,7],[7,11]),([7],[7]),([13,7],[7,13]),([14,7],[7,14]),([9,12,15,7,7],[7,9,12,15]),([16,7],[7,16]),([7,17],[7,17]),([18,16],[18]),([19],[19]),([20,19],[19,20]),([21,19,19],[19,21]),([22],[22]),([23,22],[22,23]),([22],[22]),([25,22],[22,25]),([24,26,22],[22,24,26]),([27,22],[22,27]),([22],[22]),([28,29,22,22],[22,28,29]),([30,22],[22,30]),([22,31,19],[19,22,31]),([19,32],[19,32])])
def mf.B7:List Nat:=[0,1,0,4,12,31,63,127,255,511,255,1279,3327,255,8447,24831,65535,131071,262143,524287,1048575,2097151,4194303,8388607,16777215,8388607,41943039,134217727,268435455,8388607,1073741823,2147483647,4294967295,8589934591]
theorem mf.rJ:mK .any (opsOf Try.f32 7)=mf.T7:=by kernel_rfl
theorem mf.rD:nM mf.T7.2 mf.B7=true:=by kernel_rfl
theorem mf.calls {k:Nat}{ag:Int}{aW:Option Addr}{az:Nat}{aa:List (S59)}{r:Bool}{w:World}(bm:Kd.C k59 w aW aa.length aa)(bn:aa.length<=az)(h:mf.f k ag aa=some r):
  Calls Try.prog 32 #[.agg #[.int .i64 ag,.slice aW aa.length az]] w fun e w'=>e=.returned (.bool r)/\Below w.heap.size w w':=by
 have dL:=Try.underlying31;have bK:=Try.underlying59;have aL:=dm bm;have dt:=dm bn;clear bm bn;have HB:=dm (Below.refl w.heap.size w);unfold mf.f at h;have H:=h;clear h;have bD:=dm H;clear H
 go_enter Try.func32,Try.ntmps32
 go_upto_region 1 with(first|((with_reducible refine kE 1 rfl ?_);(try(refine nN (by rfl) ?_;dsimp only));refine pU 1 #[.int .i64 ag,.slice aW aa.length az] 31 ?_;intro ah hg w3 jV hb;have ac:=dm (jV);have du:=dm (kC:w.heap.size<=ah);have dv:=dm (kC:w.heap.size<=ah);replace HB:=kg HB hb;clear hb jV hg))
 (try simp only [Act.put,List.setIfInBounds_toArray,List.set_cons_zero,List.set_cons_succ])
 go_cut [14] (fun c_ wc=>∃ (kq:Nat) (aT:Bool),c_=.bool aT/\jP (mf.j0 kq aT ag aa=some r)/\jP (kq<=k)/\jP (wc.heap[ah]? =some (.cells #[.int .i64 ag,(.slice aW aa.length az)] 31 (0,0)))/\jP (Below w.heap.size w wc))
 case first=>
  have H:=bD.out;clear bD;obtain⟨aS,A4,H⟩:=kS H;(try dsimp only at H)
  rcases mE H with⟨h_,H_⟩|⟨h_,H_⟩<;> (subst h_;clear H;have H:=H_;clear H_)
  ·have H':=dm H;clear H;have⟨db,dc,dd,de⟩:=ko (w:=w3) ac
   go_wp2_with (first|((with_reducible refine kV 75 rfl ?_);refine lN 7 rfl Try.func75 (qa.calls A4.out) ?_;rintro e w' ⟨rfl,⟨nd,rfl⟩⟩;refine⟨_,rfl,?_⟩))
   go_meet
   case rel=>exact⟨_,(decide ((aa.length:Int)>64)),(kD),H',⟨by first|omega|exact Nat.le_refl _⟩,⟨jZ ac.out⟩,⟨jT HB.out⟩⟩
  have H':=dm H;clear H;have⟨bz,bA,bB,bC⟩:=ko (w:=w3) ac
  go_wp2_with (first|((with_reducible refine kV 75 rfl ?_);refine lN 7 rfl Try.func75 (qa.calls A4.out) ?_;rintro e w' ⟨rfl,⟨nd,rfl⟩⟩;refine⟨_,rfl,?_⟩))
  go_meet
  case rel=>exact⟨_,(true),(kD),H',⟨by first|omega|exact Nat.le_refl _⟩,⟨jZ ac.out⟩,⟨jT HB.out⟩⟩
 case rest=>
  clear bD;obtain⟨kq,aT,rfl,HA,bo,ac,HB⟩:=hcut;cases kq with
  |zero=>exact absurd HA.out (by simp[mf.j0])
  |succ bE=>
   have H:=HA.out;clear HA;simp only [mf.j0]at H
   rcases mE H with⟨h_,H_⟩|⟨h_,H_⟩<;> (subst h_;clear H;have H:=H_;clear H_)
   ·obtain rfl:=Option.some.inj H
    go_wp2
    go_ret
    exact⟨nK,jT HB.out⟩
   have H':=dm H;clear H
   go_wp2
   go_loopg [3] bE (fun kq v3 w'=>∃ (ab:Int),v3=.int .i64 ab/\jP (mf.l0 kq ab ag aa=some r)/\jP (kq<=bE)/\jP (w'.heap[ah]? =some (.cells #[.int .i64 ag,(.slice aW aa.length az)] 31 (0,0)))/\jP (Below w.heap.size w w'))
   case atStart=>exact⟨(0),(kD),H',⟨Nat.le_refl _⟩,⟨jZ ac.out⟩,⟨jT HB.out⟩⟩
   case round=>
    clear H';(try clear c8);obtain⟨ab,rfl,HA,bp,ac,HB⟩:=hrel;cases gk with
    |zero=>exact absurd HA.out (by simp[mf.l0])
    |succ k2=>
     have H:=HA.out;clear HA;simp only [mf.l0]at H
     replace H:=mo H;rcases H with⟨bd,H⟩|⟨bd,H⟩
     ·skip
      obtain⟨dw,H⟩:=lC H;obtain⟨aZ,aX,H⟩:=kS H;(try dsimp only at H)
      rcases mE H with⟨h_,H_⟩|⟨h_,H_⟩<;> (subst h_;clear H;have H:=H_;clear H_)
      ·obtain⟨aO,a6,H⟩:=kS H;(try dsimp only at H)
       rcases mE H with⟨h_,H_⟩|⟨h_,H_⟩<;> (subst h_;clear H;have H:=H_;clear H_)
       ·skip
        replace H:=mo H;rcases H with⟨bF,H⟩|⟨bF,H⟩
        ·obtain⟨ai,aK⟩:∃j_:Int,(wrap64 (ab - 1))=j_:=⟨_,rfl⟩;replace H:(if 0<=(ai) then(if(ai)<(aa.length:Int) then((sG.f ((jQ aa (ai)).f0) ((jQ aa (ai)).f1) ((jQ aa ab).f0) ((jQ aa ab).f1)).bind fun aE=>(if aE=true then(mf.l0 k2 (wrap64 (ab+1)) ag aa) else(some false))) else(none)) else(none))=some r:=by first|(rw[aK]at H;exact H)|(simp only [aK]at H⊢;exact H)
         (try rw[aK]at aX);(try rw[aK]at a6);have df:(IntKind.i64.wrap (ab - 1))=ai:=(mP _).trans aK
         obtain⟨dx,H⟩:=lC H
         obtain⟨dy,H⟩:=lC H;obtain⟨aE,bI,H⟩:=kS H;(try dsimp only at H)
         rcases mE H with⟨h_,H_⟩|⟨h_,H_⟩<;> (subst h_;clear H;have H:=H_;clear H_)
         ·have H':=dm H;clear H;have⟨b6,b7,b8,b9⟩:=ko (w:=wr) ac;have av:0<=(ab:Int):=jY;have aw:ab<(aa.length:Int):=jY;obtain⟨aj,aM,al,am⟩:=mZ aL.out ab av aw;cases aM;replace al:=kr HB al;replace am:=kr HB am;replace av:=eq_true av;replace aw:=eq_true aw;try go_wp2_with (first|((with_reducible refine kE 4 rfl ?_);(try(refine nN (by rfl) ?_;dsimp only));refine pU 4 #[.int .i64 0,.int .i64 0] 59 ?_;intro ae hg a7 jV hb;have af:=dm (jV);have aU:=dm (kC:w.heap.size<=ae);have aV:=dm (kC:w.heap.size<=ae);replace HB:=kg HB hb;have ak:=dm (xc:ah≠ae);have ap:=dm (xe:ae≠ah);replace ac:=jU ac hb;clear hb jV hg;have dz:=ap.out;have dA:=ak.out;have⟨b_,ca,cd,ce⟩:=ko (w:=a7) af))
          have n0:jP (((a7.setCell ⟨ae,0,none⟩ (.int .i64 ((jQ aa ab).f0))).setCell ⟨ae,1,none⟩ (.int .i64 ((jQ aa ab).f1))).heap[ah]? =some (.cells #[.int .i64 ag,.slice (some aj) aa.length az] 31 (0,0))):=⟨nZ⟩;have n1:jP (((a7.setCell ⟨ae,0,none⟩ (.int .i64 ((jQ aa ab).f0))).setCell ⟨ae,1,none⟩ (.int .i64 ((jQ aa ab).f1))).heap[ae]? =some (.cells #[.int .i64 ((jQ aa ab).f0),.int .i64 ((jQ aa ab).f1)] 59 (0,0))):=⟨si⟩;have n2:jP (Below w.heap.size w ((a7.setCell ⟨ae,0,none⟩ (.int .i64 ((jQ aa ab).f0))).setCell ⟨ae,1,none⟩ (.int .i64 ((jQ aa ab).f1)))):=⟨jT HB.out⟩;(try clear ac af HB);generalize((a7.setCell ⟨ae,0,none⟩ (.int .i64 ((jQ aa ab).f0))).setCell ⟨ae,1,none⟩ (.int .i64 ((jQ aa ab).f1)))=dg at n0 n1 n2⊢;revert n0 n1 n2;intro ac af HB;replace ac:=dm (kP ac.out);replace af:=dm (kP af.out);replace HB:=dm (l6 HB.out);have aP:0<=((ai):Int):=jY;have aQ:(ai)<(aa.length:Int):=jY;obtain⟨a3,bf,aA,aB⟩:=mZ aL.out (ai) aP aQ;have aC:=aB;have aD:=aA;obtain rfl:aj=a3:=(by injection bf);replace aA:=kr HB aA;replace aB:=kr HB aB;replace aP:=eq_true aP;replace aQ:=eq_true aQ;refine mO 34 (S:=fun w'=>w'.cell? ⟨ae,0,none⟩=some (.int .i64 ((jQ aa ab).f0))/\w'.cell? ⟨ae,1,none⟩=some (.int .i64 ((jQ aa ab).f1))/\w'.cell? ⟨ah,0,none⟩=some (.int .i64 ag)/\w'.cell? ⟨ah,1,none⟩=some (.slice (some aj) aa.length az)/\w'.cell? (aj.add (((ai)).toNat*2))=some (.int .i64 ((jQ aa (ai)).f0))/\w'.cell? ⟨(aj.add (((ai)).toNat*2)).block,(aj.add (((ai)).toNat*2)).off+1,none⟩=some (.int .i64 ((jQ aa (ai)).f1))) [] ⟨jS af 0,jS af 1,jS ac 0,jS ac 1,(kr HB aD),(kr HB aC)⟩ mf.rJ mf.rD (fun hHeld HT_ HW_=>?_);generalize dg.drew=dO at ac af HB aA aB hHeld⊢;refine jR 0 27 1 ?_;refine jR 2 29 5 ?_;refine kF 1 28 7 ?_;refine kF 3 30 15 ?_;refine jR 4 31 31 ?_;refine lv 5 32 63 (fun K hK=>?_);refine mi Try.func75 (qa.calls aX.out) ?_;rintro e w' ⟨rfl,⟨nd,rfl⟩⟩;refine⟨_,rfl,?_⟩;refine hK.out _ _ ⟨jS af 0,jS af 1,jS ac 0,jS ac 1,(kr HB aD),(kr HB aC)⟩ (fun hHeld=>?_);clear hK K;refine kK 32 ?_;refine jR 6 33 127 ?_;refine jR 7 34 255 ?_;refine jR 8 35 511 ?_;refine jR 10 37 1535 ?_;refine jR 13 40 9727 ?_;refine kF 9 36 10239 ?_;refine kF 11 38 12287 ?_;refine jR 12 39 16383 ?_;refine kF 14 41 32767 ?_;refine jR 15 42 65535 ?_;refine lv 16 43 131071 (fun K hK=>?_);refine mi Try.func75 (qa.calls a6.out) ?_;rintro e w' ⟨rfl,⟨nd,rfl⟩⟩;refine⟨_,rfl,?_⟩;refine hK.out _ _ ⟨jS af 0,jS af 1,jS ac 0,jS ac 1,(kr HB aD),(kr HB aC)⟩ (fun hHeld=>?_);clear hK K;refine kK 43 ?_;refine jR 17 44 262143 ?_;refine jR 18 45 524287 ?_;refine jR 19 46 1048575 ?_;refine jR 20 47 2097151 ?_;refine jR 21 48 4194303 ?_;refine jR 22 49 8388607 ?_;refine jR 23 50 16777215 ?_;refine jR 25 52 50331647 ?_;refine jR 26 53 117440511 ?_;refine kF 24 51 134217727 ?_;refine jR 27 54 268435455 ?_;refine kF 28 55 536870911 ?_;refine kF 29 56 1073741823 ?_;refine lv 30 57 2147483647 (fun K hK=>?_);refine qA Try.func76 (kU) rfl #[.agg #[.int .i64 ((jQ aa (ai)).f0),.int .i64 ((jQ aa (ai)).f1)],.agg #[.int .i64 ((jQ aa ab).f0),.int .i64 ((jQ aa ab).f1)]] (by rfl) rfl rfl (yz) ?_;refine(sG.calls bI.out).mono ?_;rintro e dP ⟨rfl,hb⟩;refine⟨_,rfl,?_⟩;replace ac:=jU ac hb;replace af:=jU af hb;replace HB:=kg HB hb;(try clear hb);refine hK.out _ _ ⟨jS af 0,jS af 1,jS ac 0,jS ac 1,(kr HB aD),(kr HB aC)⟩ (fun hHeld=>?_);clear hK K;refine kK 57 ?_;refine jR 31 58 4294967295 ?_;refine jR 32 59 8589934591 ?_;refine jR 33 60 17179869183 ?_;refine mq (mF HT_.out (kU)) ?_;try go_wp2
          go_roundg k2
          case measure=>have:=bo.out;have:=bp.out;omega
          case rel=>exact⟨(wrap64 (ab+1)),(kD),H',⟨by have:=bo.out;have:=bp.out;omega⟩,⟨jZ ac.out⟩,⟨jT HB.out⟩⟩
         obtain rfl:=Option.some.inj H;have⟨cf,cg,ch,ci⟩:=ko (w:=wr) ac;have av:0<=(ab:Int):=jY;have aw:ab<(aa.length:Int):=jY;obtain⟨aj,aM,al,am⟩:=mZ aL.out ab av aw;cases aM;replace al:=kr HB al;replace am:=kr HB am;replace av:=eq_true av;replace aw:=eq_true aw;try go_wp2_with (first|((with_reducible refine kE 4 rfl ?_);(try(refine nN (by rfl) ?_;dsimp only));refine pU 4 #[.int .i64 0,.int .i64 0] 59 ?_;intro ae hg a8 jV hb;have af:=dm (jV);have aU:=dm (kC:w.heap.size<=ae);have aV:=dm (kC:w.heap.size<=ae);replace HB:=kg HB hb;have ak:=dm (xc:ah≠ae);have ap:=dm (xe:ae≠ah);replace ac:=jU ac hb;clear hb jV hg;have dB:=ap.out;have dC:=ak.out;have⟨cj,ck,cl,cm⟩:=ko (w:=a8) af))
         have n0:jP (((a8.setCell ⟨ae,0,none⟩ (.int .i64 ((jQ aa ab).f0))).setCell ⟨ae,1,none⟩ (.int .i64 ((jQ aa ab).f1))).heap[ah]? =some (.cells #[.int .i64 ag,.slice (some aj) aa.length az] 31 (0,0))):=⟨nZ⟩;have n1:jP (((a8.setCell ⟨ae,0,none⟩ (.int .i64 ((jQ aa ab).f0))).setCell ⟨ae,1,none⟩ (.int .i64 ((jQ aa ab).f1))).heap[ae]? =some (.cells #[.int .i64 ((jQ aa ab).f0),.int .i64 ((jQ aa ab).f1)] 59 (0,0))):=⟨si⟩;have n2:jP (Below w.heap.size w ((a8.setCell ⟨ae,0,none⟩ (.int .i64 ((jQ aa ab).f0))).setCell ⟨ae,1,none⟩ (.int .i64 ((jQ aa ab).f1)))):=⟨jT HB.out⟩;(try clear ac af HB);generalize((a8.setCell ⟨ae,0,none⟩ (.int .i64 ((jQ aa ab).f0))).setCell ⟨ae,1,none⟩ (.int .i64 ((jQ aa ab).f1)))=dh at n0 n1 n2⊢;revert n0 n1 n2;intro ac af HB;replace ac:=dm (kP ac.out);replace af:=dm (kP af.out);replace HB:=dm (l6 HB.out);have aP:0<=((ai):Int):=jY;have aQ:(ai)<(aa.length:Int):=jY;obtain⟨a3,bf,aA,aB⟩:=mZ aL.out (ai) aP aQ;have aC:=aB;have aD:=aA;obtain rfl:aj=a3:=(by injection bf);replace aA:=kr HB aA;replace aB:=kr HB aB;replace aP:=eq_true aP;replace aQ:=eq_true aQ;refine mO 34 (S:=fun w'=>w'.cell? ⟨ae,0,none⟩=some (.int .i64 ((jQ aa ab).f0))/\w'.cell? ⟨ae,1,none⟩=some (.int .i64 ((jQ aa ab).f1))/\w'.cell? ⟨ah,0,none⟩=some (.int .i64 ag)/\w'.cell? ⟨ah,1,none⟩=some (.slice (some aj) aa.length az)/\w'.cell? (aj.add (((ai)).toNat*2))=some (.int .i64 ((jQ aa (ai)).f0))/\w'.cell? ⟨(aj.add (((ai)).toNat*2)).block,(aj.add (((ai)).toNat*2)).off+1,none⟩=some (.int .i64 ((jQ aa (ai)).f1))) [] ⟨jS af 0,jS af 1,jS ac 0,jS ac 1,(kr HB aD),(kr HB aC)⟩ mf.rJ mf.rD (fun hHeld HT_ HW_=>?_);generalize dh.drew=dQ at ac af HB aA aB hHeld⊢;refine jR 0 27 1 ?_;refine jR 2 29 5 ?_;refine kF 1 28 7 ?_;refine kF 3 30 15 ?_;refine jR 4 31 31 ?_;refine lv 5 32 63 (fun K hK=>?_);refine mi Try.func75 (qa.calls aX.out) ?_;rintro e w' ⟨rfl,⟨nd,rfl⟩⟩;refine⟨_,rfl,?_⟩;refine hK.out _ _ ⟨jS af 0,jS af 1,jS ac 0,jS ac 1,(kr HB aD),(kr HB aC)⟩ (fun hHeld=>?_);clear hK K;refine kK 32 ?_;refine jR 6 33 127 ?_;refine jR 7 34 255 ?_;refine jR 8 35 511 ?_;refine jR 10 37 1535 ?_;refine jR 13 40 9727 ?_;refine kF 9 36 10239 ?_;refine kF 11 38 12287 ?_;refine jR 12 39 16383 ?_;refine kF 14 41 32767 ?_;refine jR 15 42 65535 ?_;refine lv 16 43 131071 (fun K hK=>?_);refine mi Try.func75 (qa.calls a6.out) ?_;rintro e w' ⟨rfl,⟨nd,rfl⟩⟩;refine⟨_,rfl,?_⟩;refine hK.out _ _ ⟨jS af 0,jS af 1,jS ac 0,jS ac 1,(kr HB aD),(kr HB aC)⟩ (fun hHeld=>?_);clear hK K;refine kK 43 ?_;refine jR 17 44 262143 ?_;refine jR 18 45 524287 ?_;refine jR 19 46 1048575 ?_;refine jR 20 47 2097151 ?_;refine jR 21 48 4194303 ?_;refine jR 22 49 8388607 ?_;refine jR 23 50 16777215 ?_;refine jR 25 52 50331647 ?_;refine jR 26 53 117440511 ?_;refine kF 24 51 134217727 ?_;refine jR 27 54 268435455 ?_;refine kF 28 55 536870911 ?_;refine kF 29 56 1073741823 ?_;refine lv 30 57 2147483647 (fun K hK=>?_);refine qA Try.func76 (kU) rfl #[.agg #[.int .i64 ((jQ aa (ai)).f0),.int .i64 ((jQ aa (ai)).f1)],.agg #[.int .i64 ((jQ aa ab).f0),.int .i64 ((jQ aa ab).f1)]] (by rfl) rfl rfl (yz) ?_;refine(sG.calls bI.out).mono ?_;rintro e dR ⟨rfl,hb⟩;refine⟨_,rfl,?_⟩;replace ac:=jU ac hb;replace af:=jU af hb;replace HB:=kg HB hb;(try clear hb);refine hK.out _ _ ⟨jS af 0,jS af 1,jS ac 0,jS ac 1,(kr HB aD),(kr HB aC)⟩ (fun hHeld=>?_);clear hK K;refine kK 57 ?_;refine jR 31 58 4294967295 ?_;refine jR 32 59 8589934591 ?_;refine jR 33 60 17179869183 ?_;refine mq (mF HT_.out (kU)) ?_;try go_wp2
         go_ret
         exact⟨by first|rfl|(simp[pg,pq]<;>rfl)|(simp only [←aK];first|rfl|(simp[pg,pq]<;>rfl))|(simp[*,pg,pq]<;>rfl),jT HB.out⟩
        have H':=dm H;clear H;have⟨cn,co,cp,cq⟩:=ko (w:=wr) ac;have av:0<=(ab:Int):=jY;have aw:ab<(aa.length:Int):=jY;obtain⟨aj,aM,al,am⟩:=mZ aL.out ab av aw;cases aM;replace al:=kr HB al;replace am:=kr HB am;replace av:=eq_true av;replace aw:=eq_true aw;try go_wp2_with (first|((with_reducible refine kE 4 rfl ?_);(try(refine nN (by rfl) ?_;dsimp only));refine pU 4 #[.int .i64 0,.int .i64 0] 59 ?_;intro ae hg a9 jV hb;have af:=dm (jV);have aU:=dm (kC:w.heap.size<=ae);have aV:=dm (kC:w.heap.size<=ae);replace HB:=kg HB hb;have ak:=dm (xc:ah≠ae);have ap:=dm (xe:ae≠ah);replace ac:=jU ac hb;clear hb jV hg;have dD:=ap.out;have dE:=ak.out;have⟨cr,ct,cu,cv⟩:=ko (w:=a9) af))
        have n0:jP (((a9.setCell ⟨ae,0,none⟩ (.int .i64 ((jQ aa ab).f0))).setCell ⟨ae,1,none⟩ (.int .i64 ((jQ aa ab).f1))).heap[ah]? =some (.cells #[.int .i64 ag,.slice (some aj) aa.length az] 31 (0,0))):=⟨nZ⟩;have n1:jP (((a9.setCell ⟨ae,0,none⟩ (.int .i64 ((jQ aa ab).f0))).setCell ⟨ae,1,none⟩ (.int .i64 ((jQ aa ab).f1))).heap[ae]? =some (.cells #[.int .i64 ((jQ aa ab).f0),.int .i64 ((jQ aa ab).f1)] 59 (0,0))):=⟨si⟩;have n2:jP (Below w.heap.size w ((a9.setCell ⟨ae,0,none⟩ (.int .i64 ((jQ aa ab).f0))).setCell ⟨ae,1,none⟩ (.int .i64 ((jQ aa ab).f1)))):=⟨jT HB.out⟩;(try clear ac af HB);generalize((a9.setCell ⟨ae,0,none⟩ (.int .i64 ((jQ aa ab).f0))).setCell ⟨ae,1,none⟩ (.int .i64 ((jQ aa ab).f1)))=di at n0 n1 n2⊢;revert n0 n1 n2;intro ac af HB;replace ac:=dm (kP ac.out);replace af:=dm (kP af.out);replace HB:=dm (l6 HB.out);refine mO 34 (S:=fun w'=>w'.cell? ⟨ae,0,none⟩=some (.int .i64 ((jQ aa ab).f0))/\w'.cell? ⟨ae,1,none⟩=some (.int .i64 ((jQ aa ab).f1))/\w'.cell? ⟨ah,0,none⟩=some (.int .i64 ag)/\w'.cell? ⟨ah,1,none⟩=some (.slice (some aj) aa.length az)) [] ⟨jS af 0,jS af 1,jS ac 0,jS ac 1⟩ mf.rJ mf.rD (fun hHeld HT_ HW_=>?_);generalize di.drew=dS at ac af HB hHeld⊢;refine jR 0 27 1 ?_;refine jR 2 29 5 ?_;refine kF 1 28 7 ?_;refine kF 3 30 15 ?_;refine jR 4 31 31 ?_;refine lv 5 32 63 (fun K hK=>?_);refine mi Try.func75 (qa.calls aX.out) ?_;rintro e w' ⟨rfl,⟨nd,rfl⟩⟩;refine⟨_,rfl,?_⟩;refine hK.out _ _ ⟨jS af 0,jS af 1,jS ac 0,jS ac 1⟩ (fun hHeld=>?_);clear hK K;refine kK 32 ?_;refine jR 6 33 127 ?_;refine jR 7 34 255 ?_;refine jR 8 35 511 ?_;refine jR 10 37 1535 ?_;refine jR 13 40 9727 ?_;refine kF 9 36 10239 ?_;refine kF 11 38 12287 ?_;refine jR 12 39 16383 ?_;refine kF 14 41 32767 ?_;refine jR 15 42 65535 ?_;refine lv 16 43 131071 (fun K hK=>?_);refine mi Try.func75 (qa.calls a6.out) ?_;rintro e w' ⟨rfl,⟨nd,rfl⟩⟩;refine⟨_,rfl,?_⟩;refine hK.out _ _ ⟨jS af 0,jS af 1,jS ac 0,jS ac 1⟩ (fun hHeld=>?_);clear hK K;refine kK 43 ?_;refine jR 17 44 262143 ?_;refine jR 18 45 524287 ?_;refine jR 19 46 1048575 ?_;refine jR 20 47 2097151 ?_;refine jR 21 48 4194303 ?_;refine jR 22 49 8388607 ?_;refine lg 23 50 16777215 ?_;refine lg 24 51 33554431 ?_;refine lg 25 52 67108863 ?_;refine lg 26 53 134217727 ?_;refine lg 27 54 268435455 ?_;refine lg 28 55 536870911 ?_;refine lg 29 56 1073741823 ?_;refine lg 30 57 2147483647 ?_;refine lg 31 58 4294967295 ?_;refine jR 32 59 8589934591 ?_;refine jR 33 60 17179869183 ?_;refine mq (mF HT_.out (kU)) ?_;try go_wp2
        go_roundg k2
        case measure=>have:=bo.out;have:=bp.out;omega
        case rel=>exact⟨(wrap64 (ab+1)),(kD),H',⟨by have:=bo.out;have:=bp.out;omega⟩,⟨jZ ac.out⟩,⟨jT HB.out⟩⟩
       obtain rfl:=Option.some.inj H;have⟨cw,cx,cy,cz⟩:=ko (w:=wr) ac;have av:0<=(ab:Int):=jY;have aw:ab<(aa.length:Int):=jY;obtain⟨aj,aM,al,am⟩:=mZ aL.out ab av aw;cases aM;replace al:=kr HB al;replace am:=kr HB am;replace av:=eq_true av;replace aw:=eq_true aw;try go_wp2_with (first|((with_reducible refine kE 4 rfl ?_);(try(refine nN (by rfl) ?_;dsimp only));refine pU 4 #[.int .i64 0,.int .i64 0] 59 ?_;intro ae hg a_ jV hb;have af:=dm (jV);have aU:=dm (kC:w.heap.size<=ae);have aV:=dm (kC:w.heap.size<=ae);replace HB:=kg HB hb;have ak:=dm (xc:ah≠ae);have ap:=dm (xe:ae≠ah);replace ac:=jU ac hb;clear hb jV hg;have dF:=ap.out;have dG:=ak.out;have⟨cA,cD,cE,cF⟩:=ko (w:=a_) af))
       have n0:jP (((a_.setCell ⟨ae,0,none⟩ (.int .i64 ((jQ aa ab).f0))).setCell ⟨ae,1,none⟩ (.int .i64 ((jQ aa ab).f1))).heap[ah]? =some (.cells #[.int .i64 ag,.slice (some aj) aa.length az] 31 (0,0))):=⟨nZ⟩;have n1:jP (((a_.setCell ⟨ae,0,none⟩ (.int .i64 ((jQ aa ab).f0))).setCell ⟨ae,1,none⟩ (.int .i64 ((jQ aa ab).f1))).heap[ae]? =some (.cells #[.int .i64 ((jQ aa ab).f0),.int .i64 ((jQ aa ab).f1)] 59 (0,0))):=⟨si⟩;have n2:jP (Below w.heap.size w ((a_.setCell ⟨ae,0,none⟩ (.int .i64 ((jQ aa ab).f0))).setCell ⟨ae,1,none⟩ (.int .i64 ((jQ aa ab).f1)))):=⟨jT HB.out⟩;(try clear ac af HB);generalize((a_.setCell ⟨ae,0,none⟩ (.int .i64 ((jQ aa ab).f0))).setCell ⟨ae,1,none⟩ (.int .i64 ((jQ aa ab).f1)))=dj at n0 n1 n2⊢;revert n0 n1 n2;intro ac af HB;replace ac:=dm (kP ac.out);replace af:=dm (kP af.out);replace HB:=dm (l6 HB.out);refine mO 34 (S:=fun w'=>w'.cell? ⟨ae,0,none⟩=some (.int .i64 ((jQ aa ab).f0))/\w'.cell? ⟨ae,1,none⟩=some (.int .i64 ((jQ aa ab).f1))/\w'.cell? ⟨ah,0,none⟩=some (.int .i64 ag)/\w'.cell? ⟨ah,1,none⟩=some (.slice (some aj) aa.length az)) [] ⟨jS af 0,jS af 1,jS ac 0,jS ac 1⟩ mf.rJ mf.rD (fun hHeld HT_ HW_=>?_);generalize dj.drew=dT at ac af HB hHeld⊢;refine jR 0 27 1 ?_;refine jR 2 29 5 ?_;refine kF 1 28 7 ?_;refine kF 3 30 15 ?_;refine jR 4 31 31 ?_;refine lv 5 32 63 (fun K hK=>?_);refine mi Try.func75 (qa.calls aX.out) ?_;rintro e w' ⟨rfl,⟨nd,rfl⟩⟩;refine⟨_,rfl,?_⟩;refine hK.out _ _ ⟨jS af 0,jS af 1,jS ac 0,jS ac 1⟩ (fun hHeld=>?_);clear hK K;refine kK 32 ?_;refine jR 6 33 127 ?_;refine jR 7 34 255 ?_;refine jR 8 35 511 ?_;refine jR 10 37 1535 ?_;refine jR 13 40 9727 ?_;refine kF 9 36 10239 ?_;refine kF 11 38 12287 ?_;refine jR 12 39 16383 ?_;refine kF 14 41 32767 ?_;refine jR 15 42 65535 ?_;refine lv 16 43 131071 (fun K hK=>?_);refine mi Try.func75 (qa.calls a6.out) ?_;rintro e w' ⟨rfl,⟨nd,rfl⟩⟩;refine⟨_,rfl,?_⟩;refine hK.out _ _ ⟨jS af 0,jS af 1,jS ac 0,jS ac 1⟩ (fun hHeld=>?_);clear hK K;refine kK 43 ?_;refine jR 17 44 262143 ?_;refine jR 18 45 524287 ?_;refine jR 19 46 1048575 ?_;refine lg 20 47 2097151 ?_;refine lg 21 48 4194303 ?_;refine lg 22 49 8388607 ?_;refine lg 23 50 16777215 ?_;refine lg 24 51 33554431 ?_;refine lg 25 52 67108863 ?_;refine lg 26 53 134217727 ?_;refine lg 27 54 268435455 ?_;refine lg 28 55 536870911 ?_;refine lg 29 56 1073741823 ?_;refine lg 30 57 2147483647 ?_;refine lg 31 58 4294967295 ?_;refine lg 32 59 8589934591 ?_;refine jR 33 60 17179869183 ?_;refine mq (mF HT_.out (kU)) ?_;try go_wp2
       go_ret
       exact⟨nK,jT HB.out⟩
      obtain rfl:=Option.some.inj H;have⟨cG,cH,cI,cJ⟩:=ko (w:=wr) ac;have av:0<=(ab:Int):=jY;have aw:ab<(aa.length:Int):=jY;obtain⟨aj,aM,al,am⟩:=mZ aL.out ab av aw;cases aM;replace al:=kr HB al;replace am:=kr HB am;replace av:=eq_true av;replace aw:=eq_true aw;try go_wp2_with (first|((with_reducible refine kE 4 rfl ?_);(try(refine nN (by rfl) ?_;dsimp only));refine pU 4 #[.int .i64 0,.int .i64 0] 59 ?_;intro ae hg ba jV hb;have af:=dm (jV);have aU:=dm (kC:w.heap.size<=ae);have aV:=dm (kC:w.heap.size<=ae);replace HB:=kg HB hb;have ak:=dm (xc:ah≠ae);have ap:=dm (xe:ae≠ah);replace ac:=jU ac hb;clear hb jV hg;have dH:=ap.out;have dI:=ak.out;have⟨cL,cM,cN,cO⟩:=ko (w:=ba) af))
      have n0:jP (((ba.setCell ⟨ae,0,none⟩ (.int .i64 ((jQ aa ab).f0))).setCell ⟨ae,1,none⟩ (.int .i64 ((jQ aa ab).f1))).heap[ah]? =some (.cells #[.int .i64 ag,.slice (some aj) aa.length az] 31 (0,0))):=⟨nZ⟩;have n1:jP (((ba.setCell ⟨ae,0,none⟩ (.int .i64 ((jQ aa ab).f0))).setCell ⟨ae,1,none⟩ (.int .i64 ((jQ aa ab).f1))).heap[ae]? =some (.cells #[.int .i64 ((jQ aa ab).f0),.int .i64 ((jQ aa ab).f1)] 59 (0,0))):=⟨si⟩;have n2:jP (Below w.heap.size w ((ba.setCell ⟨ae,0,none⟩ (.int .i64 ((jQ aa ab).f0))).setCell ⟨ae,1,none⟩ (.int .i64 ((jQ aa ab).f1)))):=⟨jT HB.out⟩;(try clear ac af HB);generalize((ba.setCell ⟨ae,0,none⟩ (.int .i64 ((jQ aa ab).f0))).setCell ⟨ae,1,none⟩ (.int .i64 ((jQ aa ab).f1)))=dk at n0 n1 n2⊢;revert n0 n1 n2;intro ac af HB;replace ac:=dm (kP ac.out);replace af:=dm (kP af.out);replace HB:=dm (l6 HB.out);refine mO 34 (S:=fun w'=>w'.cell? ⟨ae,0,none⟩=some (.int .i64 ((jQ aa ab).f0))/\w'.cell? ⟨ae,1,none⟩=some (.int .i64 ((jQ aa ab).f1))/\w'.cell? ⟨ah,0,none⟩=some (.int .i64 ag)/\w'.cell? ⟨ah,1,none⟩=some (.slice (some aj) aa.length az)) [] ⟨jS af 0,jS af 1,jS ac 0,jS ac 1⟩ mf.rJ mf.rD (fun hHeld HT_ HW_=>?_);generalize dk.drew=dU at ac af HB hHeld⊢;refine jR 0 27 1 ?_;refine jR 2 29 5 ?_;refine kF 1 28 7 ?_;refine kF 3 30 15 ?_;refine jR 4 31 31 ?_;refine lv 5 32 63 (fun K hK=>?_);refine mi Try.func75 (qa.calls aX.out) ?_;rintro e w' ⟨rfl,⟨nd,rfl⟩⟩;refine⟨_,rfl,?_⟩;refine hK.out _ _ ⟨jS af 0,jS af 1,jS ac 0,jS ac 1⟩ (fun hHeld=>?_);clear hK K;refine kK 32 ?_;refine jR 6 33 127 ?_;refine jR 7 34 255 ?_;refine lg 8 35 511 ?_;refine lg 9 36 1023 ?_;refine lg 10 37 2047 ?_;refine lg 11 38 4095 ?_;refine lg 12 39 8191 ?_;refine lg 13 40 16383 ?_;refine lg 14 41 32767 ?_;refine lg 15 42 65535 ?_;refine lg 16 43 131071 ?_;refine lg 17 44 262143 ?_;refine jR 18 45 524287 ?_;refine jR 19 46 1048575 ?_;refine lg 20 47 2097151 ?_;refine lg 21 48 4194303 ?_;refine lg 22 49 8388607 ?_;refine lg 23 50 16777215 ?_;refine lg 24 51 33554431 ?_;refine lg 25 52 67108863 ?_;refine lg 26 53 134217727 ?_;refine lg 27 54 268435455 ?_;refine lg 28 55 536870911 ?_;refine lg 29 56 1073741823 ?_;refine lg 30 57 2147483647 ?_;refine lg 31 58 4294967295 ?_;refine lg 32 59 8589934591 ?_;refine jR 33 60 17179869183 ?_;refine mq (mF HT_.out (kU)) ?_;try go_wp2
      go_ret
      exact⟨nK,jT HB.out⟩
     obtain rfl:=Option.some.inj H;have⟨cP,cQ,cS,cT⟩:=ko (w:=wr) ac
     go_wp2
     go_ret
     exact⟨nK,jT HB.out⟩
theorem Ay (d:Nat) (w:World) (x0 y0:Int) (x1 y1:Int):
  (Op.equalIn (d+2) 59 (.agg #[.int .i64 x0,.int .i64 x1]) (.agg #[.int .i64 y0,.int .i64 y1])).run Try.prog w=.ok (x0==y0&&(x1==y1)) w:=by
 refine H7 Try.underlying59 (by kernel_rfl) ?_;refine H8 (by rfl) (by go_simp;rfl) (by go_simp;rfl) (by go_simp) ?_;exact H9 (by rfl) (by go_simp;rfl) (by go_simp;rfl) (by go_simp)
end Go.Proofs.Ytgeonpciodepgaa.P
