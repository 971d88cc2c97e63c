/- The proof's parts ahead of the row: of no condition of their own. -/
import Derived.ArgAppend
import Derived.Below
import Derived.BigQuiet
import Derived.ChangeSlices
import Derived.Deep.AppendLies
import Derived.Deep.CutBlock
import Derived.Deep.DeepCutAuto
import Derived.Deep.Draws
import Derived.Deep.LoopGhost
import Derived.Deep.OwnRows
import Derived.Deep.QuietTactic
import Derived.Deep.RegionHeld3
import Derived.KernelRfl
import Derived.Laws.BitsLemmas
import Derived.Laws.BytesArg
import Derived.Laws.IdiomCopy
import Derived.Laws.MakeOwn
import Derived.Laws.OwnMore
import Derived.Laws.Rows
import Derived.Laws.Slices
import Derived.Laws.StructEq
import Derived.Lib.AppendStr
import Derived.Lib.ConvBytes
import Derived.Maps.AppendAt
import Derived.OrdersHeld
import Derived.OwnWalk
import Derived.RowKit
import Derived.RowKit3
import Derived.SizedLaws
import Derived.Tactics
import Derived.WalkKit
import Derived.WalkLawsBesides
import Derived.WalkSpells
import Derived.WideLaws
import Derived.Test.YtgeonpciodepgaaProg
set_option linter.unusedVariables false
set_option linter.unusedSimpArgs false
namespace Go.Proofs.YtgeonpciodepgaaW.PrintWords
open Go.RowKit
structure lm (p:Prop):Prop where mk::(out:p)
structure pE (w w':World):Prop where mk::(out:∃n,w'=w.drewN n)
theorem pE.refl (w:World):pE w w:=⟨⟨0,rfl⟩⟩
theorem pE.step {w w':World}(h:pE w w') (n:Nat):pE w (w'.drewN n):=by
  obtain⟨m,rfl⟩:=h
  exact⟨⟨m+n,World.drewN_drewN ..⟩⟩
theorem pE.grown {w w':World}(h:pE w w'):Grown w w':=by
  obtain⟨n,rfl⟩:=h
  induction n with
  |zero=>exact Grown.refl _
  |succ n ih=>rw[←World.drew_drewN];exact Grown.drew ih
theorem pE.below {w w':World}(h:pE w w'):Below w.heap.size w w':=by
  obtain⟨n,rfl⟩:=h
  induction n with
  |zero=>exact Below.refl _ _
  |succ n ih=>rw[←World.drew_drewN];exact ih.drew
def rd (xs:List Int) (i:Int):Int:=xs.getD i.toNat 0
def bt (s:ByteArray) (i:Int):Int:=if h:i.toNat<s.size then((s[i.toNat]'h).toNat:Int) else 0
def bools (xs:List Bool):List Value:=xs.map fun x=> .bool x
theorem rZ {w W:World}(h:Below w.heap.size w W) (o:Obj):Below w.heap.size w (W.alloc o):=h.alloc h.size o
theorem zF {B:Nat}{w W:World}(h:Below B w W):Below B w W.drew:=⟨h.os,h.tape,h.output,h.size,h.block⟩
theorem t_ {B:Nat}{w W:World}(h:Below B w W) (n:Nat):Below B w (W.drewN n):=⟨h.os,h.tape,h.output,h.size,h.block⟩
theorem Ku {B:Nat}{w w1 w2:World}(h:Below B w w1) (hB:B<=w1.heap.size) (k:Below w1.heap.size w1 w2):Below B w w2:=
  h.trans ⟨k.os,k.tape,k.output,k.size,fun i hi=>k.block i (Nat.lt_of_lt_of_le hi hB)⟩
theorem Ho {w w1:World}(h:Below w.heap.size w w1) (row:Option Nat):w.grownBy w1 row:=⟨h.os,h.tape,h.output,h.size,fun i hi _=>h.block i hi⟩
theorem z8 {w w1:World}(h:Below w.heap.size w w1) {a:Addr}{v:Value}(hc:w.cell? a=some v):w1.cell? a=some v:=(h.cell (World.block_lt_of_cell? w a hc)).trans hc
theorem add_plain (g j:Nat):(⟨g,0,none⟩:Addr).add j=⟨g,j,none⟩:=by unfold Addr.add;split<;>simp_all
def uG (w:World) (k:IntKind) (A:Option Addr) (n:Nat) (xs:List Int):Prop:=
  xs.length=n/\n<=9223372036854775807/\(0<n->∃ad,A=some ad/\∀j,j<n->w.cell? (ad.add j)=some (.int k (xs.getD j 0)))
theorem uG.at_ {w:World}{k:IntKind}{A:Option Addr}{n:Nat}{xs:List Int}(h:uG w k A n xs) (i:Int) (h0:0<=i) (h1:i<n):∃ad,A=some ad/\w.cell? (ad.add i.toNat)=some (.int k (rd xs i)):=by
  obtain⟨ad,e,hc⟩:=h.2.2 (by omega)
  exact⟨ad,e,hc _ (by omega)⟩
theorem uG.below {w w1:World}{k:IntKind}{A:Option Addr}{n:Nat}{xs:List Int}(h:uG w k A n xs) (hb:Below w.heap.size w w1):uG w1 k A n xs:=
  ⟨h.1,h.2.1,fun hn=>by
    obtain⟨ad,e,hc⟩:=h.2.2 hn
    exact⟨ad,e,fun j hj=>z8 hb (hc j hj)⟩⟩
theorem MN (W:World) (base:Nat) (e:TypeId) (size:Nat):W.ownsRow base e size (.slice none 0 0) 0 []:=⟨by simp,.inl ⟨rfl,rfl⟩⟩
theorem zk {w:World}{base:Nat}{e:TypeId}{size n:Nat}{v:Value}{xs:List Value}(h:w.ownsRow base e size v n xs) (k:Nat) (hk:v.ownBlock=some k):base<=k:=by
  rcases h.2 with⟨rfl,_⟩|⟨g,cap,cur,rfl,hb,_⟩
  · simp[Value.ownBlock]at hk
  have:g=k:=by simpa [Value.ownBlock] using hk
  omega
theorem Ip {w:World}{base:Nat}{e:TypeId}{size n:Nat}{v:Value}{xs:List Value}(h:w.ownsRow base e size v n xs) (k:Nat) (hk:v.ownBlock=some k):k<w.heap.size:=by
  rcases h.2 with⟨rfl,_⟩|⟨g,cap,cur,rfl,hb,hh,_⟩
  · simp[Value.ownBlock]at hk
  have:g=k:=by simpa [Value.ownBlock] using hk
  subst this
  exact(Array.getElem?_eq_some_iff.1 hh).1
theorem M4 {w w1:World}{base:Nat}{e:TypeId}{size n:Nat}{v:Value}{xs:List Value}(h:w.ownsRow base e size v n xs) (hb:Below w.heap.size w w1):w1.ownsRow base e size v n xs:=
  h.kept (Ho hb none) (by cases v.ownBlock<;>simp)
theorem MO {w w1:World}{base:Nat}{e:TypeId}{size n:Nat}{v:Value}{xs:List Value}(h:w.ownsRow base e size v n xs) {row:Option Nat}(hg:w.grownBy w1 row) (hne:v.ownBlock=none\/v.ownBlock≠row):w1.ownsRow base e size v n xs:=h.kept hg hne
theorem uG.uF {w:World}{k:IntKind}{A:Option Addr}{n:Nat}{xs:List Int}(h:uG w k A n xs) (i:Nat) (hi:i<=n):uG w k A i (xs.take i):=by
  refine⟨by rw[List.length_take,h.1];omega,by have:=h.2.1;omega,fun hp=>?_⟩
  obtain⟨ad,e,hc⟩:=h.2.2 (by omega)
  refine⟨ad,e,fun j hj=>?_⟩
  rw[hc j (by omega)]
  simp[List.getD_eq_getElem?_getD,hj]
theorem uG.Ep {w:World}{k:IntKind}{A:Option Addr}{n c:Nat}{xs:List Int}(h:uG w k A n xs) (i:Nat) (hi:i<=n) (hc:n<=c):uG w k (if c=i then A else A.map (·.add i)) (n - i) (xs.drop i):=by
  refine⟨by rw[List.length_drop,h.1],by have:=h.2.1;omega,fun hp=>?_⟩
  obtain⟨ad,rfl,hcell⟩:=h.2.2 (by omega)
  rw[if_neg (by omega)]
  refine⟨ad.add i,rfl,fun j hj=>?_⟩
  have ha:(ad.add i).add j=ad.add (i+j):=by
    unfold Addr.add
    by_cases h1:i=0<;>by_cases h2:j=0<;>simp[h1,h2,Nat.add_assoc]
  rw[ha,hcell (i+j) (by omega)]
  simp[List.getD_eq_getElem?_getD,List.getElem?_drop]
def LeO {α:Type}(a b:Option α):Prop:=∀r,a=some r->b=some r
theorem LeO.refl {α:Type}(a:Option α):LeO a a:=fun _ h=>h
theorem LeO.none {α:Type}(b:Option α):LeO Option.none b:=fun _ h=>by cases h
theorem LeO.trans {α:Type}{a b c:Option α}(h:LeO a b) (k:LeO b c):LeO a c:=fun r hr=>k r (h r hr)
theorem LeO.ite {α:Type}{c:Prop} [Decidable c] {a a' b b':Option α}(h:LeO a a') (k:LeO b b'):LeO (if c then a else b) (if c then a' else b'):=by
  split
  · exact h
  exact k
theorem LeO.bind {α β:Type}{a a':Option α}{f f':α->Option β}(h:LeO a a') (k:∀x,LeO (f x) (f' x)):LeO (a.bind f) (a'.bind f'):=by
  intro r hr
  obtain⟨x,hx,hf⟩:=Option.bind_eq_some_iff.1 hr
  exact Option.bind_eq_some_iff.2 ⟨x,h x hx,k x r hf⟩
theorem LeO.map {α β:Type}{a a':Option α}(f:α->β) (h:LeO a a'):LeO (a.map f) (a'.map f):=by
  intro r hr
  obtain⟨x,hx,hf⟩:=Option.map_eq_some_iff.1 hr
  exact Option.map_eq_some_iff.2 ⟨x,h x hx,hf⟩
theorem Ij {α:Type}{g:Nat->Option α}(h:∀k,LeO (g k) (g (k+1))) (k:Nat):∀j,LeO (g k) (g (k+j))
  |0=>LeO.refl _
  |j+1=>(Ij h k j).trans (h (k+j))
theorem DI {α:Type}{g:Nat->Option α}(h:∀k,LeO (g k) (g (k+1))) {k k':Nat}(hk:k<=k') {r:α}(hr:g k=some r):g k'=some r:=by
  have:=Ij h k (k' - k) r hr
  rwa [Nat.add_sub_cancel' hk]at this
theorem together {α β:Type}{g:Nat->Option α}{f:Nat->Option β}(hg:∀k,LeO (g k) (g (k+1))) (hf:∀k,LeO (f k) (f (k+1))) {r:α}{q:β}(h:∃k,g k=some r) (h':∃k,f k=some q):∃k,g k=some r/\f k=some q:=by
  obtain⟨k,hk⟩:=h
  obtain⟨k',hk'⟩:=h'
  exact⟨max k k',DI hg (Nat.le_max_left _ _) hk,DI hf (Nat.le_max_right _ _) hk'⟩
def oH {α:Type}(R:α->List Value->Prop) (size:Nat) (ps:List α) (cs:List Value):Prop:=
  cs.length=ps.length*size/\∀j p,ps[j]? =some p->R p ((cs.drop (j*size)).take size)
theorem oH.none {α:Type}(R:α->List Value->Prop) (size:Nat):oH R size [] []:=⟨by simp,fun j p h=>by simp at h⟩
theorem oH.snoc {α:Type}{R:α->List Value->Prop}{size:Nat}{ps:List α}{cs c:List Value}{p:α}(h:oH R size ps cs) (hp:R p c) (hc:c.length=size):oH R size (ps++[p]) (cs++c):=by
  refine⟨by rw[List.length_append,h.1,hc,List.length_append,List.length_singleton,Nat.add_mul,Nat.one_mul],fun j q hq=>?_⟩
  rcases Nat.lt_or_ge j ps.length with hj|hj
  · rw[List.getElem?_append_left hj]at hq
    have h1:j*size+size<=cs.length:=by rw[h.1,←Nat.succ_mul];exact Nat.mul_le_mul_right _ hj
    have h2:=h.2 j q hq
    rw[List.drop_append_of_le_length (by omega),List.take_append_of_le_length (by rw[List.length_drop];omega)]
    exact h2
  have hj':j=ps.length:=by
    have:=(List.getElem?_eq_some_iff.1 hq).1
    rw[List.length_append,List.length_singleton]at this
    omega
  subst hj'
  have hq':p=q:=by simpa using hq
  subst hq'
  rw[←h.1,List.drop_left,←hc,List.take_length]
  exact hp
theorem oH.tY {α:Type}{R R':α->List Value->Prop}{size:Nat}{ps:List α}{cs:List Value}(h:oH R size ps cs) (hR:∀p c,R p c->R' p c):oH R' size ps cs:=⟨h.1,fun j p hj=>hR _ _ (h.2 j p hj)⟩
def uy {α:Type}(R:α->List Value->Prop) (size:Nat) (w:World) (A:Option Addr) (n:Nat) (ps:List α):Prop:=
  ps.length=n/\n<=9223372036854775807/\(0<n->∃ad,A=some ad/\∀j p,ps[j]? =some p->∃c,c.length=size/\R p c/\∀i u,c[i]? =some u->w.cell? (ad.add (j*size+i))=some u)
theorem uy.LD {α:Type}{R:α->List Value->Prop}{size:Nat}{w:World}{A:Option Addr}{n:Nat}{ps:List α}(h:uy R size w A n ps) (d:α) (i:Int) (h0:0<=i) (h1:i<n):
    ∃ad c,A=some ad/\c.length=size/\R (ps.getD i.toNat d) c/\∀j u,c[j]? =some u->w.cell? (ad.add (i.toNat*size+j))=some u:=by
  obtain⟨ad,e,hc⟩:=h.2.2 (by omega)
  have hl:i.toNat<ps.length:=by have:=h.1;omega
  obtain⟨c,hs,hr,hcell⟩:=hc i.toNat _ (List.getElem?_eq_getElem hl)
  refine⟨ad,c,e,hs,?_,hcell⟩
  rw[List.getD_eq_getElem?_getD,List.getElem?_eq_getElem hl]
  exact hr
theorem uy.tY {α:Type}{R R':α->List Value->Prop}{size:Nat}{w w1:World}{A:Option Addr}{n:Nat}{ps:List α}(h:uy R size w A n ps) (hb:Below w.heap.size w w1) (hR:∀p c,R p c->R' p c):uy R' size w1 A n ps:=
  ⟨h.1,h.2.1,fun hn=>by
    obtain⟨ad,e,hc⟩:=h.2.2 hn
    refine⟨ad,e,fun j p hj=>?_⟩
    obtain⟨c,hs,hr,hcell⟩:=hc j p hj
    exact⟨c,hs,hR _ _ hr,fun i u hu=>z8 hb (hcell i u hu)⟩⟩
theorem MP {α:Type}{R:α->List Value->Prop}{w:World}{base n size:Nat}{e:TypeId}{v:Value}{ps:List α}{cs:List Value}(h:w.ownsRow base e size v n cs) (hR:oH R size ps cs) (hn:ps.length=n):
    ∃A c,v=.slice A n c/\uy R size w A n ps:=by
  rcases Nat.eq_zero_or_pos n with h0|h0
  · rcases h.2 with⟨rfl,rfl⟩|⟨g,cap,cur,rfl,_⟩
    · exact⟨none,0,rfl,hn,by omega,fun hp=>absurd hp (by omega)⟩
    exact⟨_,cap,rfl,hn,by omega,fun hp=>absurd hp (by omega)⟩
  obtain⟨g,cap,rfl,_,_⟩:=h.form h0
  have hm:n<=9223372036854775807:=by
    rcases h.2 with⟨_,h1⟩|⟨g',cap',cur,he,_,_,h1,h2,_⟩
    · omega
    simp only [maxLen]at h2
    omega
  refine⟨_,cap,rfl,hn,hm,fun _=>⟨_,rfl,fun j p hj=>⟨(cs.drop (j*size)).take size,?_,hR.2 j p hj,fun i u hu=>?_⟩⟩⟩
  · have hjl:=(List.getElem?_eq_some_iff.1 hj).1
    have h1:j*size+size<=cs.length:=by rw[hR.1,←Nat.succ_mul];exact Nat.mul_le_mul_right _ hjl
    rw[List.length_take,List.length_drop]
    omega
  refine h.cells (g:=g) rfl _ u ?_
  rw[List.getElem?_take]at hu
  split at hu
  · rw[List.getElem?_drop]at hu
    exact hu
  cases hu
theorem Kg (ad:Addr) (m j:Nat) (hj:0<j):ad.add (m+j)=⟨(ad.add m).block,(ad.add m).off+j,none⟩:=by
  unfold Addr.add
  by_cases hm:m=0
  · subst hm
    simp[Nat.ne_of_gt hj]
  simp[hm,Nat.add_assoc]
section
variable {P:Program}{ops:Array Oper}{rest:List Oper}{o:Oper}{a:Act}{Q:Exit->Act->World->Prop}
theorem Iw {w0 W:World}(base:Nat) (hgd:o.guard=none) (s x:Operand) (t e:TypeId) (z:Value) (size bytes:Nat)
    (ho:o.op=.call {callee:=.builtin .append,args:= #[s,x],argTypes:= #[t,t]})
    (ht:P.underlying t=some (.slice e)) (hinfo:(P.info? e).map (fun i=>(i.zero,i.size,i.bytes))=some (some z,size,bytes)) (hz:z.cells.size=size) (hs0:0<size) (hb0:0<bytes)
    (v:Value) (n:Nat) (xs ys:List Value) (hs:a.eval s=v) (hx:a.eval x=.slice (some ⟨W.heap.size,0,none⟩) 1 1) (hys:ys.length=size) (h1:∀u∈ys,u.oneCell'=true)
    (HO:W.ownsRow base e size v n xs) (HB:Below base w0 W) (hbase:base<=W.heap.size) (hl:(n+1)*bytes<=140737488355328)
    (h:∀v1 w1,w1.ownsRow base e size v1 (n+1) (xs++ys)->Below base w0 w1->W.grownBy w1 v.ownBlock->(v1.ownBlock=v.ownBlock\/∃b,v1.ownBlock=some b/\W.heap.size<=b)->wpList P ops Q rest (a.put o.dst v1) w1):
    wpList P ops Q (o::rest) a (W.alloc (.cells ys.toArray e)):=by
  obtain⟨i0,hi,hzz⟩:=Option.map_eq_some_iff.1 hinfo
  simp only [Prod.mk.injEq]at hzz
  obtain⟨hz0,hz1,hz2⟩:=hzz
  have hlen:n+1<=140737488355328:=Nat.le_trans (Nat.le_mul_of_pos_right _ hb0) hl
  refine wpList_append_own_at (W.alloc (.cells ys.toArray e)) hgd s x t ho base e i0 z size bytes ht hi hz0 hz1 hz2 hz hs0 v n xs hs (HO.alloc _) ⟨W.heap.size,0,none⟩ 1 1 ys hx (by rw[hys];simp)
    (by simpa using World.news_of_block (cs:=ys.toArray) (t:=e) (fr:=(0,0)) (heap_alloc_new W (.cells ys.toArray e))) h1 (by simp only [maxLen];omega) hl (by simp;omega) ?_
  intro v1 w1 hown hg _ hat
  refine h v1 w1 hown ((HB.alloc hbase _).grown hg (by simp;omega) (zk HO)) (World.grownBy.trans (World.grownBy_alloc W _ _) hg) ?_
  rcases hat with hat|hat
  · exact .inl hat
  exact .inr ⟨_,hat,by simp⟩
end
theorem own_ne {w:World}{base:Nat}{e t:TypeId}{size n g:Nat}{v:Value}{xs:List Value}{cs:Array Value}(h:w.ownsRow base e size v n xs) (hg:w.heap[g]? =some (.cells cs t (0,0))) (hne:e≠t):some g≠v.ownBlock:=by
  rcases h.2 with⟨rfl,_⟩|⟨g',cap,cur,rfl,_,hh,_⟩
  · simp[Value.ownBlock]
  intro he
  have:g=g':=by simpa [Value.ownBlock] using he
  subst this
  rw[hg]at hh
  injection hh with hh
  injection hh with _ ht
  exact hne ht.symm
theorem MQ {w:World}{base:Nat}{e:TypeId}{size n:Nat}{v:Value}{xs:List Value}(h:w.ownsRow base e size v n xs) {p:Addr}(hne:some p.block≠v.ownBlock) (u:Value):(w.setCell p u).ownsRow base e size v n xs:=by
  obtain⟨h1,h2⟩:=h
  refine⟨h1,?_⟩
  rcases h2 with h2|⟨g,cap,cur,rfl,hg,hh,r⟩
  · exact .inl h2
  exact .inr ⟨g,cap,cur,rfl,hg,by rw[Below.heap_setCell _ _ _ _ (fun e=>hne (by rw[e];rfl))];exact hh,r⟩
theorem DL {w:World}{g:Nat}{t:TypeId}{cs:Array Value}(h:w.heap[g]? =some (.cells cs t (0,0))) (i:Nat) (u:Value):(w.setCell ⟨g,i,none⟩ u).heap[g]? =some (.cells (cs.setIfInBounds i u) t (0,0)):=by
  simp[World.setCell,Array.getElem?_modify,h]
theorem u_ {w:World}{g:Nat}{t:TypeId}{cs:Array Value}(h:w.heap[g]? =some (.cells cs t (0,0))) {p:Addr}(hp:g≠p.block) (u:Value):(w.setCell p u).heap[g]? =some (.cells cs t (0,0)):=(Below.heap_setCell w p u g hp).trans h
theorem pI {w:World}{g:Nat}{o:Obj}(h:w.heap[g]? =some o):g<w.heap.size:=(Array.getElem?_eq_some_iff.1 h).1
theorem qU {w:World}{g:Nat}{t:TypeId}{cs:Array Value}(h:w.heap[g]? =some (.cells cs t (0,0))) (i:Nat):w.cell? ⟨g,i,none⟩=cs[i]? :=cell_of_row w g i cs t (0,0) h
theorem qy {w:World}{g:Nat}{t:TypeId}{cs:Array Value}(h:w.heap[g]? =some (.cells cs t (0,0))) (i:Nat):w.frozen? ⟨g,i,none⟩=false:=by simp[World.frozen?,h]
theorem BP {w w1:World}{g:Nat}{o:Obj}{row:Option Nat}(h:w.heap[g]? =some o) (hg:w.grownBy w1 row) (hne:some g≠row):w1.heap[g]? =some o:=(hg.block g (pI h) hne).trans h
def oI (w w':World) (g:Nat) (row:Option Nat):Prop:=w.heap.size<=w'.heap.size/\∀i,i<w.heap.size->i≠g->some i≠row->w'.heap[i]? =w.heap[i]?
theorem oI.refl (w:World) (g:Nat) (row:Option Nat):oI w w g row:=⟨Nat.le_refl _,fun _ _ _ _=>rfl⟩
theorem oI.wC {w w1:World}{row:Option Nat}(h:w.grownBy w1 row) (g:Nat):oI w w1 g row:=⟨h.size,fun i hi _ hr=>h.block i hi hr⟩
theorem oI.of_below {w w1:World}(h:Below w.heap.size w w1) (g:Nat) (row:Option Nat):oI w w1 g row:=⟨h.size,fun i hi _ _=>h.block i hi⟩
theorem oI.Bg {w w1:World}{g:Nat}{row:Option Nat}(h:oI w w1 g row) (j:Nat) (u:Value):oI w (w1.setCell ⟨g,j,none⟩ u) g row:=
  ⟨by simpa [World.setCell] using h.1,fun i hi hg hr=>(Below.heap_setCell w1 ⟨g,j,none⟩ u i hg).trans (h.2 i hi hg hr)⟩
theorem oI.trans {w w1 w2:World}{g:Nat}{row row1:Option Nat}(h:oI w w1 g row) (k:oI w1 w2 g row1) (hr:row1=row\/∃b,row1=some b/\w.heap.size<=b):oI w w2 g row:=
  ⟨Nat.le_trans h.1 k.1,fun i hi hg hn=>by
    refine(k.2 i (Nat.lt_of_lt_of_le hi h.1) hg ?_).trans (h.2 i hi hg hn)
    rcases hr with rfl|⟨b,rfl,hb⟩
    · exact hn
    intro e
    injection e with e
    omega⟩
theorem oI.blk {w w1:World}{g g':Nat}{row:Option Nat}{o:Obj}(h:oI w w1 g row) (hb:w.heap[g']? =some o) (hg:g'≠g) (hr:some g'≠row):w1.heap[g']? =some o:=(h.2 g' (pI hb) hg hr).trans hb
theorem oI.own {w w1:World}{g:Nat}{row:Option Nat}{base:Nat}{e:TypeId}{size n:Nat}{v:Value}{xs:List Value}(h:oI w w1 g row) (ho:w.ownsRow base e size v n xs) (hg:v.ownBlock≠some g) (hr:v.ownBlock=none\/v.ownBlock≠row):w1.ownsRow base e size v n xs:=by
  obtain⟨h1,h2⟩:=ho
  refine⟨h1,?_⟩
  rcases h2 with h2|⟨b,cap,cur,rfl,hb,hh,r⟩
  · exact .inl h2
  refine .inr ⟨b,cap,cur,rfl,hb,h.blk hh ?_ ?_,r⟩
  · intro e
    exact hg (by rw[←e];rfl)
  rcases hr with hr|hr
  · simp[Value.ownBlock]at hr
  exact hr
def Ev {α:Type}(g:Nat->Option α) (r:α):Prop:=∃K,∀k,K<=k->g k=some r
theorem Ev.of {α:Type}{g:Nat->Option α}{r:α}(hg:∀k,LeO (g k) (g (k+1))) {k:Nat}(h:g k=some r):Ev g r:=⟨k,fun _ hk=>DI hg hk h⟩
theorem Ev.now {α:Type}(r:α):Ev (fun _=>some r) r:=⟨0,fun _ _=>rfl⟩
theorem Ev.rounds {α:Type}{g:Nat->Option α}{r:α}(h:Ev g r):∃k,g k=some r:=by
  obtain⟨K,h⟩:=h
  exact⟨K,h K (Nat.le_refl _)⟩
theorem Ev.bind {α β:Type}{g:Nat->Option α}{f:Nat->α->Option β}{a:α}{r:β}(h:Ev g a) (k:Ev (fun n=>f n a) r):Ev (fun n=>(g n).bind (f n)) r:=by
  obtain⟨K,h⟩:=h
  obtain⟨K',k⟩:=k
  refine⟨max K K',fun n hn=>?_⟩
  have h1:=h n (by omega)
  have h2:=k n (by omega)
  simp only [h1,Option.bind_some]
  exact h2
theorem Ev.step {α:Type}{g f:Nat->Option α}{r:α}(h:∀k,g (k+1)=f k) (k:Ev f r):Ev g r:=by
  obtain⟨K,k⟩:=k
  refine⟨K+1,fun n hn=>?_⟩
  obtain⟨m,rfl⟩:∃m,n=m+1:=⟨n - 1,by omega⟩
  rw[h]
  exact k m (by omega)
theorem Ev.congr {α:Type}{g f:Nat->Option α}{r:α}(h:∀k,g k=f k) (k:Ev f r):Ev g r:=by
  obtain⟨K,k⟩:=k
  exact⟨K,fun n hn=>(h n).trans (k n hn)⟩
section
variable {P:Program}{ops:Array Oper}{o:Oper}{a:Act}{Q:Exit->Act->World->Prop}{K:Act->World->Prop}
theorem NI {w0 W:World}(base:Nat) (hw:Region.wanted o (yielded ops a.tmps)=true) (s x:Operand) (t e:TypeId) (z:Value) (size bytes:Nat)
    (ho:o.op=.call {callee:=.builtin .append,args:= #[s,x],argTypes:= #[t,t]})
    (ht:P.underlying t=some (.slice e)) (hinfo:(P.info? e).map (fun i=>(i.zero,i.size,i.bytes))=some (some z,size,bytes)) (hz:z.cells.size=size) (hs0:0<size) (hb0:0<bytes)
    (v:Value) (n:Nat) (xs ys:List Value) (hs:a.eval s=v) (hx:a.eval x=.slice (some ⟨W.heap.size,0,none⟩) 1 1) (hys:ys.length=size) (h1:∀u∈ys,u.oneCell'=true)
    (HO:W.ownsRow base e size v n xs) (HB:Below base w0 W) (hbase:base<=W.heap.size) (hl:(n+1)*bytes<=140737488355328)
    (h:∀v1 w1,w1.ownsRow base e size v1 (n+1) (xs++ys)->Below base w0 w1->W.grownBy w1 v.ownBlock->(v1.ownBlock=v.ownBlock\/∃b,v1.ownBlock=some b/\W.heap.size<=b)->K (a.put o.dst v1) w1):
    if Region.wanted o (yielded ops a.tmps)=true then Oper.wp P o a (W.alloc (.cells ys.toArray e)) K Q else K (a.put o.dst undef) (W.alloc (.cells ys.toArray e)):=by
  obtain⟨i0,hi,hzz⟩:=Option.map_eq_some_iff.1 hinfo
  simp only [Prod.mk.injEq]at hzz
  obtain⟨hz0,hz1,hz2⟩:=hzz
  have hlen:n+1<=140737488355328:=Nat.le_trans (Nat.le_mul_of_pos_right _ hb0) hl
  rw[if_pos hw]
  obtain⟨v1,w1,hr,hown,hg,_,hat⟩:=run_append_own_at (P:=P) (W.alloc (.cells ys.toArray e)) base t o.type e i0 z size bytes ht hi hz0 hz1 hz2 hz hs0 v n xs (HO.alloc _) ⟨W.heap.size,0,none⟩ 1 1 ys (by rw[hys];simp)
    (by simpa using World.news_of_block (cs:=ys.toArray) (t:=e) (fr:=(0,0)) (heap_alloc_new W (.cells ys.toArray e))) h1 (by simp only [maxLen];omega) hl (by simp;omega)
  unfold Oper.wp execOp
  simp only [ho,resolve,invoke,builtin,Sem.run_bind,Sem.run_pure,Result.andThen_ok,List.map_toArray,List.map_cons,List.map_nil,hs,hx,hr]
  refine h v1 w1 hown ((HB.alloc hbase _).grown hg (by simp;omega) (zk HO)) (World.grownBy.trans (World.grownBy_alloc W _ _) hg) ?_
  rcases hat with hat|hat
  · exact .inl hat
  exact .inr ⟨_,hat,by simp⟩
end
theorem MS {w:World}{base base':Nat}{e:TypeId}{size n:Nat}{v:Value}{xs:List Value}(h:w.ownsRow base e size v n xs) (hb:base'<=base):w.ownsRow base' e size v n xs:=by
  obtain⟨h1,h2⟩:=h
  refine⟨h1,?_⟩
  rcases h2 with h2|⟨g,cap,cur,rfl,hg,r⟩
  · exact .inl h2
  exact .inr ⟨g,cap,cur,rfl,Nat.le_trans hb hg,r⟩
section
variable {α:Type}{enc:α->Value}{d:α}
def encs (enc:α->Value) (xs:List α):List Value:=xs.map enc
def qz (d:α) (xs:List α) (i:Int):α:=xs.getD i.toNat d
theorem G_ (xs:List α):(encs enc xs).length=xs.length:=by simp[encs]
theorem Ld (xs:List α) (j:Nat) (h:j<xs.length):(encs enc xs)[j]? =some (enc (xs.getD j d)):=by
  simp[encs,List.getElem?_eq_getElem h,List.getD_eq_getElem?_getD]
def rM (enc:α->Value) (d:α) (w:World) (A:Option Addr) (n:Nat) (xs:List α):Prop:=
  xs.length=n/\n<=9223372036854775807/\(0<n->∃ad,A=some ad/\∀j,j<n->w.cell? (ad.add j)=some (enc (xs.getD j d)))
theorem rM.at_ {w:World}{A:Option Addr}{n:Nat}{xs:List α}(h:rM enc d w A n xs) (i:Int) (h0:0<=i) (h1:i<n):∃ad,A=some ad/\w.cell? (ad.add i.toNat)=some (enc (qz d xs i)):=by
  obtain⟨ad,e,hc⟩:=h.2.2 (by omega)
  exact⟨ad,e,hc _ (by omega)⟩
theorem rM.below {w w1:World}{A:Option Addr}{n:Nat}{xs:List α}(h:rM enc d w A n xs) (hb:Below w.heap.size w w1):rM enc d w1 A n xs:=
  ⟨h.1,h.2.1,fun hn=>by
    obtain⟨ad,e,hc⟩:=h.2.2 hn
    exact⟨ad,e,fun j hj=>z8 hb (hc j hj)⟩⟩
theorem rM.uF {w:World}{A:Option Addr}{n:Nat}{xs:List α}(h:rM enc d w A n xs) (i:Nat) (hi:i<=n):rM enc d w A i (xs.take i):=by
  refine⟨by rw[List.length_take,h.1];omega,by have:=h.2.1;omega,fun hp=>?_⟩
  obtain⟨ad,e,hc⟩:=h.2.2 (by omega)
  refine⟨ad,e,fun j hj=>?_⟩
  rw[hc j (by omega)]
  simp[List.getD_eq_getElem?_getD,hj]
theorem rM.Ep {w:World}{A:Option Addr}{n c:Nat}{xs:List α}(h:rM enc d w A n xs) (i:Nat) (hi:i<=n) (hc:n<=c):rM enc d w (if c=i then A else A.map (·.add i)) (n - i) (xs.drop i):=by
  refine⟨by rw[List.length_drop,h.1],by have:=h.2.1;omega,fun hp=>?_⟩
  obtain⟨ad,rfl,hcell⟩:=h.2.2 (by omega)
  rw[if_neg (by omega)]
  refine⟨ad.add i,rfl,fun j hj=>?_⟩
  have ha:(ad.add i).add j=ad.add (i+j):=by
    unfold Addr.add
    by_cases h1:i=0<;>by_cases h2:j=0<;>simp[h1,h2,Nat.add_assoc]
  rw[ha,hcell (i+j) (by omega)]
  simp[List.getD_eq_getElem?_getD,List.getElem?_drop]
theorem MX {P:Program}(enc:α->Value) (d:α) (t e:TypeId) (kl:IntKind) {i:TypeInfo}(ht:P.underlying t=some (.slice e)) (hi:P.info? e=some i) (hsz:i.size=1) (A:Option Addr) (n c m:Nat) (hm:m<=n):
    ∃A':Option Addr,(∀W:World,(Instr.slice t (.slice A n c) (some (.int kl (m:Int))) none none).run P W=.ok (.slice A' (n - m) (c - m)) W)/\
      ∀ (w:World) (xs:List α),n<=c->rM enc d w A n xs->rM enc d w A' (n - m) (xs.drop m):=by
  refine⟨if c=m then A else A.map (·.add m),fun W=>?_,fun w xs hc h=>h.Ep m hm hc⟩
  have hel:P.elem t=e:=by simp[Program.elem,ht]
  have hu:P.underlying t=some (.slice (P.elem t)):=by rw[hel];exact ht
  rw[run_slice_l W t A n c hu kl (m:Int) (Int.natCast_nonneg _) (by omega),hel]
  simp[sizeOf,typeInfo,hi,hsz,sliced,Result.andThen]
theorem MK {W:World}{base g n cap:Nat}{e:TypeId}{xs:List α}(h:W.ownsRow base e 1 (.slice (some ⟨g,0,none⟩) n cap) n (encs enc xs)) (i:Int) (h0:0<=i) (h1:i<n):
    W.cell? ⟨g,i.toNat,none⟩=some (enc (qz d xs i))/\W.frozen? ⟨g,i.toNat,none⟩=false:=by
  have hl:xs.length=n:=by have:=h.1;simp[encs]at this;exact this
  constructor
  · have hc:=h.cells (g:=g) rfl i.toNat _ (Ld (d:=d) xs i.toNat (by omega))
    rwa [add_plain]at hc
  rcases h.2 with⟨h',_⟩|⟨g',cap',cur,h',_,hh,_⟩
  · cases h'
  have:g=g':=by injection h' with h';injection h' with h';injection h' with h'
  subst this
  simp[World.frozen?,hh]
theorem MR {W:World}{base g n cap:Nat}{e:TypeId}{xs:List α}(h:W.ownsRow base e 1 (.slice (some ⟨g,0,none⟩) n cap) n (encs enc xs)) (i:Int) (x:α):
    (W.setCell ⟨g,i.toNat,none⟩ (enc x)).ownsRow base e 1 (.slice (some ⟨g,0,none⟩) n cap) n (encs enc (xs.set i.toNat x))/\W.grownBy (W.setCell ⟨g,i.toNat,none⟩ (enc x)) (some g):=by
  have hs:=h.stored i.toNat (enc x)
  have he:(encs enc xs).set i.toNat (enc x)=encs enc (xs.set i.toNat x):=by simp[encs,List.map_set]
  rwa [he]at hs
end
theorem qQ {w:World}{g:Nat}{o:Obj}(h:w.heap[g]? =some o) (o':Obj):(w.alloc o').heap[g]? =some o:=(Below.heap_alloc w o' g (pI h)).trans h
theorem nZ {w:World}{g:Nat}{o:Obj}(h:w.heap[g]? =some o):w.drew.heap[g]? =some o:=h
theorem tH {w:World}{g:Nat}{o:Obj}(h:w.heap[g]? =some o) (n:Nat):(w.drewN n).heap[g]? =some o:=h
theorem rP {w w1:World}{g:Nat}{o:Obj}(h:w.heap[g]? =some o) (hb:Below w.heap.size w w1):w1.heap[g]? =some o:=(hb.block g (pI h)).trans h
theorem BQ (w:World) (o:Obj):(w.alloc o).heap[w.heap.size]? =some o:=heap_alloc_new w o
section
variable {P:Program}
theorem vX {fn:Func}{p u:Tmp}{ty:TypeId}(h:fn.results= #[.cell p ty,.tmp u]) (tmps:Array Value) (w:World) (g:Nat) (t:TypeId) (cs:Array Value) (fr:Nat×Nat) (d:TypeDesc)
    (hp:tmps.getD p undef=.pointer (some ⟨g,0,none⟩)) (hg:w.heap[g]? =some (.cells cs t fr))
    (hu:P.underlying ty=some d) (hd:(match d with| .struct _| .array _ _=>true|_=>false)=true) (hi:(P.info? ty).map (·.size)=some cs.size):
    (results fn tmps).run P w=.ok (.tuple #[.agg cs,tmps.getD u undef]) w:=by
  have hp':tmps[p]?.getD undef=.pointer (some ⟨g,0,none⟩):=by simpa using hp
  simp[results,h,hp',asAddr,run_loadVar_row w g t ty cs fr d hg hu hd hi]
end
theorem ML {w:World}{base n m c size:Nat}{e:TypeId}{A:Option Addr}{xs:List Value}(h:w.ownsRow base e size (.slice A m c) n xs):m<=c:=by
  rcases h.2 with⟨he,_⟩|⟨g,cap,cur,he,_,_,hnc,_⟩
  · injection he with _ h2 h3
    omega
  injection he with _ h2 h3
  omega
def sK {α:Type}(R:α->List Value->Prop) (e:TypeId) (size:Nat) (w:World) (base:Nat) (v:Value) (ps:List α):Prop:=
  ∃inner,w.ownsRow base e size v ps.length inner/\oH R size ps inner
section
variable {α:Type}{R R':α->List Value->Prop}{e:TypeId}{size:Nat}{w w1:World}{base:Nat}{v:Value}{ps:List α}
theorem sK.none_ (R:α->List Value->Prop) (e:TypeId) (size:Nat) (w:World) (base:Nat):sK R e size w base (.slice none 0 0) []:=⟨[],MN _ _ _ _,oH.none _ _⟩
theorem sK.tY (h:sK R e size w base v ps) (hR:∀p c,R p c->R' p c):sK R' e size w base v ps:=by
  obtain⟨inner,ho,hr⟩:=h
  exact⟨inner,ho,hr.tY hR⟩
theorem sK.below (h:sK R e size w base v ps) (hb:Below w.heap.size w w1):sK R e size w1 base v ps:=by
  obtain⟨inner,ho,hr⟩:=h
  exact⟨inner,M4 ho hb,hr⟩
theorem sK.other (h:sK R e size w base v ps) {row:Option Nat}(hg:w.grownBy w1 row) (hne:v.ownBlock=none\/v.ownBlock≠row):sK R e size w1 base v ps:=by
  obtain⟨inner,ho,hr⟩:=h
  exact⟨inner,MO ho hg hne,hr⟩
theorem sK.Bg (h:sK R e size w base v ps) {g:Nat}{t:TypeId}{cells:Array Value}(hb:w.heap[g]? =some (.cells cells t (0,0))) (ht:e≠t) (j:Nat) (u:Value):sK R e size (w.setCell ⟨g,j,none⟩ u) base v ps:=by
  obtain⟨inner,ho,hr⟩:=h
  exact⟨inner,MQ ho (own_ne ho hb ht) u,hr⟩
theorem sK.keep (h:sK R e size w base v ps) {g:Nat}{t:TypeId}{cells:Array Value}(hb:w.heap[g]? =some (.cells cells t (0,0))) (ht:e≠t) (hk:oI w w1 g none):sK R e size w1 base v ps:=by
  obtain⟨inner,ho,hr⟩:=h
  exact⟨inner,hk.own ho (Ne.symm (own_ne ho hb ht)) (by cases v.ownBlock<;>simp),hr⟩
theorem sK.reads (h:sK R e size w base v ps):∃A c,v=.slice A ps.length c/\ps.length<=c/\uy R size w A ps.length ps:=by
  obtain⟨inner,ho,hr⟩:=h
  obtain⟨A,c,rfl,hrow⟩:=MP ho hr rfl
  exact⟨A,c,rfl,ML ho,hrow⟩
theorem sK.Ms (h:sK R e size w base v ps) {g:Nat}{t:TypeId}{cells:Array Value}(hb:w.heap[g]? =some (.cells cells t (0,0))) (ht:e≠t):some g≠v.ownBlock:=by
  obtain⟨inner,ho,hr⟩:=h
  exact own_ne ho hb ht
end
section
variable {P:Program}{ops:Array Oper}{rest:List Oper}{o:Oper}{a:Act}{Q:Exit->Act->World->Prop}{α:Type}{R:α->List Value->Prop}
theorem sK.append {w0 W:World}(base:Nat) (hgd:o.guard=none) (s x:Operand) (t e:TypeId) (z:Value) (size bytes:Nat)
    (ho:o.op=.call {callee:=.builtin .append,args:= #[s,x],argTypes:= #[t,t]})
    (ht:P.underlying t=some (.slice e)) (hinfo:(P.info? e).map (fun i=>(i.zero,i.size,i.bytes))=some (some z,size,bytes)) (hz:z.cells.size=size) (hs0:0<size) (hb0:0<bytes)
    (v:Value) (ps:List α) (p:α) (cs:List Value) (hs:a.eval s=v) (hx:a.eval x=.slice (some ⟨W.heap.size,0,none⟩) 1 1) (hp:R p cs) (hcs:cs.length=size) (h1:∀u∈cs,u.oneCell'=true)
    (HO:sK R e size W base v ps) (HB:Below base w0 W) (hbase:base<=W.heap.size) (hl:(ps.length+1)*bytes<=140737488355328)
    (h:∀v1 w1,sK R e size w1 base v1 (ps++[p])->Below base w0 w1->W.grownBy w1 v.ownBlock->(v1.ownBlock=v.ownBlock\/∃b,v1.ownBlock=some b/\W.heap.size<=b)->wpList P ops Q rest (a.put o.dst v1) w1):
    wpList P ops Q (o::rest) a (W.alloc (.cells cs.toArray e)):=by
  obtain⟨inner,hown,hr⟩:=HO
  refine Iw base hgd s x t e z size bytes ho ht hinfo hz hs0 hb0 v ps.length inner cs hs hx hcs h1 hown HB hbase hl ?_
  intro v1 w1 hown1 hb1 hg1 hat1
  exact h v1 w1 ⟨inner++cs,by rw[List.length_append,List.length_singleton];exact hown1,hr.snoc hp hcs⟩ hb1 hg1 hat1
end
theorem uy.Es {α:Type}{R:α->List Value->Prop}{size:Nat}{w:World}{ad:Addr}{n:Nat}{ps:List α}(h:uy R size w (some ad) n ps):
    ∃inner,oH R size ps inner/\∀j u,inner[j]? =some u->w.cell? (ad.add j)=some u:=by
  have key:∀m,m<=ps.length->∃inner,oH R size (ps.take m) inner/\∀j u,inner[j]? =some u->w.cell? (ad.add j)=some u:=by
    intro m
    induction m with
    |zero=>exact fun _=>⟨[],oH.none _ _,fun j u hu=>by simp at hu⟩
    |succ m ih=>
      intro hm
      obtain⟨inner,hr,hc⟩:=ih (by omega)
      obtain⟨ad',he,hcell⟩:=h.2.2 (by have:=h.1;omega)
      injection he with he
      subst he
      obtain⟨c,hcl,hp,hcc⟩:=hcell m _ (List.getElem?_eq_getElem (show m<ps.length by omega))
      refine⟨inner++c,?_,fun j u hu=>?_⟩
      · rw[List.take_succ_eq_append_getElem (show m<ps.length by omega)]
        exact hr.snoc hp hcl
      have hil:inner.length=m*size:=by rw[hr.1,List.length_take,Nat.min_eq_left (by omega)]
      rcases Nat.lt_or_ge j inner.length with hj|hj
      · rw[List.getElem?_append_left hj]at hu
        exact hc j u hu
      rw[List.getElem?_append_right hj]at hu
      have:=hcc (j - inner.length) u hu
      rwa [hil,Nat.add_sub_cancel' (by omega)]at this
  obtain⟨inner,hr,hc⟩:=key ps.length (Nat.le_refl _)
  rw[List.take_length]at hr
  exact⟨inner,hr,hc⟩
section
variable {α:Type}{P:Program}
theorem rM.len_ {enc:α->Value}{d:α}{w:World}{A:Option Addr}{n:Nat}{xs:List α}(h:rM enc d w A n xs):rM enc d w A xs.length xs:=by rw[h.1];exact h
theorem CW (enc:α->Value) (d:α) (t e:TypeId) (kl:IntKind) {i:TypeInfo}(ht:P.underlying t=some (.slice e)) (hi:P.info? e=some i) (hsz:i.size=1) (A:Option Addr) (c:Nat) (xs:List α) (j:Int) (h0:0<=j) (hm:j<=xs.length) (hc:xs.length<=c):
    (∀W:World,(Instr.slice t (.slice A xs.length c) none (some (.int kl j)) none).run P W=.ok (.slice A (xs.take j.toNat).length c) W)/\
      (∀w:World,rM enc d w A xs.length xs->rM enc d w A (xs.take j.toNat).length (xs.take j.toNat))/\(xs.take j.toNat).length<=c:=by
  have hl:(xs.take j.toNat).length=j.toNat:=by rw[List.length_take];omega
  refine⟨fun W=>?_,fun w h=>by rw[hl];exact h.uF j.toNat (by omega),by rw[hl];omega⟩
  have hel:P.elem t=e:=by simp[Program.elem,ht]
  have hu:P.underlying t=some (.slice (P.elem t)):=by rw[hel];exact ht
  have ha:(A.map fun x=>x.add 0)=A:=by cases A<;>simp[Addr.add]
  rw[run_slice_h W t A xs.length c hu kl j h0 (by omega),hel,hl]
  simp[sizeOf,typeInfo,hi,hsz,sliced,Result.andThen,ha]
theorem MZ (enc:α->Value) (d:α) (t e:TypeId) (kl:IntKind) {i:TypeInfo}(ht:P.underlying t=some (.slice e)) (hi:P.info? e=some i) (hsz:i.size=1) (A:Option Addr) (c:Nat) (xs:List α) (j:Int) (h0:0<=j) (hm:j<=xs.length) (hc:xs.length<=c):
    ∃A':Option Addr,(∀W:World,(Instr.slice t (.slice A xs.length c) (some (.int kl j)) none none).run P W=.ok (.slice A' (xs.drop j.toNat).length (c - j.toNat)) W)/\
      (∀w:World,rM enc d w A xs.length xs->rM enc d w A' (xs.drop j.toNat).length (xs.drop j.toNat))/\(xs.drop j.toNat).length<=c - j.toNat:=by
  obtain⟨m,rfl⟩:=Int.eq_ofNat_of_zero_le h0
  simp only [Int.toNat_natCast]
  have hmn:m<=xs.length:=by omega
  obtain⟨A',h1,h2⟩:=MX (P:=P) enc d t e kl ht hi hsz A xs.length c m hmn
  have hl:(xs.drop m).length=xs.length - m:=List.length_drop
  exact⟨A',fun W=>by rw[hl];exact h1 W,fun w h=>by rw[hl];exact h2 w xs hc h,by rw[hl];omega⟩
theorem M0 (enc:α->Value) (d:α) (t e:TypeId) (kl kh:IntKind) {i:TypeInfo}(ht:P.underlying t=some (.slice e)) (hi:P.info? e=some i) (hsz:i.size=1) (A:Option Addr) (c:Nat) (xs:List α) (a b:Int) (h0:0<=a) (h1:a<=b) (hm:b<=xs.length) (hc:xs.length<=c):
    ∃A':Option Addr,(∀W:World,(Instr.slice t (.slice A xs.length c) (some (.int kl a)) (some (.int kh b)) none).run P W=.ok (.slice A' ((xs.take b.toNat).drop a.toNat).length (c - a.toNat)) W)/\
      (∀w:World,rM enc d w A xs.length xs->rM enc d w A' ((xs.take b.toNat).drop a.toNat).length ((xs.take b.toNat).drop a.toNat))/\((xs.take b.toNat).drop a.toNat).length<=c - a.toNat:=by
  have hlt:(xs.take b.toNat).length=b.toNat:=by rw[List.length_take];omega
  have hl:((xs.take b.toNat).drop a.toNat).length=b.toNat - a.toNat:=by rw[List.length_drop,hlt]
  refine⟨if c=a.toNat then A else A.map (·.add a.toNat),fun W=>?_,fun w h=>?_,by rw[hl];omega⟩
  · have hel:P.elem t=e:=by simp[Program.elem,ht]
    have hu:P.underlying t=some (.slice (P.elem t)):=by rw[hel];exact ht
    rw[run_slice_lh W t A xs.length c hu kl kh a b h0 h1 (by omega),hel,hl]
    simp[sizeOf,typeInfo,hi,hsz,sliced,Result.andThen]
  have h2:=(h.uF b.toNat (by omega)).Ep (c:=c) a.toNat (by omega) (by omega)
  rw[hl]
  exact h2
end
structure Kd (α:Type) where
  sz:Nat
  E:List Nat
  K:World->α->List Value->Prop
  M:World->Nat->(Nat->Prop)->α->List Value->Prop
  K_len:∀ {w x cs},K w x cs->cs.length=sz
  K_one:∀ {w x cs},K w x cs->∀u∈cs,u.oneCell'=true
  K_below:∀ {w w1:World}{x cs},Below w.heap.size w w1->K w x cs->K w1 x cs
  K_of_M:∀ {w base ok x cs},M w base ok x cs->K w x cs
  M_mono:∀ {w base ok ok' x cs},(∀k,ok k->ok' k)->M w base ok x cs->M w base ok' x cs
  M_bound:∀ {w:World}{base ok x cs},M w base ok x cs->M w base (fun k=>ok k/\base<=k/\k<w.heap.size/\∃q,q∈E/\∃cells,w.heap[k]? =some (.cells cells q (0,0))) x cs
  M_move:∀ {w w1:World}{base ok x cs},(∀k,ok k->w1.heap[k]? =w.heap[k]?)->M w base ok x cs->M w1 base ok x cs
  M_lower:∀ {w base base' ok x cs},base'<=base->M w base ok x cs->M w base' ok x cs
theorem MM {w w1:World}{base:Nat}{e:TypeId}{size n:Nat}{v:Value}{xs:List Value}(h:w.ownsRow base e size v n xs) (hm:∀k,v.ownBlock=some k->w1.heap[k]? =w.heap[k]?):w1.ownsRow base e size v n xs:=by
  obtain⟨h1,h2⟩:=h
  refine⟨h1,?_⟩
  rcases h2 with h2|⟨g,cap,cur,rfl,hg,hh,r⟩
  · exact .inl h2
  exact .inr ⟨g,cap,cur,rfl,hg,(hm g (by simp[Value.ownBlock])).trans hh,r⟩
theorem CV {w:World}{base:Nat}{e:TypeId}{size n:Nat}{v:Value}{xs:List Value}(h:w.ownsRow base e size v n xs) (k:Nat) (hk:v.ownBlock=some k):∃cells,w.heap[k]? =some (.cells cells e (0,0)):=by
  rcases h.2 with⟨rfl,_⟩|⟨g,cap,cur,rfl,hg,hh,r⟩
  · simp[Value.ownBlock]at hk
  have:g=k:=by simpa [Value.ownBlock] using hk
  subst this
  exact⟨cur,hh⟩
namespace Kd
def C {α:Type}(d:Kd α) (w:World) (A:Option Addr) (n:Nat) (xs:List α):Prop:=uy (d.K w) d.sz w A n xs
def R {α:Type}(d:Kd α) (e:Nat) (w:World) (base:Nat) (ok:Nat->Prop) (v:Value) (xs:List α):Prop:=
  (∀k,v.ownBlock=some k->ok k)/\sK (d.M w base (fun k=>ok k/\some k≠v.ownBlock)) e d.sz w base v xs
section
variable {α:Type}{d:Kd α}{e:Nat}{w w1:World}{base:Nat}{ok ok':Nat->Prop}{v:Value}{xs:List α}
theorem oG {A:Option Addr}{n:Nat}(h:d.C w A n xs) (hb:Below w.heap.size w w1):d.C w1 A n xs:=uy.tY h hb (fun _ _ hp=>d.K_below hb hp)
theorem wK (d:Kd α) (e:Nat) (w:World) (base:Nat) (ok:Nat->Prop):d.R e w base ok (.slice none 0 0) []:=⟨fun k hk=>by simp[Value.ownBlock]at hk,sK.none_ _ _ _ _ _⟩
theorem nL (h:d.R e w base ok v xs) (hok:∀k,ok k->ok' k):d.R e w base ok' v xs:=⟨fun k hk=>hok k (h.1 k hk),h.2.tY (fun _ _ hp=>d.M_mono (fun k hk=>⟨hok k hk.1,hk.2⟩) hp)⟩
theorem vE (h:d.R e w base ok v xs):d.R e w base (fun k=>ok k/\base<=k/\k<w.heap.size/\∃q,q∈e::d.E/\∃cells,w.heap[k]? =some (.cells cells q (0,0))) v xs:=by
  obtain⟨h0,inner,ho,hr⟩:=h
  refine⟨fun k hk=>?_,inner,ho,hr.tY (fun _ _ hp=>d.M_mono (fun k hk=>?_) (d.M_bound hp))⟩
  · obtain⟨cells,hc⟩:=CV ho k hk
    exact⟨h0 k hk,zk ho k hk,Ip ho k hk,e,List.mem_cons_self,cells,hc⟩
  obtain⟨⟨h1,h2⟩,h3,h4,q,hq,hc⟩:=hk
  exact⟨⟨h1,h3,h4,q,List.mem_cons_of_mem _ hq,hc⟩,h2⟩
theorem zC (h:d.R e w base ok v xs) (hm:∀k,ok k->w1.heap[k]? =w.heap[k]?):d.R e w1 base ok v xs:=by
  obtain⟨h0,inner,ho,hr⟩:=h
  exact⟨h0,inner,MM ho (fun k hk=>hm k (h0 k hk)),hr.tY (fun _ _ hp=>d.M_move (fun k hk=>hm k hk.1) hp)⟩
theorem oJ {base':Nat}(h:d.R e w base ok v xs) (hb:base'<=base):d.R e w base' ok v xs:=by
  obtain⟨h0,inner,ho,hr⟩:=h
  exact⟨h0,inner,MS ho hb,hr.tY (fun _ _ hp=>d.M_lower hb hp)⟩
theorem yJ (h:d.R e w base ok v xs) (hm:∀k,ok k->k<w.heap.size->w1.heap[k]? =w.heap[k]?):d.R e w1 base ok v xs:=
  nL (zC (vE h) (fun k hk=>hm k hk.1 hk.2.2.1)) (fun _ hk=>hk.1)
theorem E9 {x:α}{cs:List Value}(h:d.M w base ok x cs) (hm:∀k,ok k->k<w.heap.size->w1.heap[k]? =w.heap[k]?):d.M w1 base ok x cs:=
  d.M_mono (fun _ hk=>hk.1) (d.M_move (fun k hk=>hm k hk.1 hk.2.2.1) (d.M_bound h))
theorem uw (h:d.R e w base ok v xs) (hb:Below w.heap.size w w1):d.R e w1 base ok v xs:=yJ h (fun k _ hk=>hb.block k hk)
theorem E8 {x:α}{cs:List Value}(h:d.M w base ok x cs) (hb:Below w.heap.size w w1):d.M w1 base ok x cs:=E9 h (fun k _ hk=>hb.block k hk)
theorem JN (h:d.R e w base ok v xs) {row:Option Nat}(hg:w.grownBy w1 row) (hok:∀k,ok k->some k≠row):d.R e w1 base ok v xs:=yJ h (fun k ho hk=>hg.block k hk (hok k ho))
theorem nU (h:d.R e w base ok v xs) {p:Addr}(hok:∀k,ok k->k≠p.block) (u:Value):d.R e (w.setCell p u) base ok v xs:=yJ h (fun k ho _=>Below.heap_setCell w p u k (hok k ho))
theorem qB (h:d.R e w base ok v xs) {g:Nat}(hk:oI w w1 g none) (hok:∀k,ok k->k≠g):d.R e w1 base ok v xs:=yJ h (fun k ho hlt=>hk.2 k hlt (hok k ho) (by simp))
theorem oV (h:d.R e w base ok v xs) {g t:Nat}{cells:Array Value}(hb:w.heap[g]? =some (.cells cells t (0,0))) (ht:∀q,q∈e::d.E->q≠t):d.R e w base (fun k=>ok k/\k≠g) v xs:=
  nL (vE h) (fun k hk=>⟨hk.1,by
    obtain⟨_,_,_,q,hq,cells',hc⟩:=hk
    rintro rfl
    rw[hc]at hb
    injection hb with hb
    injection hb with _ hb
    exact ht q hq hb⟩)
theorem JP (h:d.R e w base ok v xs) {g t:Nat}{cells:Array Value}(hb:w.heap[g]? =some (.cells cells t (0,0))) (ht:∀q,q∈e::d.E->q≠t) (j:Nat) (u:Value):d.R e (w.setCell ⟨g,j,none⟩ u) base ok v xs:=
  nL (nU (p:=⟨g,j,none⟩) (oV h hb ht) (fun _ hk=>hk.2) u) (fun _ hk=>hk.1)
theorem Dy (h:d.R e w base ok v xs):∃A c,v=.slice A xs.length c/\xs.length<=c/\d.C w A xs.length xs:=by
  obtain⟨A,c,he,hl,hr⟩:=sK.reads h.2
  exact⟨A,c,he,hl,hr.tY (Below.refl _ _) (fun _ _ hp=>d.K_of_M hp)⟩
theorem nX (h:d.R e w base ok v xs):∃A c,v=.slice A xs.length c:=by
  obtain⟨A,c,he,_⟩:=Dy h
  exact⟨A,c,he⟩
theorem Ao (h:d.R e w base ok v xs):∃inner,w.ownsRow base e d.sz v xs.length inner:=by
  obtain⟨_,inner,ho,_⟩:=h
  exact⟨inner,ho⟩
theorem pM (h:d.R e w base ok v xs) {g t:Nat}{cells:Array Value}(hb:w.heap[g]? =some (.cells cells t (0,0))) (ht:e≠t):some g≠v.ownBlock:=sK.Ms h.2 hb ht
end
def scalar {α:Type}(enc:α->Value) (h1:∀x,(enc x).oneCell'=true):Kd α where
  sz:=1
  E:=[]
  K:=fun _ x cs=>cs=[enc x]
  M:=fun _ _ _ x cs=>cs=[enc x]
  K_len:=fun h=>by rw[h];rfl
  K_one:=fun h u hu=>by
    rw[h]at hu
    rw[List.mem_singleton.1 hu]
    exact h1 _
  K_below:=fun _ h=>h
  K_of_M:=fun h=>h
  M_mono:=fun _ h=>h
  M_bound:=fun h=>h
  M_move:=fun _ h=>h
  M_lower:=fun _ h=>h
def int (k:IntKind):Kd Int:=scalar (Value.int k) (fun _=>rfl)
def bool:Kd Bool:=scalar Value.bool (fun _=>rfl)
def string:Kd ByteArray:=scalar Value.string (fun _=>rfl)
def slice {α:Type}(e:Nat) (d:Kd α):Kd (List α) where
  sz:=1
  E:=e::d.E
  K:=fun w xs cs=>∃A c,cs=[.slice A xs.length c]/\xs.length<=c/\d.C w A xs.length xs
  M:=fun w base ok xs cs=>∃v,cs=[v]/\d.R e w base ok v xs
  K_len:=by
    rintro w x cs ⟨A,c,rfl,_⟩
    rfl
  K_one:=by
    rintro w x cs ⟨A,c,rfl,_⟩ u hu
    rw[List.mem_singleton.1 hu]
    rfl
  K_below:=by
    rintro w w1 x cs hb ⟨A,c,rfl,hl,hr⟩
    exact⟨A,c,rfl,hl,oG hr hb⟩
  K_of_M:=by
    rintro w base ok x cs ⟨v,rfl,h⟩
    obtain⟨A,c,rfl,hl,hr⟩:=Dy h
    exact⟨A,c,rfl,hl,hr⟩
  M_mono:=by
    rintro w base ok ok' x cs hok ⟨v,rfl,h⟩
    exact⟨v,rfl,nL h hok⟩
  M_bound:=by
    rintro w base ok x cs ⟨v,rfl,h⟩
    exact⟨v,rfl,vE h⟩
  M_move:=by
    rintro w w1 base ok x cs hm ⟨v,rfl,h⟩
    exact⟨v,rfl,zC h hm⟩
  M_lower:=by
    rintro w base base' ok x cs hb ⟨v,rfl,h⟩
    exact⟨v,rfl,oJ h hb⟩
def pair {α β:Type}(a:Kd α) (b:Kd β):Kd (α×β) where
  sz:=a.sz+b.sz
  E:=a.E++b.E
  K:=fun w x cs=>∃c0 c1,cs=c0++c1/\a.K w x.1 c0/\b.K w x.2 c1
  M:=fun w base ok x cs=>∃c0 c1,cs=c0++c1/\a.M w base ok x.1 c0/\b.M w base ok x.2 c1
  K_len:=by
    rintro w x cs ⟨c0,c1,rfl,h0,h1⟩
    rw[List.length_append,a.K_len h0,b.K_len h1]
  K_one:=by
    rintro w x cs ⟨c0,c1,rfl,h0,h1⟩ u hu
    rcases List.mem_append.1 hu with hu|hu
    · exact a.K_one h0 u hu
    exact b.K_one h1 u hu
  K_below:=by
    rintro w w1 x cs hb ⟨c0,c1,rfl,h0,h1⟩
    exact⟨c0,c1,rfl,a.K_below hb h0,b.K_below hb h1⟩
  K_of_M:=by
    rintro w base ok x cs ⟨c0,c1,rfl,h0,h1⟩
    exact⟨c0,c1,rfl,a.K_of_M h0,b.K_of_M h1⟩
  M_mono:=by
    rintro w base ok ok' x cs hok ⟨c0,c1,rfl,h0,h1⟩
    exact⟨c0,c1,rfl,a.M_mono hok h0,b.M_mono hok h1⟩
  M_bound:=by
    rintro w base ok x cs ⟨c0,c1,rfl,h0,h1⟩
    refine⟨c0,c1,rfl,a.M_mono ?_ (a.M_bound h0),b.M_mono ?_ (b.M_bound h1)⟩
    · rintro k ⟨h2,h3,h4,q,hq,hc⟩
      exact⟨h2,h3,h4,q,List.mem_append_left _ hq,hc⟩
    rintro k ⟨h2,h3,h4,q,hq,hc⟩
    exact⟨h2,h3,h4,q,List.mem_append_right _ hq,hc⟩
  M_move:=by
    rintro w w1 base ok x cs hm ⟨c0,c1,rfl,h0,h1⟩
    exact⟨c0,c1,rfl,a.M_move hm h0,b.M_move hm h1⟩
  M_lower:=by
    rintro w base base' ok x cs hb ⟨c0,c1,rfl,h0,h1⟩
    exact⟨c0,c1,rfl,a.M_lower hb h0,b.M_lower hb h1⟩
def iso {α β:Type}(d:Kd α) (f:β->α):Kd β where
  sz:=d.sz
  E:=d.E
  K:=fun w x cs=>d.K w (f x) cs
  M:=fun w base ok x cs=>d.M w base ok (f x) cs
  K_len:=d.K_len
  K_one:=d.K_one
  K_below:=d.K_below
  K_of_M:=d.K_of_M
  M_mono:=d.M_mono
  M_bound:=d.M_bound
  M_move:=d.M_move
  M_lower:=d.M_lower
theorem Ag {α:Type}{d:Kd α}{w:World}{A:Option Addr}{n:Nat}{xs:List α}(h:d.C w A n xs) (z:α) (i:Int) (h0:0<=i) (h1:i<n):
    ∃ad c,A=some ad/\c.length=d.sz/\d.K w (xs.getD i.toNat z) c/\∀j u,c[j]? =some u->w.cell? (ad.add (i.toNat*d.sz+j))=some u:=uy.LD h z i h0 h1
theorem Fw {α:Type}{d:Kd α}{e base:Nat}{ok okp:Nat->Prop}{W w1:World}{v v1:Value}{xs:List α}{p:α}{inner cs:List Value}(h0:∀k,v.ownBlock=some k->ok k) (hr:oH (d.M W base (fun k=>ok k/\some k≠v.ownBlock)) d.sz xs inner) (hp:d.M W base okp p cs) (rW:∀k,okp k->ok k/\some k≠v.ownBlock) (hfresh:∀k,W.heap.size<=k->ok k)
    (hown:w1.ownsRow base e d.sz v1 (xs.length+1) (inner++cs)) (hg:W.grownBy w1 v.ownBlock) (hat:v1.ownBlock=v.ownBlock\/∃b,v1.ownBlock=some b/\W.heap.size<=b):d.R e w1 base ok v1 (xs++[p]):=by
  have hne:∀k,some k≠v.ownBlock->k<W.heap.size->some k≠v1.ownBlock:=by
    intro k hk hlt
    rcases hat with hat|⟨b,hb,hle⟩
    · rw[hat];exact hk
    rw[hb]
    intro he
    injection he with he
    omega
  have step:∀ {q:α}{c:List Value}{o:Nat->Prop},d.M W base o q c->(∀k,o k->ok k/\some k≠v.ownBlock)->d.M w1 base (fun k=>ok k/\some k≠v1.ownBlock) q c:=by
    intro q c o hq ho
    have h1:=d.M_move (w1:=w1) (fun k hk=>hg.block k hk.2.2.1 (ho k hk.1).2) (d.M_bound hq)
    exact d.M_mono (fun k hk=>⟨(ho k hk.1).1,hne k (ho k hk.1).2 hk.2.2.1⟩) h1
  refine⟨fun k hk=>?_,inner++cs,by rw[List.length_append,List.length_singleton];exact hown,?_⟩
  · rcases hat with hat|⟨b,hb,hle⟩
    · exact h0 k (hat▸hk)
    rw[hb]at hk
    injection hk with hk
    exact hfresh k (by omega)
  exact(hr.tY (fun _ _ hq=>step hq (fun _ hk=>hk))).snoc (step hp rW) (d.K_len (d.K_of_M hp))
section
variable {P:Program}{ops:Array Oper}{rest:List Oper}{o:Oper}{a:Act}{Q:Exit->Act->World->Prop}{α:Type}
theorem sU (d:Kd α) {w0 W:World}(base:Nat) (hgd:o.guard=none) (s x:Operand) (t e:TypeId) (z:Value) (bytes:Nat)
    (ho:o.op=.call {callee:=.builtin .append,args:= #[s,x],argTypes:= #[t,t]})
    (ht:P.underlying t=some (.slice e)) (hinfo:(P.info? e).map (fun i=>(i.zero,i.size,i.bytes))=some (some z,d.sz,bytes)) (hz:z.cells.size=d.sz) (hs0:0<d.sz) (hb0:0<bytes)
    (v:Value) (xs:List α) (p:α) (cs:List Value) (ok okp:Nat->Prop) (hs:a.eval s=v) (hx:a.eval x=.slice (some ⟨W.heap.size,0,none⟩) 1 1) (hp:d.M W base okp p cs) (rW:∀k,okp k->ok k/\some k≠v.ownBlock) (hfresh:∀k,W.heap.size<=k->ok k)
    (HO:d.R e W base ok v xs) (HB:Below base w0 W) (hbase:base<=W.heap.size) (hl:(xs.length+1)*bytes<=140737488355328)
    (h:∀v1 w1,d.R e w1 base ok v1 (xs++[p])->Below base w0 w1->W.grownBy w1 v.ownBlock->(v1.ownBlock=v.ownBlock\/∃b,v1.ownBlock=some b/\W.heap.size<=b)->wpList P ops Q rest (a.put o.dst v1) w1):
    wpList P ops Q (o::rest) a (W.alloc (.cells cs.toArray e)):=by
  obtain⟨h0,inner,hown,hr⟩:=HO
  refine Iw base hgd s x t e z d.sz bytes ho ht hinfo hz hs0 hb0 v xs.length inner cs hs hx (d.K_len (d.K_of_M hp)) (d.K_one (d.K_of_M hp)) hown HB hbase hl ?_
  intro v1 w1 hown1 hb1 hg1 hat1
  exact h v1 w1 (Fw h0 hr hp rW hfresh hown1 hg1 hat1) hb1 hg1 hat1
end
section
variable {P:Program}{ops:Array Oper}{o:Oper}{a:Act}{Q:Exit->Act->World->Prop}{Kc:Act->World->Prop}{α:Type}
theorem wI (d:Kd α) {w0 W:World}(base:Nat) (hw:Region.wanted o (yielded ops a.tmps)=true) (s x:Operand) (t e:TypeId) (z:Value) (bytes:Nat)
    (ho:o.op=.call {callee:=.builtin .append,args:= #[s,x],argTypes:= #[t,t]})
    (ht:P.underlying t=some (.slice e)) (hinfo:(P.info? e).map (fun i=>(i.zero,i.size,i.bytes))=some (some z,d.sz,bytes)) (hz:z.cells.size=d.sz) (hs0:0<d.sz) (hb0:0<bytes)
    (v:Value) (xs:List α) (p:α) (cs:List Value) (ok okp:Nat->Prop) (hs:a.eval s=v) (hx:a.eval x=.slice (some ⟨W.heap.size,0,none⟩) 1 1) (hp:d.M W base okp p cs) (rW:∀k,okp k->ok k/\some k≠v.ownBlock) (hfresh:∀k,W.heap.size<=k->ok k)
    (HO:d.R e W base ok v xs) (HB:Below base w0 W) (hbase:base<=W.heap.size) (hl:(xs.length+1)*bytes<=140737488355328)
    (h:∀v1 w1,d.R e w1 base ok v1 (xs++[p])->Below base w0 w1->W.grownBy w1 v.ownBlock->(v1.ownBlock=v.ownBlock\/∃b,v1.ownBlock=some b/\W.heap.size<=b)->Kc (a.put o.dst v1) w1):
    if Region.wanted o (yielded ops a.tmps)=true then Oper.wp P o a (W.alloc (.cells cs.toArray e)) Kc Q else Kc (a.put o.dst undef) (W.alloc (.cells cs.toArray e)):=by
  obtain⟨h0,inner,hown,hr⟩:=HO
  refine NI base hw s x t e z d.sz bytes ho ht hinfo hz hs0 hb0 v xs.length inner cs hs hx (d.K_len (d.K_of_M hp)) (d.K_one (d.K_of_M hp)) hown HB hbase hl ?_
  intro v1 w1 hown1 hb1 hg1 hat1
  exact h v1 w1 (Fw h0 hr hp rW hfresh hown1 hg1 hat1) hb1 hg1 hat1
end
theorem Nr {α:Type}{enc:α->Value}(xs:List α):oH (fun(x:α) (cs:List Value)=>cs=[enc x]) 1 xs (encs enc xs):=by
  refine⟨by simp[encs],fun j p hj=>?_⟩
  obtain⟨hl,hp⟩:=List.getElem?_eq_some_iff.1 hj
  have hl':j<(encs enc xs).length:=by rw[G_];exact hl
  rw[Nat.mul_one,List.drop_eq_getElem_cons hl']
  simp[encs,hp]
theorem JO {α:Type}{enc:α->Value}{h1:∀x,(enc x).oneCell'=true}{e:Nat}{w:World}{base:Nat}{ok:Nat->Prop}{v:Value}{xs:List α}(ho:w.ownsRow base e 1 v xs.length (encs enc xs)) (hok:∀k,v.ownBlock=some k->ok k):(scalar enc h1).R e w base ok v xs:=⟨hok,encs enc xs,ho,Nr xs⟩
theorem Iq {α:Type}{enc:α->Value}{h1:∀x,(enc x).oneCell'=true}{e:Nat}{w:World}{base:Nat}{ok:Nat->Prop}{v:Value}{xs:List α}(h:(scalar enc h1).R e w base ok v xs):w.ownsRow base e 1 v xs.length (encs enc xs):=by
  obtain⟨_,inner,ho,hr⟩:=h
  have:inner=encs enc xs:=by
    apply List.ext_getElem?
    intro j
    rcases Nat.lt_or_ge j xs.length with hj|hj
    · have h2:=hr.2 j _ (List.getElem?_eq_getElem hj)
      have hl:j<inner.length:=by have:=hr.1;simp[scalar]at this;omega
      have h3:(inner.drop (j*1)).take 1=[enc xs[j]]:=h2
      rw[Nat.mul_one,List.drop_eq_getElem_cons hl]at h3
      have h4:inner[j]=enc xs[j]:=by
        have h5:=congrArg List.head? h3
        rw[List.take_succ_cons]at h5
        exact Option.some.inj h5
      rw[List.getElem?_eq_getElem hl,h4]
      simp[encs,List.getElem?_eq_getElem hj]
    have h3:inner.length=xs.length:=by have:=hr.1;simp[scalar]at this;omega
    rw[List.getElem?_eq_none (by omega),List.getElem?_eq_none (by rw[G_];omega)]
  rw[←this]
  exact ho
theorem zz {α:Type}{enc:α->Value}{d:α}{h1:∀x,(enc x).oneCell'=true}{w:World}{A:Option Addr}{n:Nat}{xs:List α}(h:rM enc d w A n xs):(scalar enc h1).C w A n xs:=by
  refine⟨h.1,h.2.1,fun hn=>?_⟩
  obtain⟨ad,e,hc⟩:=h.2.2 hn
  refine⟨ad,e,fun j p hj=>⟨[enc p],rfl,rfl,fun i u hu=>?_⟩⟩
  obtain⟨hl,hp⟩:=List.getElem?_eq_some_iff.1 hj
  have h2:=hc j (by have:=h.1;omega)
  rw[List.getD_eq_getElem?_getD,hj]at h2
  cases i with
  |zero=>
    have:enc p=u:=by simpa using hu
    subst this
    simpa [scalar] using h2
  |succ i=>simp at hu
theorem yz {α:Type}{enc:α->Value}{d:α}{h1:∀x,(enc x).oneCell'=true}{w:World}{A:Option Addr}{n:Nat}{xs:List α}(h:(scalar enc h1).C w A n xs):rM enc d w A n xs:=by
  refine⟨h.1,h.2.1,fun hn=>?_⟩
  obtain⟨ad,e,hc⟩:=h.2.2 hn
  refine⟨ad,e,fun j hj=>?_⟩
  have hl:j<xs.length:=by have:=h.1;omega
  obtain⟨c,_,hK,hcell⟩:=hc j _ (List.getElem?_eq_getElem hl)
  have hK':c=[enc xs[j]]:=hK
  subst hK'
  have:=hcell 0 _ rfl
  simpa [scalar,List.getD_eq_getElem?_getD,List.getElem?_eq_getElem hl] using this
end Kd
namespace Kd
theorem rU {α:Type}{d:Kd α}{e base:Nat}{ok:Nat->Prop}{W w1:World}{u v v1:Value}{xs:List α}(h:d.R e W base (fun k=>ok k/\some k≠v.ownBlock) u xs) (hg:W.grownBy w1 v.ownBlock) (hat:v1.ownBlock=v.ownBlock\/∃b,v1.ownBlock=some b/\W.heap.size<=b):d.R e w1 base (fun k=>ok k/\some k≠v1.ownBlock) u xs:=by
  refine nL (zC (vE h) (fun k hk=>hg.block k hk.2.2.1 hk.1.2)) (fun k hk=>⟨hk.1.1,?_⟩)
  rcases hat with hat|⟨b,hb,hle⟩
  · rw[hat];exact hk.1.2
  rw[hb]
  intro he
  injection he with he
  have:=hk.2.2.1
  omega
theorem Jz {α:Type}{d:Kd α}{e base:Nat}{ok:Nat->Prop}{w:World}{v:Value}{xs:List α}(h:d.R e w base ok v xs):(slice e d).M w base ok xs [v]:=⟨v,rfl,h⟩
section
variable {α β:Type}{d:Kd α}{d':Kd β}{e e':Nat}{w w1 W:World}{base b b':Nat}{ok ok' okv oku:Nat->Prop}{v u:Value}{xs:List α}{ys:List β}
theorem ol (h:d.R e w base ok v xs) (o:Obj):d.R e (w.alloc o) base ok v xs:=uw h (rZ (Below.refl _ _) o)
theorem nN (h:d.R e w base ok v xs):d.R e w.drew base ok v xs:=uw h (zF (Below.refl _ _))
theorem om (h:d.R e w base ok v xs) (m:Nat):d.R e (w.drewN m) base ok v xs:=uw h (t_ (Below.refl _ _) m)
theorem vS {A:Option Addr}{n:Nat}(h:d.C w A n xs) (o:Obj):d.C (w.alloc o) A n xs:=oG h (rZ (Below.refl _ _) o)
theorem vT {A:Option Addr}{n:Nat}(h:d.C w A n xs):d.C w.drew A n xs:=oG h (zF (Below.refl _ _))
theorem vU {A:Option Addr}{n:Nat}(h:d.C w A n xs) (m:Nat):d.C (w.drewN m) A n xs:=oG h (t_ (Below.refl _ _) m)
theorem Jf (d:Kd α) (w:World):d.C w none ([]:List α).length []:=⟨rfl,by simp,fun h=>absurd h (Nat.lt_irrefl 0)⟩
theorem nK {A:Option Addr}{n c:Nat}(h:d.R e w base ok (.slice A n c) xs):n=xs.length/\n<=c/\d.C w A xs.length xs:=by
  obtain⟨A',c',he,hl,hr⟩:=Dy h
  injection he with h1 h2 h3
  subst h1
  exact⟨h2,by omega,hr⟩
theorem oU (h:d.R e w base ok v xs):∀k,v.ownBlock=some k->k<w.heap.size:=by
  obtain⟨inner,ho⟩:=Ao h
  exact Ip ho
theorem uN (h:d.R e w base ok v xs):∀k,v.ownBlock=some k->base<=k:=by
  obtain⟨inner,ho⟩:=Ao h
  exact zk ho
theorem yH (h:d.R e w base ok v xs) {g:Nat}(hok:∀k,ok k->k≠g):some g≠v.ownBlock:=fun e=>hok g (h.1 g e.symm) rfl
theorem xU (h:d.R e w base ok v xs) (hp:0<xs.length):∃g cap,v=.slice (some ⟨g,0,none⟩) xs.length cap/\base<=g/\g<w.heap.size/\∃cells,w.heap[g]? =some (.cells cells e (0,0)):=by
  obtain⟨inner,ho⟩:=Ao h
  obtain⟨g,cap,he,hb,hl⟩:=ho.form hp
  obtain⟨cells,hc⟩:=CV ho g (by rw[he];simp[Value.ownBlock])
  exact⟨g,cap,he,hb,hl,cells,hc⟩
end
section
variable {w W:World}{A:Option Addr}{n:Nat}
theorem oL {k:IntKind}{xs:List Int}(h:(Kd.int k).C w A n xs) (i:Int) (h0:0<=i) (h1:i<n):∃ad,A=some ad/\w.cell? (ad.add i.toNat)=some (.int k (rd xs i)):=
  rM.at_ (yz (enc:=Value.int k) (d:=(0:Int)) (h1:=fun _=>rfl) h) i h0 h1
theorem vV {xs:List Bool}(h:Kd.bool.C w A n xs) (i:Int) (h0:0<=i) (h1:i<n):∃ad,A=some ad/\w.cell? (ad.add i.toNat)=some (.bool (qz false xs i)):=
  rM.at_ (yz (enc:=Value.bool) (d:=false) (h1:=fun _=>rfl) h) i h0 h1
variable {α:Type}{enc:α->Value}{h1:∀x,(enc x).oneCell'=true}{e base g cap:Nat}{ok:Nat->Prop}{xs:List α}
theorem JL (d:α) (h:(scalar enc h1).R e W base ok (.slice (some ⟨g,0,none⟩) xs.length cap) xs) (i:Int) (h0:0<=i) (hi:i<xs.length):W.cell? ⟨g,i.toNat,none⟩=some (enc (qz d xs i))/\W.frozen? ⟨g,i.toNat,none⟩=false:=MK (Iq h) i h0 hi
theorem Fz (h:(scalar enc h1).R e W base ok (.slice (some ⟨g,0,none⟩) xs.length cap) xs) (i:Int) (x:α):(scalar enc h1).R e (W.setCell ⟨g,i.toNat,none⟩ (enc x)) base ok (.slice (some ⟨g,0,none⟩) xs.length cap) (xs.set i.toNat x)/\W.grownBy (W.setCell ⟨g,i.toNat,none⟩ (enc x)) (some g):=by
  obtain⟨ho,hg⟩:=MR (Iq h) i x
  exact⟨JO (by rw[List.length_set];exact ho) h.1,hg⟩
end
section
variable {P:Program}{ops:Array Oper}{rest:List Oper}{o:Oper}{a:Act}{Q:Exit->Act->World->Prop}
theorem AU {W w1:World}{v:Value}(hgd:o.guard=none) (hrun:(execOp a.eval o).run P W=.ok (.value v) w1) (h:wpList P ops Q rest (a.put o.dst v) w1):wpList P ops Q (o::rest) a W:=by
  refine wpList_plain hgd fun K hK=>?_
  unfold Oper.wp
  rw[hrun]
  exact hK _ _ h
variable {α:Type}
theorem Bv (d:Kd α) {w0 W:World}(base e:Nat) (hgd:o.guard=none) {N:Tmp}(_hd:o.dst=some N) {xs:List α}{inner:List Value}{ok okp:Nat->Prop}
    (hrun:(execOp a.eval o).run P W=.ok (.value (.slice (some ⟨W.heap.size,0,none⟩) xs.length xs.length)) (W.alloc (.cells inner.toArray e)))
    (hrep:oH (d.M W base okp) d.sz xs inner) (hok:∀k,okp k->ok k) (hfresh:ok W.heap.size) (HB:Below base w0 W) (hbase:base<=W.heap.size) (hm:xs.length<=9223372036854775807)
    (h:∀v1 w1,d.R e w1 base ok v1 xs->Below base w0 w1->W.grownBy w1 none->(∃b,v1.ownBlock=some b/\W.heap.size<=b)->wpList P ops Q rest (a.put o.dst v1) w1):wpList P ops Q (o::rest) a W:=by
  refine AU hgd hrun (h _ _ ⟨fun k hk=>?_,inner,?_,?_⟩ (HB.alloc hbase _) (World.grownBy_alloc W _ none) ⟨W.heap.size,by simp[Value.ownBlock],Nat.le_refl _⟩)
  · have:W.heap.size=k:=by simpa [Value.ownBlock] using hk
    subst this
    exact hfresh
  · have h2:=World.ownsRow_lit (base:=base) (e:=e) (size:=d.sz) W inner.toArray xs.length hbase (by simpa [maxLen] using hm) (by simpa using hrep.1)
    simpa using h2
  refine hrep.tY (fun p c hp=>d.M_mono (fun k hk=>⟨hok k hk.1,fun he=>?_⟩) (E8 (d.M_bound hp) (rZ (Below.refl _ _) _)))
  have h3:k=W.heap.size:=by simpa [Value.ownBlock] using he
  have:=hk.2.2.1
  omega
theorem Nq {α:Type}{R:α->List Value->Prop}{z:Value}{size:Nat}{z0:α}(hz:z.cells.size=size) (hs:0<size) (h0:R z0 z.cells.toList) (m:Nat):oH R size (List.replicate m z0) (madeCells z.cells (m*size)).toList:=by
  refine⟨by simp[size_madeCells],fun j p hj=>?_⟩
  obtain⟨hjl,hp⟩:=List.getElem?_eq_some_iff.1 hj
  have hjm:j<m:=by simpa using hjl
  have hp':z0=p:=by simpa using hp
  subst hp'
  have hle:j*size+size<=m*size:=by rw[←Nat.succ_mul];exact Nat.mul_le_mul_right _ hjm
  have:((madeCells z.cells (m*size)).toList.drop (j*size)).take size=z.cells.toList:=by
    apply List.ext_getElem
    · simp[size_madeCells,hz]
      omega
    intro i h1 h2
    have hi:i<size:=by rw[Array.length_toList,hz]at h2;exact h2
    have hmod:(j*size+i)%size=i:=by
      rw[Nat.mul_comm,Nat.mul_add_mod]
      exact Nat.mod_eq_of_lt hi
    simp[madeCells,hz,hmod]
    rw[getElem!_pos z.cells i (by omega)]
  rw[this]
  exact h0
theorem Fx (d:Kd α) {w0 W:World}(base e:Nat) (hgd:o.guard=none) {N:Tmp}(hd:o.dst=some N) (t:TypeId) (x y:Operand) (ho:o.op=.makeSlice t x y) (n:Int) (hx:a.eval x=.int .i64 n) (hy:a.eval y=.int .i64 n)
    (ht:P.underlying t=some (.slice e)) (z:Value) (bytes:Nat) (hinfo:(P.info? e).map (fun i=>(i.zero,i.size,i.bytes))=some (some z,d.sz,bytes)) (hz:z.cells.size=d.sz) (hs0:0<d.sz) (hb0:0<bytes)
    (z0:α) {ok okp:Nat->Prop}(hzero:d.M W base okp z0 z.cells.toList) (hok:∀k,okp k->ok k) (hfresh:ok W.heap.size) (h0:0<=n) (hl:n.toNat*bytes<=281474976710656) (HB:Below base w0 W) (hbase:base<=W.heap.size)
    (h:∀v1 w1,d.R e w1 base ok v1 (List.replicate n.toNat z0)->Below base w0 w1->W.grownBy w1 none->(∃b,v1.ownBlock=some b/\W.heap.size<=b)->wpList P ops Q rest (a.put o.dst v1) w1):wpList P ops Q (o::rest) a W:=by
  obtain⟨m,rfl⟩:=Int.eq_ofNat_of_zero_le h0
  simp only [Int.toNat_natCast]at hl h
  obtain⟨i0,hi,hzz⟩:=Option.map_eq_some_iff.1 hinfo
  simp only [Prod.mk.injEq]at hzz
  obtain⟨hz0,hz1,hz2⟩:=hzz
  have hm:m<=281474976710656:=Nat.le_trans (Nat.le_mul_of_pos_right _ hb0) hl
  have hr:=run_make (P:=P) W t e i0 z ht hi hz0 .i64 .i64 (m:Int) (m:Int) (by omega) (by omega)
    (by
      have h3:((i0.bytes*m:Nat):Int)<=281474976710656:=by rw[hz2,Nat.mul_comm];omega
      rwa [Int.natCast_mul]at h3) (by omega)
  simp only [Int.toNat_natCast]at hr
  rw[hz1]at hr
  refine Bv d base e hgd hd (xs:=List.replicate m z0) (inner:=(madeCells z.cells (m*d.sz)).toList) (okp:=okp) (ok:=ok) ?_ (Nq hz hs0 hzero m) hok hfresh HB hbase (by simp;omega) h
  simp[execOp,ho,hx,hy,hr]
end
end Kd
section
variable {P:Program}
theorem KR (t e:TypeId) (kh:IntKind) {i:TypeInfo}(ht:P.underlying t=some (.slice e)) (hi:P.info? e=some i) (A:Option Addr) (n c:Nat) (j:Int) (h0:0<=j) (hm:j<=n) (hc:n<=c):
    ∀W:World,(Instr.slice t (.slice A n c) none (some (.int kh j)) none).run P W=.ok (.slice A j.toNat c) W:=by
  intro W
  have hel:P.elem t=e:=by simp[Program.elem,ht]
  have hu:P.underlying t=some (.slice (P.elem t)):=by rw[hel];exact ht
  have ha:(A.map fun x=>x.add 0)=A:=by cases A<;>simp[Addr.add]
  rw[run_slice_h W t A n c hu kh j h0 (by omega),hel]
  simp[sizeOf,typeInfo,hi,sliced,Result.andThen,ha]
theorem CE (t e:TypeId) (kl:IntKind) {i:TypeInfo}(ht:P.underlying t=some (.slice e)) (hi:P.info? e=some i) (size:Nat) (hsz:i.size=size) (A:Option Addr) (n c:Nat) (j:Int) (h0:0<=j) (hm:j<=n):
    ∀W:World,(Instr.slice t (.slice A n c) (some (.int kl j)) none none).run P W=.ok (.slice (if c=j.toNat then A else A.map (·.add (j.toNat*size))) (n - j.toNat) (c - j.toNat)) W:=by
  intro W
  have hel:P.elem t=e:=by simp[Program.elem,ht]
  have hu:P.underlying t=some (.slice (P.elem t)):=by rw[hel];exact ht
  rw[run_slice_l W t A n c hu kl j h0 hm,hel]
  simp[sizeOf,typeInfo,hi,hsz,sliced,Result.andThen]
end
def uM (w:World) (base:Nat) (e:TypeId) (size:Nat) (v:Value) (n:Nat) (xs:List Value):Prop:=
  xs.length=n*size/\
  ((n=0/\∃A,v=.slice A 0 0/\∀a,A=some a->base<=a.block/\∃cur,w.heap[a.block]? =some (.cells cur e (0,0)))\/
   ∃g off cap cur,v=.slice (some ⟨g,off*size,none⟩) n cap/\base<=g/\w.heap[g]? =some (.cells cur e (0,0))/\n<=cap/\off+cap<=maxLen/\cur.size=(off+cap)*size/\(cur.toList.drop (off*size)).take (n*size)=xs)
section
variable {w w1:World}{base n size:Nat}{e:TypeId}{v:Value}{xs:List Value}
theorem EA (h:w.ownsRow base e size v n xs):uM w base e size v n xs:=by
  obtain⟨h1,h2⟩:=h
  refine⟨h1,?_⟩
  rcases h2 with⟨rfl,h0⟩|⟨g,cap,cur,rfl,hb,hh,hnc,hcm,hcs,ht⟩
  · exact .inl ⟨h0,none,rfl,fun a ha=>by cases ha⟩
  exact .inr ⟨g,0,cap,cur,by rw[Nat.zero_mul],hb,hh,hnc,by rw[Nat.zero_add];exact hcm,by rw[Nat.zero_add];exact hcs,by rw[Nat.zero_mul,List.drop_zero];exact ht⟩
theorem Iy (h:uM w base e size v n xs) (hm:∀k,v.ownBlock=some k->w1.heap[k]? =w.heap[k]?):uM w1 base e size v n xs:=by
  obtain⟨h1,h2⟩:=h
  refine⟨h1,?_⟩
  rcases h2 with⟨h0,A,rfl,hA⟩|⟨g,off,cap,cur,rfl,hg,hh,r⟩
  · refine .inl ⟨h0,A,rfl,fun a ha=>?_⟩
    obtain⟨hb,cur,hc⟩:=hA a ha
    subst ha
    exact⟨hb,cur,(hm a.block (by simp[Value.ownBlock])).trans hc⟩
  exact .inr ⟨g,off,cap,cur,rfl,hg,(hm g (by simp[Value.ownBlock])).trans hh,r⟩
theorem Bb (h:uM w base e size v n xs) (k:Nat) (hk:v.ownBlock=some k):base<=k/\∃cells,w.heap[k]? =some (.cells cells e (0,0)):=by
  rcases h.2 with⟨_,A,rfl,hA⟩|⟨g,off,cap,cur,rfl,hg,hh,r⟩
  · cases A with
    |none=>simp[Value.ownBlock]at hk
    |some a=>
      have:a.block=k:=by simpa [Value.ownBlock] using hk
      subst this
      exact hA a rfl
  have:g=k:=by simpa [Value.ownBlock] using hk
  subst this
  exact⟨hg,cur,hh⟩
theorem Ez (h:uM w base e size v n xs) (k:Nat) (hk:v.ownBlock=some k):k<w.heap.size:=by
  obtain⟨_,cells,hc⟩:=Bb h k hk
  exact(Array.getElem?_eq_some_iff.1 hc).1
theorem M8 {base':Nat}(h:uM w base e size v n xs) (hb:base'<=base):uM w base' e size v n xs:=by
  obtain⟨h1,h2⟩:=h
  refine⟨h1,?_⟩
  rcases h2 with⟨h0,A,rfl,hA⟩|⟨g,off,cap,cur,rfl,hg,r⟩
  · exact .inl ⟨h0,A,rfl,fun a ha=>⟨Nat.le_trans hb (hA a ha).1,(hA a ha).2⟩⟩
  exact .inr ⟨g,off,cap,cur,rfl,Nat.le_trans hb hg,r⟩
theorem Iz (h:uM w base e size v n xs):∃A c,v=.slice A n c/\n<=c:=by
  rcases h.2 with⟨h0,A,rfl,_⟩|⟨g,off,cap,cur,rfl,hg,hh,hnc,r⟩
  · exact⟨A,0,by rw[h0],by omega⟩
  exact⟨_,cap,rfl,hnc⟩
theorem M9 (h:uM w base e size v n xs):n<=9223372036854775807:=by
  rcases h.2 with⟨h0,_⟩|⟨g,off,cap,cur,rfl,hg,hh,hnc,hm,r⟩
  · omega
  simp only [maxLen]at hm
  omega
theorem wM (g o j:Nat):(⟨g,o,none⟩:Addr).add j=⟨g,o+j,none⟩:=by unfold Addr.add;split<;>simp_all
theorem M6 {A:Option Addr}{c:Nat}(h:uM w base e size (.slice A n c) n xs) (hn:0<n):∃ad,A=some ad/\∀j u,xs[j]? =some u->w.cell? (ad.add j)=some u:=by
  rcases h.2 with⟨h0,_⟩|⟨g,off,cap,cur,he,hg,hh,hnc,hm,hcs,ht⟩
  · omega
  injection he with ha _ hc
  subst ha
  refine⟨_,rfl,fun j u hu=>?_⟩
  rw[wM,cell_of_row w g _ cur e (0,0) hh]
  rw[←ht,List.getElem?_take]at hu
  split at hu
  · rw[List.getElem?_drop]at hu
    rw[←Array.getElem?_toList]
    exact hu
  cases hu
theorem M7 {A:Option Addr}{c k:Nat}(h:uM w base e size (.slice A n c) n xs) (hk:k<=n):uM w base e size (.slice (if c=k then A else A.map (·.add (k*size))) (n - k) (c - k)) (n - k) (xs.drop (k*size)):=by
  obtain⟨h1,h2⟩:=h
  refine⟨by rw[List.length_drop,h1,Nat.sub_mul],?_⟩
  rcases h2 with⟨h0,A',he,hA⟩|⟨g,off,cap,cur,he,hb,hh,hnc,hcm,hcs,ht⟩
  · injection he with ha hb hc
    subst ha;subst hc
    have hk0:k=0:=by omega
    subst hk0
    exact .inl ⟨by omega,A,by rw[if_pos rfl,h0],hA⟩
  injection he with ha _ hc
  subst ha;subst hc
  by_cases hck:c=k
  · rw[if_pos hck]
    refine .inl ⟨by omega,some ⟨g,off*size,none⟩,?_,fun a ha=>?_⟩
    · rw[show n - k=0 by omega,show c - k=0 by omega]
    injection ha with ha
    subst ha
    exact⟨hb,cur,hh⟩
  rw[if_neg hck]
  refine .inr ⟨g,off+k,c - k,cur,?_,hb,hh,by omega,by omega,by rw[hcs];congr 1;omega,?_⟩
  · rw[Option.map_some,wM,Nat.add_mul]
  rw[←ht,List.drop_take,List.drop_drop,Nat.add_mul,Nat.sub_mul]
theorem EG {g:Nat}:∀ (vs:List Value) (o:Nat) {w:World}(k:Nat),k≠g->(w.setCells g o vs).heap[k]? =w.heap[k]?
  |[],_,_,_,_=>rfl
  |v::r,o,w,k,hk=>by
    rw[World.setCells,EG r (o+1) k hk]
    exact Below.heap_setCell w ⟨g,o,none⟩ v k hk
theorem EI (g:Nat):∀ (vs:List Value) (o:Nat) (w:World),(w.setCells g o vs).os=w.os/\(w.setCells g o vs).tape=w.tape/\(w.setCells g o vs).output=w.output/\(w.setCells g o vs).heap.size=w.heap.size
  |[],_,_=>⟨rfl,rfl,rfl,rfl⟩
  |v::r,o,w=>by
    obtain⟨h1,h2,h3,h4⟩:=EI g r (o+1) (w.setCell ⟨g,o,none⟩ v)
    rw[World.setCells]
    exact⟨h1,h2,h3,by rw[h4];simp[World.setCell]⟩
theorem EH {g:Nat}{e:TypeId}:∀ (vs:List Value) (o:Nat) (w:World) (cur:Array Value),w.heap[g]? =some (.cells cur e (0,0))->o+vs.length<=cur.size->
    ∃cur',(w.setCells g o vs).heap[g]? =some (.cells cur' e (0,0))/\cur'.size=cur.size/\cur'.toList=cur.toList.take o++vs++cur.toList.drop (o+vs.length)
  |[],o,w,cur,h,_=>⟨cur,h,rfl,by simp⟩
  |v::r,o,w,cur,h,hl=>by
    have h2:=DL h o v
    simp only [List.length_cons]at hl
    obtain⟨cur',h3,h4,h5⟩:=EH r (o+1) (w.setCell ⟨g,o,none⟩ v) _ h2 (by simp;omega)
    refine⟨cur',h3,by rw[h4];simp,?_⟩
    rw[h5,Array.toList_setIfInBounds]
    have ho:o<cur.toList.length:=by rw[Array.length_toList];omega
    rw[List.take_set,List.drop_set_of_lt (by omega)]
    simp only [List.length_cons]
    rw[show o+1+r.length=o+(r.length+1) by omega]
    congr 1
    rw[List.take_succ_eq_append_getElem ho,List.set_append_right _ _ (by rw[List.length_take];omega)]
    have ho':o<cur.size:=by omega
    simp[Nat.min_eq_left (Nat.le_of_lt ho')]
end
section
variable {P:Program}
theorem M5 (w:World) (base:Nat) (t ty e:TypeId) (i:TypeInfo) (z:Value) (size bytes:Nat) (ht:P.underlying t=some (.slice e)) (hi:P.info? e=some i) (hz:i.zero=some z)
    (hsize:i.size=size) (hby:i.bytes=bytes) (hzs:z.cells.size=size) (hsz:0<size)
    (v:Value) (n:Nat) (xs:List Value) (hown:uM w base e size v n xs)
    (a:Addr) (m c:Nat) (news:List Value) (hl:news.length=m*size) (hnews:∀j u,news[j]? =some u->w.cell? (a.add j)=some u) (h1:∀u∈news,u.oneCell'=true) (hm:0<m)
    (h63:n+m<=maxLen) (hbytes:(n+m)*bytes<=140737488355328) (hbase:base<=w.heap.size):
    ∃v' w',(Builtin.append_ #[t,t] ty #[v,.slice (some a) m c]).run P w=.ok v' w'/\uM w' base e size v' (n+m) (xs++news)/\w.grownBy w' v.ownBlock/\(v'.ownBlock=v.ownBlock\/∃b,v'.ownBlock=some b/\w.heap.size<=b):=by
  have grows:∀ (b:Addr) (cap:Nat),cap<n+m->(∀j u,xs[j]? =some u->w.cell? (b.add j)=some u)->v=.slice (some b) n cap->
      ∃v' w',(Builtin.append_ #[t,t] ty #[v,.slice (some a) m c]).run P w=.ok v' w'/\uM w' base e size v' (n+m) (xs++news)/\w.grownBy w' v.ownBlock/\(v'.ownBlock=v.ownBlock\/∃b,v'.ownBlock=some b/\w.heap.size<=b):=by
    intro b cap hcap hcells hv
    obtain⟨v',w',hr,ho,hg⟩:=run_append_arg_grows (P:=P) (w:=w) t ty e i z size bytes ht hi hz hsize hby hzs hsz b n cap xs hown.1 hcells a m c news hl hnews hcap h63 hbytes
    refine⟨v',w',by rw[hv];exact hr,M8 (EA ho) hbase,⟨hg.os,hg.tape,hg.output,hg.size,fun k hk _=>hg.block k hk (by simp)⟩,?_⟩
    obtain⟨g',cap',he,hb,_⟩:=ho.form (by omega)
    exact .inr ⟨g',by rw[he];simp[Value.ownBlock],hb⟩
  rcases hown.2 with⟨h0,A,hv,hA⟩|⟨g,off,cap,cur,hv,hbg,hg,hnc,hcm,hcs,htake⟩
  · cases A with
    |none=>
      subst h0
      have ho:w.ownsRow base e size v 0 xs:=⟨hown.1,.inl ⟨hv,rfl⟩⟩
      obtain⟨v',w',hr,ho',hg,_,hat⟩:=run_append_own_at (P:=P) w base t ty e i z size bytes ht hi hz hsize hby hzs hsz v 0 xs ho a m c news hl hnews h1 h63 hbytes hbase
      refine⟨v',w',hr,EA ho',hg,?_⟩
      rcases hat with hat|hat
      · exact .inl hat
      exact .inr ⟨_,hat,Nat.le_refl _⟩
    |some b=>
      have hx:xs=[]:=List.eq_nil_of_length_eq_zero (by rw[hown.1,h0,Nat.zero_mul])
      exact grows b 0 (by omega) (fun j u hu=>by rw[hx]at hu;simp at hu) (by rw[hv,h0])
  by_cases hroom:n+m<=cap
  · have hfit:off*size+n*size+news.length<=cur.size:=by
      rw[hl,hcs,←Nat.add_mul,←Nat.add_mul]
      exact Nat.mul_le_mul_right _ (by omega)
    subst hsize
    have hr:=run_append_room_cells (P:=P) (w:=w) t ty e i ht hi g (off*i.size) n cap a m c news hl hnews h1 hroom
      (fun j hj=>by rw[cell_of_row w g _ cur e (0,0) hg];simp;omega) (fun j _=>qy hg _)
    obtain⟨cur',h3,h4,h5⟩:=EH news (off*i.size+n*i.size) w cur hg hfit
    obtain⟨s1,s2,s3,s4⟩:=EI g news (off*i.size+n*i.size) w
    refine⟨_,_,by rw[hv];exact hr,⟨by rw[List.length_append,hown.1,hl,Nat.add_mul],.inr ⟨g,off,cap,cur',rfl,hbg,h3,hroom,hcm,by rw[h4,hcs],?_⟩⟩,
      ⟨s1,s2,s3,by rw[s4];exact Nat.le_refl _,fun k _ hk=>EG news _ k (fun he=>hk (by rw[hv,he];simp[Value.ownBlock]))⟩,.inl (by rw[hv];rfl)⟩
    rw[h5,List.append_assoc,List.drop_append_of_le_length (by rw[List.length_take,Array.length_toList];omega),List.drop_take]
    rw[show off*i.size+n*i.size - off*i.size=n*i.size by omega,htake]
    rw[←List.append_assoc]
    exact List.take_left' (by rw[List.length_append,hown.1,hl,Nat.add_mul])
  refine grows ⟨g,off*size,none⟩ cap (by omega) (fun j u hu=>?_) hv
  rw[wM,cell_of_row w g _ cur e (0,0) hg]
  rw[←htake,List.getElem?_take]at hu
  split at hu
  · rw[List.getElem?_drop]at hu
    rw[←Array.getElem?_toList]
    exact hu
  cases hu
end
namespace Kd
theorem Np {α:Type}{R:α->List Value->Prop}{size m:Nat}{ps:List α}{cs:List Value}(h:oH R size ps cs):oH R size (ps.drop m) (cs.drop (m*size)):=by
  refine⟨by rw[List.length_drop,List.length_drop,h.1,Nat.sub_mul],fun j p hj=>?_⟩
  rw[List.getElem?_drop]at hj
  have:=h.2 (m+j) p hj
  rw[List.drop_drop,←Nat.add_mul]
  exact this
def Q {α:Type}(d:Kd α) (e:Nat) (w:World) (base:Nat) (ok:Nat->Prop) (v:Value) (xs:List α):Prop:=
  (∀k,v.ownBlock=some k->ok k)/\∃inner,uM w base e d.sz v xs.length inner/\oH (d.M w base (fun k=>ok k/\some k≠v.ownBlock)) d.sz xs inner
section
variable {α:Type}{d:Kd α}{e:Nat}{w w1 W:World}{base:Nat}{ok ok':Nat->Prop}{v:Value}{xs:List α}
theorem Du (h:d.R e w base ok v xs):d.Q e w base ok v xs:=by
  obtain⟨h0,inner,ho,hr⟩:=h
  exact⟨h0,inner,EA ho,hr⟩
theorem xS (d:Kd α) (e:Nat) (w:World) (base:Nat) (ok:Nat->Prop):d.Q e w base ok (.slice none 0 0) []:=Du (wK d e w base ok)
theorem xk (h:d.Q e w base ok v xs) (hok:∀k,ok k->ok' k):d.Q e w base ok' v xs:=by
  obtain⟨h0,inner,ho,hr⟩:=h
  exact⟨fun k hk=>hok k (h0 k hk),inner,ho,hr.tY (fun _ _ hp=>d.M_mono (fun k hk=>⟨hok k hk.1,hk.2⟩) hp)⟩
theorem Bq (h:d.Q e w base ok v xs):d.Q e w base (fun k=>ok k/\base<=k/\k<w.heap.size/\∃q,q∈e::d.E/\∃cells,w.heap[k]? =some (.cells cells q (0,0))) v xs:=by
  obtain⟨h0,inner,ho,hr⟩:=h
  refine⟨fun k hk=>?_,inner,ho,hr.tY (fun _ _ hp=>d.M_mono (fun k hk=>?_) (d.M_bound hp))⟩
  · obtain⟨hb,cells,hc⟩:=Bb ho k hk
    exact⟨h0 k hk,hb,Ez ho k hk,e,List.mem_cons_self,cells,hc⟩
  obtain⟨⟨h1,h2⟩,h3,h4,q,hq,hc⟩:=hk
  exact⟨⟨h1,h3,h4,q,List.mem_cons_of_mem _ hq,hc⟩,h2⟩
theorem Dt (h:d.Q e w base ok v xs) (hm:∀k,ok k->w1.heap[k]? =w.heap[k]?):d.Q e w1 base ok v xs:=by
  obtain⟨h0,inner,ho,hr⟩:=h
  exact⟨h0,inner,Iy ho (fun k hk=>hm k (h0 k hk)),hr.tY (fun _ _ hp=>d.M_move (fun k hk=>hm k hk.1) hp)⟩
theorem Fs (h:d.Q e w base ok v xs) (hm:∀k,ok k->k<w.heap.size->w1.heap[k]? =w.heap[k]?):d.Q e w1 base ok v xs:=xk (Dt (Bq h) (fun k hk=>hm k hk.1 hk.2.2.1)) (fun _ hk=>hk.1)
theorem Dr (h:d.Q e w base ok v xs) (hb:Below w.heap.size w w1):d.Q e w1 base ok v xs:=Fs h (fun k _ hk=>hb.block k hk)
theorem wh (h:d.Q e w base ok v xs) (o:Obj):d.Q e (w.alloc o) base ok v xs:=Dr h (rZ (Below.refl _ _) o)
theorem vK (h:d.Q e w base ok v xs):d.Q e w.drew base ok v xs:=Dr h (zF (Below.refl _ _))
theorem wm (h:d.Q e w base ok v xs) (m:Nat):d.Q e (w.drewN m) base ok v xs:=Dr h (t_ (Below.refl _ _) m)
theorem JH (h:d.Q e w base ok v xs) {p:Addr}(hok:∀k,ok k->k≠p.block) (u:Value):d.Q e (w.setCell p u) base ok v xs:=Fs h (fun k ho _=>Below.heap_setCell w p u k (hok k ho))
theorem Oo (h:d.Q e w base ok v xs) {g t:Nat}{cells:Array Value}(hb:w.heap[g]? =some (.cells cells t (0,0))) (ht:∀q,q∈e::d.E->q≠t):d.Q e w base (fun k=>ok k/\k≠g) v xs:=
  xk (Bq h) (fun k hk=>⟨hk.1,by
    obtain⟨_,_,_,q,hq,cells',hc⟩:=hk
    rintro rfl
    rw[hc]at hb
    injection hb with hb
    injection hb with _ hb
    exact ht q hq hb⟩)
theorem Fp (h:d.Q e w base ok v xs):∀k,v.ownBlock=some k->k<w.heap.size:=by
  obtain⟨_,inner,ho,_⟩:=h
  exact Ez ho
theorem Fq (h:d.Q e w base ok v xs) {g t:Nat}{cells:Array Value}(hb:w.heap[g]? =some (.cells cells t (0,0))) (ht:e≠t):some g≠v.ownBlock:=by
  obtain⟨_,inner,ho,_⟩:=h
  intro he
  obtain⟨_,cells',hc⟩:=Bb ho g he.symm
  rw[hc]at hb
  injection hb with hb
  injection hb with _ hb
  exact ht hb
theorem Br (h:d.Q e w base ok v xs):∃A c,v=.slice A xs.length c/\xs.length<=c:=by
  obtain⟨_,inner,ho,_⟩:=h
  exact Iz ho
theorem Dv {A:Option Addr}{n c:Nat}(h:d.Q e w base ok (.slice A n c) xs):n=xs.length/\n<=c/\d.C w A xs.length xs:=by
  obtain⟨_,inner,ho,hr⟩:=h
  obtain⟨A',c',he,hl⟩:=Iz ho
  injection he with h1 h2 h3
  subst h1;subst h2;subst h3
  refine⟨rfl,hl,rfl,M9 ho,fun hp=>?_⟩
  obtain⟨ad,ha,hc⟩:=M6 ho hp
  refine⟨ad,ha,fun j p hj=>⟨(inner.drop (j*d.sz)).take d.sz,?_,d.K_of_M (hr.2 j p hj),fun i u hu=>?_⟩⟩
  · have hjl:=(List.getElem?_eq_some_iff.1 hj).1
    have h1:j*d.sz+d.sz<=inner.length:=by rw[hr.1,←Nat.succ_mul];exact Nat.mul_le_mul_right _ hjl
    rw[List.length_take,List.length_drop]
    omega
  refine hc _ u ?_
  rw[List.getElem?_take]at hu
  split at hu
  · rw[List.getElem?_drop]at hu
    exact hu
  cases hu
theorem Fh {A:Option Addr}{k n c:Nat}(h:d.Q e w base ok (.slice A n c) xs) (hk:k<=xs.length):d.Q e w base ok (.slice (if c=k then A else A.map (·.add (k*d.sz))) (n - k) (c - k)) (xs.drop k):=by
  have hn:n=xs.length:=(Dv h).1
  subst hn
  obtain⟨h0,inner,ho,hr⟩:=h
  have hb:(Value.slice (if c=k then A else A.map (·.add (k*d.sz))) (xs.length - k) (c - k)).ownBlock=(Value.slice A xs.length c).ownBlock:=by
    split
    · cases A<;>rfl
    cases A with
    |none=>rfl
    |some a=>simp[Value.ownBlock];unfold Addr.add;split<;>rfl
  refine⟨fun j hj=>h0 j (by rw[←hb];exact hj),inner.drop (k*d.sz),?_,?_⟩
  · rw[List.length_drop]
    exact M7 ho hk
  rw[hb]
  exact Np hr
theorem JG {okp:Nat->Prop}{v1:Value}{p:α}{inner cs:List Value}(h0:∀k,v.ownBlock=some k->ok k) (hr:oH (d.M W base (fun k=>ok k/\some k≠v.ownBlock)) d.sz xs inner) (hp:d.M W base okp p cs) (rW:∀k,okp k->ok k/\some k≠v.ownBlock) (hfresh:∀k,W.heap.size<=k->ok k)
    (hown:uM w1 base e d.sz v1 (xs.length+1) (inner++cs)) (hg:W.grownBy w1 v.ownBlock) (hat:v1.ownBlock=v.ownBlock\/∃b,v1.ownBlock=some b/\W.heap.size<=b):d.Q e w1 base ok v1 (xs++[p]):=by
  have hne:∀k,some k≠v.ownBlock->k<W.heap.size->some k≠v1.ownBlock:=by
    intro k hk hlt
    rcases hat with hat|⟨b,hb,hle⟩
    · rw[hat];exact hk
    rw[hb]
    intro he
    injection he with he
    omega
  have step:∀ {q:α}{c:List Value}{o:Nat->Prop},d.M W base o q c->(∀k,o k->ok k/\some k≠v.ownBlock)->d.M w1 base (fun k=>ok k/\some k≠v1.ownBlock) q c:=by
    intro q c o hq ho
    have h1:=d.M_move (w1:=w1) (fun k hk=>hg.block k hk.2.2.1 (ho k hk.1).2) (d.M_bound hq)
    exact d.M_mono (fun k hk=>⟨(ho k hk.1).1,hne k (ho k hk.1).2 hk.2.2.1⟩) h1
  refine⟨fun k hk=>?_,inner++cs,by rw[List.length_append,List.length_singleton];exact hown,?_⟩
  · rcases hat with hat|⟨b,hb,hle⟩
    · exact h0 k (hat▸hk)
    rw[hb]at hk
    injection hk with hk
    exact hfresh k (by omega)
  exact(hr.tY (fun _ _ hq=>step hq (fun _ hk=>hk))).snoc (step hp rW) (d.K_len (d.K_of_M hp))
end
section
variable {P:Program}{ops:Array Oper}{rest:List Oper}{o:Oper}{a:Act}{Q':Exit->Act->World->Prop}{Kc:Act->World->Prop}{α:Type}
theorem JJ (d:Kd α) {w0 W:World}(base:Nat) (t ty e:TypeId) (z:Value) (bytes:Nat)
    (ht:P.underlying t=some (.slice e)) (hinfo:(P.info? e).map (fun i=>(i.zero,i.size,i.bytes))=some (some z,d.sz,bytes)) (hz:z.cells.size=d.sz) (hs0:0<d.sz) (hb0:0<bytes)
    (v:Value) (xs:List α) (p:α) (cs:List Value) (ok okp:Nat->Prop) (hp:d.M W base okp p cs) (rW:∀k,okp k->ok k/\some k≠v.ownBlock) (hfresh:∀k,W.heap.size<=k->ok k)
    (HO:d.Q e W base ok v xs) (HB:Below base w0 W) (hbase:base<=W.heap.size) (hl:(xs.length+1)*bytes<=140737488355328):
    ∃v1 w1,(Builtin.append_ #[t,t] ty #[v,.slice (some ⟨W.heap.size,0,none⟩) 1 1]).run P (W.alloc (.cells cs.toArray e))=.ok v1 w1/\d.Q e w1 base ok v1 (xs++[p])/\Below base w0 w1/\W.grownBy w1 v.ownBlock/\(v1.ownBlock=v.ownBlock\/∃b,v1.ownBlock=some b/\W.heap.size<=b):=by
  obtain⟨h0,inner,hown,hr⟩:=HO
  obtain⟨i0,hi,hzz⟩:=Option.map_eq_some_iff.1 hinfo
  simp only [Prod.mk.injEq]at hzz
  obtain⟨hz0,hz1,hz2⟩:=hzz
  have hlen:xs.length+1<=140737488355328:=Nat.le_trans (Nat.le_mul_of_pos_right _ hb0) hl
  have hcl:=d.K_len (d.K_of_M hp)
  have hq:uM (W.alloc (.cells cs.toArray e)) base e d.sz v xs.length inner:=Iy hown (fun k hk=>Below.heap_alloc W _ k (Ez hown k hk))
  obtain⟨v1,w1,hrun,hq1,hg1,hat⟩:=M5 (P:=P) (W.alloc (.cells cs.toArray e)) base t ty e i0 z d.sz bytes ht hi hz0 hz1 hz2 hz hs0 v xs.length inner hq ⟨W.heap.size,0,none⟩ 1 1 cs (by rw[hcl,Nat.one_mul])
    (by simpa using World.news_of_block (cs:=cs.toArray) (t:=e) (fr:=(0,0)) (heap_alloc_new W (.cells cs.toArray e))) (d.K_one (d.K_of_M hp)) (by omega) (by simp only [maxLen];omega) hl (by simp;omega)
  have hg:W.grownBy w1 v.ownBlock:=World.grownBy.trans (World.grownBy_alloc W _ _) hg1
  have hat':v1.ownBlock=v.ownBlock\/∃b,v1.ownBlock=some b/\W.heap.size<=b:=by
    rcases hat with hat|⟨b,hb,hle⟩
    · exact .inl hat
    exact .inr ⟨b,hb,by rw[World.size_alloc]at hle;omega⟩
  exact⟨v1,w1,hrun,JG h0 hr hp rW hfresh hq1 hg hat',HB.grown hg hbase (fun k hk=>(Bb hown k hk).1),hg,hat'⟩
theorem Fg (d:Kd α) {w0 W:World}(base:Nat) (hgd:o.guard=none) (s x:Operand) (t e:TypeId) (z:Value) (bytes:Nat)
    (ho:o.op=.call {callee:=.builtin .append,args:= #[s,x],argTypes:= #[t,t]})
    (ht:P.underlying t=some (.slice e)) (hinfo:(P.info? e).map (fun i=>(i.zero,i.size,i.bytes))=some (some z,d.sz,bytes)) (hz:z.cells.size=d.sz) (hs0:0<d.sz) (hb0:0<bytes)
    (v:Value) (xs:List α) (p:α) (cs:List Value) (ok okp:Nat->Prop) (hs:a.eval s=v) (hx:a.eval x=.slice (some ⟨W.heap.size,0,none⟩) 1 1) (hp:d.M W base okp p cs) (rW:∀k,okp k->ok k/\some k≠v.ownBlock) (hfresh:∀k,W.heap.size<=k->ok k)
    (HO:d.Q e W base ok v xs) (HB:Below base w0 W) (hbase:base<=W.heap.size) (hl:(xs.length+1)*bytes<=140737488355328)
    (h:∀v1 w1,d.Q e w1 base ok v1 (xs++[p])->Below base w0 w1->W.grownBy w1 v.ownBlock->(v1.ownBlock=v.ownBlock\/∃b,v1.ownBlock=some b/\W.heap.size<=b)->wpList P ops Q' rest (a.put o.dst v1) w1):
    wpList P ops Q' (o::rest) a (W.alloc (.cells cs.toArray e)):=by
  obtain⟨v1,w1,hr,h1,h2,h3,h4⟩:=JJ (P:=P) d base t o.type e z bytes ht hinfo hz hs0 hb0 v xs p cs ok okp hp rW hfresh HO HB hbase hl
  refine wpList_plain hgd fun K hK=>?_
  unfold Oper.wp execOp
  simp only [ho,resolve,invoke,builtin,Sem.run_bind,Sem.run_pure,Result.andThen_ok,List.map_toArray,List.map_cons,List.map_nil,hs,hx,hr]
  exact hK _ _ (h v1 w1 h1 h2 h3 h4)
end
end Kd
namespace Kd
section
variable {α:Type}{d:Kd α}{e e':Nat}{w w1 W:World}{base:Nat}{ok:Nat->Prop}{u v:Value}{xs:List α}
theorem sM (h:d.R e w base ok v xs):∀k,v.ownBlock=some k->∃cells,w.heap[k]? =some (.cells cells e (0,0)):=by
  obtain⟨inner,ho⟩:=Ao h
  exact fun k hk=>CV ho k hk
theorem sV (h:d.R e W base ok u xs) (hty:∀k,v.ownBlock=some k->∃cells,W.heap[k]? =some (.cells cells e' (0,0))) (ht:∀q,q∈e::d.E->q≠e') (hg:W.grownBy w1 v.ownBlock):d.R e w1 base ok u xs:=by
  refine nL (zC (vE h) (fun k hk=>hg.block k hk.2.2.1 (fun he=>?_))) (fun _ hk=>hk.1)
  obtain⟨_,_,_,q,hq,cells,hc⟩:=hk
  obtain⟨cells',hc'⟩:=hty k he.symm
  rw[hc]at hc'
  injection hc' with hc'
  injection hc' with _ hc'
  exact ht q hq hc'
theorem vL (h:d.R e W base ok u xs) (hty:∀k,v.ownBlock=some k->∃cells,W.heap[k]? =some (.cells cells e' (0,0))) (ht:∀q,q∈e::d.E->q≠e'):d.R e W base (fun k=>ok k/\some k≠v.ownBlock) u xs:=by
  refine nL (vE h) (fun k hk=>⟨hk.1,fun he=>?_⟩)
  obtain⟨_,_,_,q,hq,cells,hc⟩:=hk
  obtain⟨cells',hc'⟩:=hty k he.symm
  rw[hc]at hc'
  injection hc' with hc'
  injection hc' with _ hc'
  exact ht q hq hc'
theorem Dw (hu:d.R e W base ok u xs) (hbase:∀k,v.ownBlock=some k->W.heap.size<=k) (hb:Below W.heap.size W w1):d.R e w1 base (fun k=>ok k/\some k≠v.ownBlock) u xs:=
  nL (zC (vE hu) (fun k hk=>hb.block k hk.2.2.1)) (fun k hk=>⟨hk.1,fun he=>by have:=hbase k he.symm;have:=hk.2.2.1;omega⟩)
theorem qc (h:d.R e w1 W.heap.size ok v xs) (hlt:∀k,u.ownBlock=some k->k<W.heap.size):d.R e w1 W.heap.size (fun k=>ok k/\some k≠u.ownBlock) v xs:=
  nL (vE h) (fun k hk=>⟨hk.1,fun he=>by have:=hlt k he.symm;have:=hk.2.1;omega⟩)
theorem JK (h:d.Q e w base ok v xs):∀k,v.ownBlock=some k->∃cells,w.heap[k]? =some (.cells cells e (0,0)):=by
  obtain⟨_,inner,ho,_⟩:=h
  exact fun k hk=>(Bb ho k hk).2
theorem JI (h:d.Q e W base ok u xs) (hty:∀k,v.ownBlock=some k->∃cells,W.heap[k]? =some (.cells cells e' (0,0))) (ht:∀q,q∈e::d.E->q≠e') (hg:W.grownBy w1 v.ownBlock):d.Q e w1 base ok u xs:=by
  refine xk (Dt (Bq h) (fun k hk=>hg.block k hk.2.2.1 (fun he=>?_))) (fun _ hk=>hk.1)
  obtain⟨_,_,_,q,hq,cells,hc⟩:=hk
  obtain⟨cells',hc'⟩:=hty k he.symm
  rw[hc]at hc'
  injection hc' with hc'
  injection hc' with _ hc'
  exact ht q hq hc'
theorem Fj (hu:d.Q e W base ok u xs) (hbase:∀k,v.ownBlock=some k->W.heap.size<=k) (hb:Below W.heap.size W w1):d.Q e w1 base (fun k=>ok k/\some k≠v.ownBlock) u xs:=
  xk (Dt (Bq hu) (fun k hk=>hb.block k hk.2.2.1)) (fun k hk=>⟨hk.1,fun he=>by have:=hbase k he.symm;have:=hk.2.2.1;omega⟩)
theorem fresh' (hlt:∀k,u.ownBlock=some k->k<W.heap.size):∀k,W.heap.size<=k->some k≠u.ownBlock:=fun k hk he=>by have:=hlt k he.symm;omega
end
end Kd
theorem Bf {α:Type}(a seg:List α) (o:Nat) (h:o+seg.length<=a.length) (q:Nat):
    (a.take o++seg++a.drop (o+seg.length))[q]? =if q<o then a[q]? else if q<o+seg.length then seg[q - o]? else a[q]? :=by
  have hl:(a.take o).length=o:=by rw[List.length_take];omega
  rw[List.append_assoc]
  by_cases h1:q<o
  · rw[if_pos h1,List.getElem?_append_left (by omega),List.getElem?_take,if_pos h1]
  rw[if_neg h1,List.getElem?_append_right (by omega),hl]
  by_cases h2:q<o+seg.length
  · rw[if_pos h2,List.getElem?_append_left (by omega)]
  rw[if_neg h2,List.getElem?_append_right (by omega),List.getElem?_drop]
  congr 1
  omega
namespace Kd
section
variable {α:Type}{d:Kd α}{e base g n cap:Nat}{ok okp:Nat->Prop}{W:World}{xs:List α}
theorem Bu (h:d.R e W base ok (.slice (some ⟨g,0,none⟩) n cap) xs) (z:α) (i:Int) (h0:0<=i) (h1:i<n):
    ∃c,c.length=d.sz/\d.M W base (fun k=>ok k/\k≠g) (xs.getD i.toNat z) c/\(∀j u,c[j]? =some u->W.cell? ⟨g,i.toNat*d.sz+j,none⟩=some u)/\∀j,W.frozen? ⟨g,i.toNat*d.sz+j,none⟩=false:=by
  obtain⟨hn,hnc,hC⟩:=nK h
  obtain⟨_,inner,ho,hr⟩:=h
  have hil:i.toNat<xs.length:=by omega
  have hseg:i.toNat*d.sz+d.sz<=inner.length:=by rw[hr.1,←Nat.succ_mul];exact Nat.mul_le_mul_right _ hil
  have hM:=hr.2 i.toNat _ (List.getElem?_eq_getElem hil)
  refine⟨(inner.drop (i.toNat*d.sz)).take d.sz,by rw[List.length_take,List.length_drop];omega,?_,fun j u hu=>?_,fun j=>?_⟩
  · rw[List.getD_eq_getElem?_getD,List.getElem?_eq_getElem hil]
    exact d.M_mono (fun k hk=>⟨hk.1,fun he=>hk.2 (by rw[he];simp[Value.ownBlock])⟩) hM
  · rw[List.getElem?_take]at hu
    split at hu
    · rw[List.getElem?_drop]at hu
      have:=ho.cells (g:=g) (by simp[Value.ownBlock]) _ u hu
      rwa [add_plain]at this
    cases hu
  obtain⟨cells,hc⟩:=CV ho g (by simp[Value.ownBlock])
  exact qy hc _
theorem FB (h:d.R e W base ok (.slice (some ⟨g,0,none⟩) n cap) xs) (i:Int) (h0:0<=i) (h1:i<n) {c seg:List Value}{j:Nat}(hcl:c.length=d.sz) (hcc:∀j u,c[j]? =some u->W.cell? ⟨g,i.toNat*d.sz+j,none⟩=some u)
    (hj:j+seg.length<=d.sz) {x':α}(hM:d.M W base okp x' (c.take j++seg++c.drop (j+seg.length))) (rW:∀k,okp k->ok k/\k≠g):
    d.R e (W.setCells g (i.toNat*d.sz+j) seg) base ok (.slice (some ⟨g,0,none⟩) n cap) (xs.set i.toNat x')/\W.grownBy (W.setCells g (i.toNat*d.sz+j) seg) (some g):=by
  obtain⟨hn,hnc,_⟩:=nK h
  obtain⟨hok,inner,ho,hr⟩:=h
  have hil:i.toNat<xs.length:=by omega
  have hseg:i.toNat*d.sz+d.sz<=inner.length:=by rw[hr.1,←Nat.succ_mul];exact Nat.mul_le_mul_right _ hil
  have hin:inner.length=n*d.sz:=by rw[hr.1,hn]
  obtain⟨ho1,ho2⟩:=ho
  rcases ho2 with⟨hv,_⟩|⟨g',cap',cur,hv,hb,hh,hnc',hcm,hcs,ht⟩
  · cases hv
  injection hv with ha _ hc
  injection ha with ha
  injection ha with hg
  subst hg;subst hc
  have hfit:i.toNat*d.sz+j+seg.length<=cur.size:=by
    have:n*d.sz<=cap*d.sz:=Nat.mul_le_mul_right _ hnc
    omega
  obtain⟨cur',h3,h4,h5⟩:=EH seg (i.toNat*d.sz+j) W cur hh hfit
  obtain⟨s1,s2,s3,s4⟩:=EI g seg (i.toNat*d.sz+j) W
  have hfar:∀k,k≠g->(W.setCells g (i.toNat*d.sz+j) seg).heap[k]? =W.heap[k]? :=fun k hk=>EG seg _ k hk
  -- the element's cells before are what was read
  have hcin:∀q,q<d.sz->c[q]? =inner[i.toNat*d.sz+q]? :=by
    intro q hq
    have hq':q<c.length:=by omega
    have h6:=hcc q _ (List.getElem?_eq_getElem hq')
    rw[cell_of_row W g _ cur e (0,0) hh]at h6
    rw[List.getElem?_eq_getElem hq',←h6,←ht,List.getElem?_take,if_pos (by rw[←hn];omega),Array.getElem?_toList]
  refine⟨⟨hok,inner.take (i.toNat*d.sz+j)++seg++inner.drop (i.toNat*d.sz+j+seg.length),⟨?_,.inr ⟨g,cap,cur',by rw[List.length_set,hn],hb,h3,by rw[List.length_set,←hn];exact hnc,hcm,by rw[h4,hcs],?_⟩⟩,?_⟩,
    ⟨s1,s2,s3,by rw[s4];exact Nat.le_refl _,fun k _ hk=>hfar k (fun he=>hk (by rw[he]))⟩⟩
  · rw[List.length_set]
    simp only [List.length_append,List.length_take,List.length_drop]
    rw[hr.1]at hseg⊢
    omega
  · rw[List.length_set,←hn]
    apply List.ext_getElem?
    intro q
    rw[List.getElem?_take,h5]
    rw[Bf cur.toList seg (i.toNat*d.sz+j) (by rw[Array.length_toList];omega) q,Bf inner seg (i.toNat*d.sz+j) (by omega) q]
    have hcur:∀q,q<n*d.sz->cur.toList[q]? =inner[q]? :=by
      intro q hq
      rw[←ht,List.getElem?_take,if_pos (by rw[←hn];exact hq)]
    by_cases hq:q<n*d.sz
    · rw[if_pos hq,hcur q hq]
    rw[if_neg hq,if_neg (by omega),if_neg (by omega),List.getElem?_eq_none (by omega)]
  refine⟨?_,fun m p hm=>?_⟩
  · rw[List.length_set]
    simp only [List.length_append,List.length_take,List.length_drop]
    rw[hr.1]at hseg⊢
    omega
  have hml:m<xs.length:=by
    have:=(List.getElem?_eq_some_iff.1 hm).1
    rwa [List.length_set]at this
  have hmfit:m*d.sz+d.sz<=inner.length:=by rw[hr.1,←Nat.succ_mul];exact Nat.mul_le_mul_right _ hml
  have hgo:some g=(Value.slice (some ⟨g,0,none⟩) n cap).ownBlock:=by simp[Value.ownBlock]
  by_cases hmi:m=i.toNat
  · subst hmi
    rw[List.getElem?_set_self (by omega)]at hm
    injection hm with hm
    subst hm
    have hcells:((inner.take (i.toNat*d.sz+j)++seg++inner.drop (i.toNat*d.sz+j+seg.length)).drop (i.toNat*d.sz)).take d.sz=c.take j++seg++c.drop (j+seg.length):=by
      apply List.ext_getElem?
      intro q
      rw[List.getElem?_take,List.getElem?_drop,Bf inner seg _ (by omega),Bf c seg j (by omega) q]
      by_cases hq:q<d.sz
      · rw[if_pos hq,hcin q hq]
        by_cases hq1:q<j
        · rw[if_pos (by omega),if_pos hq1]
        rw[if_neg (by omega),if_neg hq1]
        by_cases hq2:q<j+seg.length
        · rw[if_pos (by omega),if_pos hq2]
          congr 1
          omega
        rw[if_neg (by omega),if_neg hq2]
      rw[if_neg hq,if_neg (by omega),if_neg (by omega),List.getElem?_eq_none (by omega)]
    rw[hcells]
    refine d.M_mono (fun k hk=>?_) (d.M_move (w1:=W.setCells g (i.toNat*d.sz+j) seg) (fun k hk=>hfar k (rW k hk).2) hM)
    exact⟨(rW k hk).1,fun he=>(rW k hk).2 (by rw[←hgo]at he;injection he)⟩
  rw[List.getElem?_set_ne (by omega)]at hm
  have hold:=hr.2 m p hm
  have hcells:((inner.take (i.toNat*d.sz+j)++seg++inner.drop (i.toNat*d.sz+j+seg.length)).drop (m*d.sz)).take d.sz=(inner.drop (m*d.sz)).take d.sz:=by
    apply List.ext_getElem?
    intro q
    rw[List.getElem?_take,List.getElem?_take,List.getElem?_drop,List.getElem?_drop,Bf inner seg _ (by omega)]
    by_cases hq:q<d.sz
    · rw[if_pos hq,if_pos hq]
      rcases Nat.lt_or_gt_of_ne hmi with hlt|hgt
      · have:m*d.sz+d.sz<=i.toNat*d.sz:=by rw[←Nat.succ_mul];exact Nat.mul_le_mul_right _ hlt
        rw[if_pos (by omega)]
      have:i.toNat*d.sz+d.sz<=m*d.sz:=by rw[←Nat.succ_mul];exact Nat.mul_le_mul_right _ hgt
      rw[if_neg (by omega),if_neg (by omega)]
    rw[if_neg hq,if_neg hq]
  rw[hcells]
  refine d.M_move (fun k hk=>hfar k (fun he=>hk.2 (by rw[he];exact hgo))) hold
end
end Kd
namespace Kd
theorem IM {α:Type}{R:α->List Value->Prop}{size:Nat}{ps qs:List α}{cs ds:List Value}(h:oH R size ps cs) (h':oH R size qs ds):oH R size (ps++qs) (cs++ds):=by
  refine⟨by rw[List.length_append,List.length_append,h.1,h'.1,Nat.add_mul],fun j p hj=>?_⟩
  rcases Nat.lt_or_ge j ps.length with hlt|hge
  · rw[List.getElem?_append_left hlt]at hj
    have hle:j*size+size<=cs.length:=by rw[h.1,←Nat.succ_mul];exact Nat.mul_le_mul_right _ hlt
    rw[List.drop_append_of_le_length (by omega),List.take_append_of_le_length (by rw[List.length_drop];omega)]
    exact h.2 j p hj
  rw[List.getElem?_append_right hge]at hj
  have h2:=h'.2 (j - ps.length) p hj
  have hle:ps.length*size<=j*size:=Nat.mul_le_mul_right _ hge
  rw[List.drop_append,List.drop_eq_nil_of_le (by rw[h.1];exact hle),List.nil_append,h.1,←Nat.sub_mul]
  exact h2
section
variable {P:Program}{ops:Array Oper}{rest:List Oper}{o:Oper}{a:Act}{Q:Exit->Act->World->Prop}{α:Type}
theorem Fu (d:Kd α) {Rr:α->List Value->Prop}{w0 W:World}(base:Nat) (hgd:o.guard=none) (s x:Operand) (t e:TypeId) (z:Value) (bytes:Nat)
    (ho:o.op=.call {callee:=.builtin .append,args:= #[s,x],argTypes:= #[t,t]})
    (ht:P.underlying t=some (.slice e)) (hinfo:(P.info? e).map (fun i=>(i.zero,i.size,i.bytes))=some (some z,d.sz,bytes)) (hz:z.cells.size=d.sz) (hs0:0<d.sz) (hb0:0<bytes)
    (v:Value) (xs ys:List α) (A:Option Addr) (m c:Nat) (ok okp:Nat->Prop) (hs:a.eval s=v) (hx:a.eval x=.slice A m c)
    (HO:d.R e W base ok v xs) (HR:uy Rr d.sz W A m ys) (hKM:∀x cs,Rr x cs->d.M W base okp x cs) (rW:∀k,okp k->ok k/\some k≠v.ownBlock) (hfresh:∀k,W.heap.size<=k->ok k)
    (HB:Below base w0 W) (hbase:base<=W.heap.size) (hl:(xs.length+m)*bytes<=140737488355328)
    (h:∀v1 w1,d.R e w1 base ok v1 (xs++ys)->Below base w0 w1->W.grownBy w1 v.ownBlock->(v1.ownBlock=v.ownBlock\/∃b,v1.ownBlock=some b/\W.heap.size<=b)->wpList P ops Q rest (a.put o.dst v1) w1):
    wpList P ops Q (o::rest) a W:=by
  obtain⟨i0,hi,hzz⟩:=Option.map_eq_some_iff.1 hinfo
  simp only [Prod.mk.injEq]at hzz
  obtain⟨hz0,hz1,hz2⟩:=hzz
  have hm:ys.length=m:=HR.1
  have hlen:xs.length+m<=140737488355328:=Nat.le_trans (Nat.le_mul_of_pos_right _ hb0) hl
  obtain⟨hok,inner,hown,hr⟩:=HO
  have hrun:∃v1 w1,(Builtin.append_ #[t,t] o.type #[v,.slice A m c]).run P W=.ok v1 w1/\d.R e w1 base ok v1 (xs++ys)/\W.grownBy w1 v.ownBlock/\(v1.ownBlock=v.ownBlock\/∃b,v1.ownBlock=some b/\W.heap.size<=b):=by
    rcases A with _|ad
    · have h0:m=0:=by
        rcases Nat.eq_zero_or_pos m with h0|h0
        · exact h0
        obtain⟨ad,h,_⟩:=HR.2.2 h0
        cases h
      subst h0
      obtain rfl:ys=[]:=List.eq_nil_of_length_eq_zero hm
      refine⟨v,W,?_,by rw[List.append_nil];exact⟨hok,inner,hown,hr⟩,World.grownBy.refl W _,.inl rfl⟩
      rcases hown.2 with⟨rfl,hn⟩|⟨g,cap,cur,rfl,_,_,hnc,_⟩
      · simp[Builtin.append_,run_underlying ht,sizeOf,typeInfo,hi,Builtin.lenOf,Builtin.firstCells]
      simp[Builtin.append_,run_underlying ht,sizeOf,typeInfo,hi,Builtin.lenOf,Builtin.firstCells,hnc,storeCells]
    obtain⟨news,hnr,hnc⟩:=uy.Es HR
    have hnM:oH (d.M W base okp) d.sz ys news:=hnr.tY (fun p c hp=>hKM p c hp)
    have hone:∀u∈news,u.oneCell'=true:=by
      intro u hu
      obtain⟨q,hq,rfl⟩:=List.mem_iff_getElem.1 hu
      have hql:q/d.sz<ys.length:=by
        rw[Nat.div_lt_iff_lt_mul hs0]
        rw[←hnM.1]
        exact hq
      have hc:=hnM.2 (q/d.sz) _ (List.getElem?_eq_getElem hql)
      refine d.K_one (d.K_of_M hc) _ ?_
      rw[List.mem_iff_getElem?]
      refine⟨q%d.sz,?_⟩
      rw[List.getElem?_take,if_pos (Nat.mod_lt _ hs0),List.getElem?_drop,Nat.mul_comm,Nat.div_add_mod,List.getElem?_eq_getElem hq]
    obtain⟨v1,w1,hrun,h2,hg,_,hat⟩:=run_append_own_at (P:=P) W base t o.type e i0 z d.sz bytes ht hi hz0 hz1 hz2 hz hs0 v xs.length inner hown ad m c news (by rw[hnM.1,hm]) hnc hone (by simp only [maxLen];omega) hl hbase
    have hat':v1.ownBlock=v.ownBlock\/∃b,v1.ownBlock=some b/\W.heap.size<=b:=by
      rcases hat with hat|hat
      · exact .inl hat
      exact .inr ⟨_,hat,Nat.le_refl _⟩
    have hne:∀k,some k≠v.ownBlock->k<W.heap.size->some k≠v1.ownBlock:=by
      intro k hk hlt
      rcases hat' with hat|⟨b,hb,hle⟩
      · rw[hat];exact hk
      rw[hb]
      intro he
      injection he with he
      omega
    have step:∀ {q:α}{c:List Value}{o:Nat->Prop},d.M W base o q c->(∀k,o k->ok k/\some k≠v.ownBlock)->d.M w1 base (fun k=>ok k/\some k≠v1.ownBlock) q c:=by
      intro q c o hq ho
      have h1:=d.M_move (w1:=w1) (fun k hk=>hg.block k hk.2.2.1 (ho k hk.1).2) (d.M_bound hq)
      exact d.M_mono (fun k hk=>⟨(ho k hk.1).1,hne k (ho k hk.1).2 hk.2.2.1⟩) h1
    refine⟨v1,w1,hrun,⟨fun k hk=>?_,inner++news,by rw[List.length_append,hm];exact h2,IM (hr.tY (fun _ _ hq=>step hq (fun _ hk=>hk))) (hnM.tY (fun _ _ hq=>step hq rW))⟩,hg,hat'⟩
    rcases hat' with hat|⟨b,hb,hle⟩
    · exact hok k (hat▸hk)
    rw[hb]at hk
    injection hk with hk
    exact hfresh k (by omega)
  obtain⟨v1,w1,hr1,h1,hg,hat⟩:=hrun
  refine wpList_plain hgd fun K hK=>?_
  unfold Oper.wp execOp
  simp only [ho,resolve,invoke,builtin,Sem.run_bind,Sem.run_pure,Result.andThen_ok,List.map_toArray,List.map_cons,List.map_nil,hs,hx,hr1]
  exact hK _ _ (h v1 w1 h1 (HB.grown hg hbase (zk hown)) hg hat)
end
end Kd
theorem add_add (a:Addr) (i j:Nat):(a.add i).add j=a.add (i+j):=by
  unfold Addr.add
  by_cases h1:i=0<;>by_cases h2:j=0<;>simp[h1,h2,Nat.add_assoc]
namespace Kd
section
variable {α:Type}{k:Kd α}{w:World}{A:Option Addr}{xs:List α}{m c:Nat}
theorem Jg (h:k.C w A xs.length xs) (hm:m<=xs.length):k.C w A (xs.take m).length (xs.take m):=by
  have hl:(xs.take m).length=m:=by rw[List.length_take];omega
  refine⟨rfl,by rw[hl];have:=h.2.1;omega,fun hp=>?_⟩
  obtain⟨ad,e,hc⟩:=h.2.2 (by omega)
  refine⟨ad,e,fun j p hj=>hc j p ?_⟩
  rw[List.getElem?_take]at hj
  split at hj
  · exact hj
  cases hj
theorem Jd (h:k.C w A xs.length xs) (hm:m<=xs.length) (hc:xs.length<=c):k.C w (if c=m then A else A.map (·.add (m*k.sz))) (xs.drop m).length (xs.drop m):=by
  have hl:(xs.drop m).length=xs.length - m:=List.length_drop
  refine⟨rfl,by rw[hl];have:=h.2.1;omega,fun hp=>?_⟩
  rw[hl]at hp
  obtain⟨ad,rfl,hcell⟩:=h.2.2 (by omega)
  rw[if_neg (by omega)]
  refine⟨ad.add (m*k.sz),rfl,fun j p hj=>?_⟩
  rw[List.getElem?_drop]at hj
  obtain⟨cs,h1,h2,h3⟩:=hcell (m+j) p hj
  refine⟨cs,h1,h2,fun i u hu=>?_⟩
  rw[add_add,show m*k.sz+(j*k.sz+i)=(m+j)*k.sz+i by rw[Nat.add_mul];omega]
  exact h3 i u hu
end
end Kd
theorem oF {w W:World}(h:Below w.heap.size w W):w.heap.size<=W.heap.size:=h.size
theorem o6 {w W w2:World}(h:Below w.heap.size w W) (k:Below W.heap.size W w2):Below w.heap.size w w2:=Ku h h.size k
theorem uG.nil (W:World) (k:IntKind):uG W k none ([]:List Int).length []:=⟨rfl,by simp,fun h=>absurd h (Nat.lt_irrefl 0)⟩
theorem uG.drewN {W:World}{k:IntKind}{A:Option Addr}{n:Nat}{xs:List Int}(h:uG W k A n xs) (m:Nat):uG (W.drewN m) k A n xs:=h
theorem qY {w W:World}{g j:Nat}{v:Value}(h:Below w.heap.size w W) (hg:w.heap.size<=g):Below w.heap.size w (W.setCell ⟨g,j,none⟩ v):=h.setCell hg _
theorem CP {w W:World}{g:Nat}{row:Option Nat}(h:oI w W g row) (m:Nat):oI w (W.drewN m) g row:=h
theorem CO {w W:World}{g:Nat}(h:oI w W g none) (o:Obj):oI w (W.alloc o) g none:=h.trans (oI.wC (World.grownBy_alloc W o none) g) (.inl rfl)
theorem zW {w W:World}{g:Nat}(h:oI w W g none) {a:Addr}{v:Value}(hc:w.cell? a=some v) (hne:a.block≠g):W.cell? a=some v:=by
  have:=h.2 a.block (World.block_lt_of_cell? w a hc) hne (by simp)
  simpa [World.cell?,this] using hc
theorem add_block (a:Addr) (i:Nat):(a.add i).block=a.block:=by unfold Addr.add;split<;>rfl
theorem yf {w0 w w1:World}{B:Nat}(h:Below w0.heap.size w0 w) (hB:w0.heap.size<=B) (k:Below B w w1):Below w0.heap.size w0 w1:=
  h.trans ⟨k.os,k.tape,k.output,k.size,fun i hi=>k.block i (Nat.lt_of_lt_of_le hi hB)⟩
theorem own_base' {w:World}{base:Nat}{e:TypeId}{size n:Nat}{v:Value}{xs:List Value}(h:w.ownsRow base e size v n xs):v.ownBlock=none\/∃b,v.ownBlock=some b/\base<=b:=by
  cases hv:v.ownBlock with
  |none=>exact .inl rfl
  |some b=>exact .inr ⟨b,rfl,zk h b hv⟩
theorem pU {w W:World}{g:Nat}{row:Option Nat}(h:oI w W g row):w.heap.size<=W.heap.size:=h.1
theorem rM.nil {α:Type}(enc:α->Value) (d:α) (W:World):rM enc d W none ([]:List α).length []:=⟨rfl,by simp,fun h=>absurd h (Nat.lt_irrefl 0)⟩
theorem rM.drewN {α:Type}{enc:α->Value}{d:α}{W:World}{A:Option Addr}{n:Nat}{xs:List α}(h:rM enc d W A n xs) (m:Nat):rM enc d (W.drewN m) A n xs:=h
theorem uG.keep {w W:World}{k:IntKind}{A:Option Addr}{n g:Nat}{xs:List Int}(h:uG w k A n xs) (hk:oI w W g none) (hf:∀ad,A=some ad->0<n->ad.block≠g):uG W k A n xs:=
  ⟨h.1,h.2.1,fun hn=>by
    obtain⟨ad,e,hc⟩:=h.2.2 hn
    exact⟨ad,e,fun j hj=>zW hk (hc j hj) (by rw[add_block];exact hf ad e hn)⟩⟩
theorem rM.keep {α:Type}{enc:α->Value}{d:α}{w W:World}{A:Option Addr}{n g:Nat}{xs:List α}(h:rM enc d w A n xs) (hk:oI w W g none) (hf:∀ad,A=some ad->0<n->ad.block≠g):rM enc d W A n xs:=
  ⟨h.1,h.2.1,fun hn=>by
    obtain⟨ad,e,hc⟩:=h.2.2 hn
    exact⟨ad,e,fun j hj=>zW hk (hc j hj) (by rw[add_block];exact hf ad e hn)⟩⟩
theorem cell_far {W:World}{p a:Addr}(h:a.block≠p.block) (u:Value):(W.setCell p u).cell? a=W.cell? a:=by
  have:=Below.heap_setCell W p u a.block h
  simp[World.cell?,this]
theorem BR {w:World}{g:Nat}{t:TypeId}{cs cs':Array Value}(h:w.heap[g]? =some (.cells cs t (0,0))) (i:Nat) (u:Value) (e:cs.setIfInBounds i u=cs'):(w.setCell ⟨g,i,none⟩ u).heap[g]? =some (.cells cs' t (0,0)):=e▸DL h i u
theorem yt {w W:World}{g:Nat}{row:Option Nat}(h:oI w W g row) {p:Addr}(hp:w.heap.size<=p.block) (u:Value):oI w (W.setCell p u) g row:=
  ⟨by simpa [World.setCell] using h.1,fun i hi hg hr=>(Below.heap_setCell W p u i (by omega)).trans (h.2 i hi hg hr)⟩
theorem CU {W:World}{base n c:Nat}{e:TypeId}{size g:Nat}{ad:Addr}{xs:List Value}(_:W.ownsRow base e size (.slice (some ad) n c) n xs) (hne:some g≠(Value.slice (some ad) n c).ownBlock):ad.block≠g:=by
  rintro rfl
  exact hne (by simp[Value.ownBlock])
theorem pz {base:Nat}{w W:World}(h:Below base w W):Below base w W.drew:=h.drew
theorem uV {w W:World}{g:Nat}{row:Option Nat}(h:oI w W g row):oI w W.drew g row:=h
namespace Kd
section
variable {α β:Type}{d:Kd α}{d':Kd β}{e e' base base' n:Nat}{ok ok':Nat->Prop}{w W w1 W1:World}{v u:Value}{xs:List α}{ys:List β}{A:Option Addr}{c:Nat}
theorem CU {ad:Addr}{g:Nat}(hne:some g≠(Value.slice (some ad) n c).ownBlock):ad.block≠g:=by
  rintro rfl
  exact hne (by simp[Value.ownBlock])
theorem zB (h:d.R e w base ok v xs):v.ownBlock=none\/∃k,v.ownBlock=some k/\base<=k:=by
  obtain⟨inner,ho⟩:=Ao h
  exact own_base' ho
end
end Kd
namespace Kd
section
variable {α:Type}{d:Kd α}{e base g:Nat}{ok:Nat->Prop}{w w1:World}{v:Value}{xs:List α}{o:Obj}
theorem Bt (h:d.R e w base ok v xs) (a:Nat) (ha:w.heap.size<=a):d.R e w base (fun k=>ok k/\k≠a) v xs:=nL (vE h) (fun k hk=>⟨hk.1,by have:=hk.2.2.1;omega⟩)
theorem Bw (h:d.R e w1 w.heap.size ok v xs) (hb:w.heap[g]? =some o):d.R e w1 w.heap.size (fun k=>ok k/\k≠g) v xs:=nL (vE h) (fun k hk=>⟨hk.1,by have:=pI hb;have:=hk.2.1;omega⟩)
theorem rV (hb:w.heap[g]? =some o):∀k,w.heap.size<=k->k≠g:=fun k hk=>by have:=pI hb;omega
end
end Kd
section
variable {P:Program}{ops:Array Oper}{rest:List Oper}{o:Oper}{a:Act}{Q:Exit->Act->World->Prop}
theorem KA {W:World}(hgd:o.guard=none) {N:Tmp}(_hd:o.dst=some N) {cs:Array Value}{t:TypeId}
    (hrun:(execOp a.eval o).run P W=.ok (.value (.pointer (some ⟨W.heap.size,0,none⟩))) (W.alloc (.cells cs t (0,0))))
    (h:∀g,g=W.heap.size->∀w1,w1.heap[g]? =some (.cells cs t (0,0))->Below W.heap.size W w1->wpList P ops Q rest (a.put o.dst (.pointer (some ⟨g,0,none⟩))) w1):wpList P ops Q (o::rest) a W:=
  Kd.AU hgd hrun (h _ rfl _ (BQ W _) (rZ (Below.refl _ _) _))
end
namespace Kd
section
variable {α:Type}{enc:α->Value}{h1:∀x,(enc x).oneCell'=true}{e base g n cap:Nat}{ok:Nat->Prop}{W:World}{xs:List α}
theorem uT (d:α) (h:(scalar enc h1).R e W base ok (.slice (some ⟨g,0,none⟩) n cap) xs) (i:Int) (h0:0<=i) (hi:i<n):W.cell? ⟨g,i.toNat,none⟩=some (enc (qz d xs i))/\W.frozen? ⟨g,i.toNat,none⟩=false:=by
  obtain⟨rfl,_⟩:=nK h
  exact JL d h i h0 hi
theorem yI (h:(scalar enc h1).R e W base ok (.slice (some ⟨g,0,none⟩) n cap) xs) (i:Int) (x:α):(scalar enc h1).R e (W.setCell ⟨g,i.toNat,none⟩ (enc x)) base ok (.slice (some ⟨g,0,none⟩) n cap) (xs.set i.toNat x):=by
  obtain⟨rfl,_⟩:=nK h
  exact(Fz h i x).1
end
end Kd
section
variable {P:Program}{ops:Array Oper}{rest:List Oper}{o:Oper}{a:Act}{Q:Exit->Act->World->Prop}
theorem xe {W w1:World}(hgd:o.guard=none) {t:TypeId}{p:Tmp}{v:Operand}(_ho:o.op=.store t (.tmp p) v) (hN:o.dst=none)
    (hrun:(execOp a.eval o).run P W=.ok .skip w1) (h:∀w',w'=w1->wpList P ops Q rest a w'):wpList P ops Q (o::rest) a W:=by
  refine wpList_plain hgd fun K hK=>?_
  unfold Oper.wp
  rw[hrun]
  show K (a.put o.dst undef) w1
  rw[hN]
  exact hK _ _ (h _ rfl)
end
namespace Kd
section
variable {α:Type}{enc:α->Value}{h1:∀x,(enc x).oneCell'=true}{e base g n cap:Nat}{ok:Nat->Prop}{W:World}{xs:List α}
theorem xV (h:(scalar enc h1).R e W base ok (.slice (some ⟨g,0,none⟩) n cap) xs) (i:Int) (x:α):(scalar enc h1).R e (W.setCell ⟨g,i.toNat,none⟩ (enc x)) base ok (.slice (some ⟨g,0,none⟩) n cap) (xs.set i.toNat x)/\W.grownBy (W.setCell ⟨g,i.toNat,none⟩ (enc x)) (some g):=by
  obtain⟨rfl,_⟩:=nK h
  exact Fz h i x
end
end Kd
section
variable {P:Program}{ops:Array Oper}{rest:List Oper}{o:Oper}{a:Act}{Q:Exit->Act->World->Prop}{W:World}
theorem Oy {N:Tmp}(_hN:o.dst=some N) (h:wpList P ops Q (o::rest) a W):wpList P ops Q (o::rest) a W:=h
theorem wW {t:TypeId}{p:Tmp}{v:Operand}(_ho:o.op=.store t (.tmp p) v) (h:wpList P ops Q (o::rest) a W):wpList P ops Q (o::rest) a W:=h
end
section
variable {P:Program}{ops:Array Oper}{o:Oper}{a:Act}{Q:Exit->Act->World->Prop}{Kc:Act->World->Prop}
theorem Hl {W w1:World}{v:Value}(hw:Region.wanted o (yielded ops a.tmps)=true) (hrun:(execOp a.eval o).run P W=.ok (.value v) w1) (h:Kc (a.put o.dst v) w1):if Region.wanted o (yielded ops a.tmps)=true then Oper.wp P o a W Kc Q else Kc (a.put o.dst undef) W:=by
  rw[if_pos hw]
  unfold Oper.wp
  rw[hrun]
  exact h
theorem tK {W:World}(hw:Region.wanted o (yielded ops a.tmps)=true) {N:Tmp}(_hd:o.dst=some N) {cs:Array Value}{t:TypeId}
    (hrun:(execOp a.eval o).run P W=.ok (.value (.pointer (some ⟨W.heap.size,0,none⟩))) (W.alloc (.cells cs t (0,0))))
    (h:∀g,g=W.heap.size->∀w1,w1.heap[g]? =some (.cells cs t (0,0))->Below W.heap.size W w1->Kc (a.put o.dst (.pointer (some ⟨g,0,none⟩))) w1):if Region.wanted o (yielded ops a.tmps)=true then Oper.wp P o a W Kc Q else Kc (a.put o.dst undef) W:=
  Hl hw hrun (h _ rfl _ (BQ W _) (rZ (Below.refl _ _) _))
namespace Kd
variable {α:Type}
theorem Am (d:Kd α) {w0 W:World}(base e:Nat) (hw:Region.wanted o (yielded ops a.tmps)=true) {N:Tmp}(_hd:o.dst=some N) {xs:List α}{inner:List Value}{ok okp:Nat->Prop}
    (hrun:(execOp a.eval o).run P W=.ok (.value (.slice (some ⟨W.heap.size,0,none⟩) xs.length xs.length)) (W.alloc (.cells inner.toArray e)))
    (hrep:oH (d.M W base okp) d.sz xs inner) (hok:∀k,okp k->ok k) (hfresh:ok W.heap.size) (HB:Below base w0 W) (hbase:base<=W.heap.size) (hm:xs.length<=9223372036854775807)
    (h:∀v1 w1,d.R e w1 base ok v1 xs->Below base w0 w1->W.grownBy w1 none->(∃b,v1.ownBlock=some b/\W.heap.size<=b)->Kc (a.put o.dst v1) w1):if Region.wanted o (yielded ops a.tmps)=true then Oper.wp P o a W Kc Q else Kc (a.put o.dst undef) W:=by
  refine Hl hw hrun (h _ _ ⟨fun k hk=>?_,inner,?_,?_⟩ (HB.alloc hbase _) (World.grownBy_alloc W _ none) ⟨W.heap.size,by simp[Value.ownBlock],Nat.le_refl _⟩)
  · have:W.heap.size=k:=by simpa [Value.ownBlock] using hk
    subst this
    exact hfresh
  · have h2:=World.ownsRow_lit (base:=base) (e:=e) (size:=d.sz) W inner.toArray xs.length hbase (by simpa [maxLen] using hm) (by simpa using hrep.1)
    simpa using h2
  refine hrep.tY (fun p c hp=>d.M_mono (fun k hk=>⟨hok k hk.1,fun he=>?_⟩) (E8 (d.M_bound hp) (rZ (Below.refl _ _) _)))
  have h3:k=W.heap.size:=by simpa [Value.ownBlock] using he
  have:=hk.2.2.1
  omega
theorem Fv (d:Kd α) {Rr:α->List Value->Prop}{w0 W:World}(base:Nat) (hw:Region.wanted o (yielded ops a.tmps)=true) (s x:Operand) (t e:TypeId) (z:Value) (bytes:Nat)
    (ho:o.op=.call {callee:=.builtin .append,args:= #[s,x],argTypes:= #[t,t]})
    (ht:P.underlying t=some (.slice e)) (hinfo:(P.info? e).map (fun i=>(i.zero,i.size,i.bytes))=some (some z,d.sz,bytes)) (hz:z.cells.size=d.sz) (hs0:0<d.sz) (hb0:0<bytes)
    (v:Value) (xs ys:List α) (A:Option Addr) (m c:Nat) (ok okp:Nat->Prop) (hs:a.eval s=v) (hx:a.eval x=.slice A m c)
    (HO:d.R e W base ok v xs) (HR:uy Rr d.sz W A m ys) (hKM:∀x cs,Rr x cs->d.M W base okp x cs) (rW:∀k,okp k->ok k/\some k≠v.ownBlock) (hfresh:∀k,W.heap.size<=k->ok k)
    (HB:Below base w0 W) (hbase:base<=W.heap.size) (hl:(xs.length+m)*bytes<=140737488355328)
    (h:∀v1 w1,d.R e w1 base ok v1 (xs++ys)->Below base w0 w1->W.grownBy w1 v.ownBlock->(v1.ownBlock=v.ownBlock\/∃b,v1.ownBlock=some b/\W.heap.size<=b)->Kc (a.put o.dst v1) w1):
    if Region.wanted o (yielded ops a.tmps)=true then Oper.wp P o a W Kc Q else Kc (a.put o.dst undef) W:=by
  obtain⟨i0,hi,hzz⟩:=Option.map_eq_some_iff.1 hinfo
  simp only [Prod.mk.injEq]at hzz
  obtain⟨hz0,hz1,hz2⟩:=hzz
  have hm:ys.length=m:=HR.1
  have hlen:xs.length+m<=140737488355328:=Nat.le_trans (Nat.le_mul_of_pos_right _ hb0) hl
  obtain⟨hok,inner,hown,hr⟩:=HO
  have hrun:∃v1 w1,(Builtin.append_ #[t,t] o.type #[v,.slice A m c]).run P W=.ok v1 w1/\d.R e w1 base ok v1 (xs++ys)/\W.grownBy w1 v.ownBlock/\(v1.ownBlock=v.ownBlock\/∃b,v1.ownBlock=some b/\W.heap.size<=b):=by
    rcases A with _|ad
    · have h0:m=0:=by
        rcases Nat.eq_zero_or_pos m with h0|h0
        · exact h0
        obtain⟨ad,h,_⟩:=HR.2.2 h0
        cases h
      subst h0
      obtain rfl:ys=[]:=List.eq_nil_of_length_eq_zero hm
      refine⟨v,W,?_,by rw[List.append_nil];exact⟨hok,inner,hown,hr⟩,World.grownBy.refl W _,.inl rfl⟩
      rcases hown.2 with⟨rfl,hn⟩|⟨g,cap,cur,rfl,_,_,hnc,_⟩
      · simp[Builtin.append_,run_underlying ht,sizeOf,typeInfo,hi,Builtin.lenOf,Builtin.firstCells]
      simp[Builtin.append_,run_underlying ht,sizeOf,typeInfo,hi,Builtin.lenOf,Builtin.firstCells,hnc,storeCells]
    obtain⟨news,hnr,hnc⟩:=uy.Es HR
    have hnM:oH (d.M W base okp) d.sz ys news:=hnr.tY (fun p c hp=>hKM p c hp)
    have hone:∀u∈news,u.oneCell'=true:=by
      intro u hu
      obtain⟨q,hq,rfl⟩:=List.mem_iff_getElem.1 hu
      have hql:q/d.sz<ys.length:=by
        rw[Nat.div_lt_iff_lt_mul hs0]
        rw[←hnM.1]
        exact hq
      have hc:=hnM.2 (q/d.sz) _ (List.getElem?_eq_getElem hql)
      refine d.K_one (d.K_of_M hc) _ ?_
      rw[List.mem_iff_getElem?]
      refine⟨q%d.sz,?_⟩
      rw[List.getElem?_take,if_pos (Nat.mod_lt _ hs0),List.getElem?_drop,Nat.mul_comm,Nat.div_add_mod,List.getElem?_eq_getElem hq]
    obtain⟨v1,w1,hrun,h2,hg,_,hat⟩:=run_append_own_at (P:=P) W base t o.type e i0 z d.sz bytes ht hi hz0 hz1 hz2 hz hs0 v xs.length inner hown ad m c news (by rw[hnM.1,hm]) hnc hone (by simp only [maxLen];omega) hl hbase
    have hat':v1.ownBlock=v.ownBlock\/∃b,v1.ownBlock=some b/\W.heap.size<=b:=by
      rcases hat with hat|hat
      · exact .inl hat
      exact .inr ⟨_,hat,Nat.le_refl _⟩
    have hne:∀k,some k≠v.ownBlock->k<W.heap.size->some k≠v1.ownBlock:=by
      intro k hk hlt
      rcases hat' with hat|⟨b,hb,hle⟩
      · rw[hat];exact hk
      rw[hb]
      intro he
      injection he with he
      omega
    have step:∀ {q:α}{c:List Value}{o:Nat->Prop},d.M W base o q c->(∀k,o k->ok k/\some k≠v.ownBlock)->d.M w1 base (fun k=>ok k/\some k≠v1.ownBlock) q c:=by
      intro q c o hq ho
      have h1:=d.M_move (w1:=w1) (fun k hk=>hg.block k hk.2.2.1 (ho k hk.1).2) (d.M_bound hq)
      exact d.M_mono (fun k hk=>⟨(ho k hk.1).1,hne k (ho k hk.1).2 hk.2.2.1⟩) h1
    refine⟨v1,w1,hrun,⟨fun k hk=>?_,inner++news,by rw[List.length_append,hm];exact h2,IM (hr.tY (fun _ _ hq=>step hq (fun _ hk=>hk))) (hnM.tY (fun _ _ hq=>step hq rW))⟩,hg,hat'⟩
    rcases hat' with hat|⟨b,hb,hle⟩
    · exact hok k (hat▸hk)
    rw[hb]at hk
    injection hk with hk
    exact hfresh k (by omega)
  obtain⟨v1,w1,hr1,h1,hg,hat⟩:=hrun
  rw[if_pos hw]
  unfold Oper.wp execOp
  simp only [ho,resolve,invoke,builtin,Sem.run_bind,Sem.run_pure,Result.andThen_ok,List.map_toArray,List.map_cons,List.map_nil,hs,hx,hr1]
  exact h v1 w1 h1 (HB.grown hg hbase (zk hown)) hg hat
end Kd
end
end Go.Proofs.YtgeonpciodepgaaW.PrintWords
namespace Go.Proofs.YtgeonpciodepgaaW.PrintLast
section
variable {P:Program}{ops:Array Oper}{Q:Exit->Act->World->Prop}{md:Region.Mode}{S:World->Prop}{ds:List Nat}
def Region.wE (md:Region.Mode) (ops:Array Oper) (i:Nat):Nat->Nat->Bool
  |0,_=>false
  |fuel+1,d=>match ops[d]? with
    |some o=>o.after.any fun e=>Region.binds md e&&(e.on==i||Region.wE md ops i fuel e.on)
    |none=>false
def Region.AQ (md:Region.Mode) (ops:Array Oper) (listed:Array Bool):Bool:=
  (List.range ops.size).all fun j=> !listed.getD j false||match ops[j]? with
    |some o=>o.after.all fun e=> !Region.binds md e||listed.getD e.on false
    |none=>true
def Region.lastB (md:Region.Mode) (ops:Array Oper) (listed:Array Bool) (ds:List Nat) (i:Nat):Bool:=
  ds.all fun d=>listed.getD d true||Region.wE md ops i ops.size d
def yG (md:Region.Mode) (ops:Array Oper) (listed:Array Bool):Prop:=
  ∀j oj,ops[j]? =some oj->listed.getD j false=true->∀e∈oj.after,Region.binds md e=true->listed.getD e.on false=true
theorem Region.KH {listed:Array Bool}(h:Region.AQ md ops listed=true):yG md ops listed:=by
  intro j oj hj hl e he hb
  have hlt:j<ops.size:=(Array.getElem?_eq_some_iff.1 hj).1
  have h1:=List.all_eq_true.1 h j (List.mem_range.2 hlt)
  simp only [hl,hj,Bool.not_true,Bool.false_or]at h1
  have h2:=Array.all_eq_true_iff_forall_mem.1 h1 e he
  simpa [hb] using h2
theorem yG.set {listed:Array Bool}{i:Nat}(h:yG md ops listed) (hi:i∈Region.ready md ops listed):yG md ops (listed.setIfInBounds i true):=by
  obtain⟨_,oi,hoi,hall⟩:=mem_ready.1 hi
  intro j oj hj hl e he hb
  by_cases hij:i=j
  · subst hij
    have:oj=oi:=Option.some.inj (hj.symm.trans hoi)
    subst this
    exact getD_set_true (hall e he hb)
  rw[getD_set_ne false hij]at hl
  exact getD_set_true (h j oj hj hl e he hb)
theorem Region.IK {listed:Array Bool}{i:Nat}(hc:yG md ops listed):∀ (fuel d:Nat),Region.wE md ops i fuel d=true->listed.getD d false=true->listed.getD i false=true
  |0,_,h,_=>by simp[Region.wE]at h
  |fuel+1,d,h,hl=>by
    unfold Region.wE at h
    cases ho:ops[d]? with
    |none=>rw[ho]at h;simp at h
    |some o=>
      rw[ho]at h
      obtain⟨e,he,h1⟩:=Array.any_eq_true'.1 h
      simp only [Bool.and_eq_true,Bool.or_eq_true,beq_iff_eq]at h1
      have hle:=hc d o ho hl e he h1.1
      rcases h1.2 with h2|h2
      · rw[←h2];exact hle
      exact Region.IK hc fuel e.on h2 hle
theorem Region.Nh {listed:Array Bool}{i d fuel:Nat}(hc:yG md ops listed) (hr:Region.wE md ops i fuel d=true) (hun:listed.getD i true=false):d∉Region.ready md ops listed:=by
  intro hd
  obtain⟨_,o,ho,hall⟩:=mem_ready.1 hd
  have hi:listed.getD i false=true:=by
    cases fuel with
    |zero=>simp[Region.wE]at hr
    |succ n=>
      unfold Region.wE at hr
      rw[ho]at hr
      obtain⟨e,he,h1⟩:=Array.any_eq_true'.1 hr
      simp only [Bool.and_eq_true,Bool.or_eq_true,beq_iff_eq]at h1
      have hle:=hall e he h1.1
      rcases h1.2 with h2|h2
      · rw[←h2];exact hle
      exact Region.IK hc n e.on h2 hle
  rcases Nat.lt_or_ge i listed.size with h'|h'
  · simp[h']at hun hi
    rw[hun]at hi
    cases hi
  simp[Array.getElem?_eq_none h']at hun
def pR (P:Program) (md:Region.Mode) (ops:Array Oper) (Q:Exit->Act->World->Prop) (S:World->Prop) (ds:List Nat):Nat->Array Bool->Act->World->Prop
  |0,listed,a,w=>Region.ready md ops listed=[]/\Q .normal a w
  |fuel+1,listed,a,w=>
    (Region.ready md ops listed=[]->Q .normal a w)/\
    ∀i∈Region.ready md ops listed,wpOp P ops Q i (fun a' w'=>(i∉ds->S w->S w')/\pR P md ops Q S ds fuel (listed.setIfInBounds i true) a' w') a w
theorem Jc:∀ (fuel:Nat) (listed:Array Bool) (a:Act) (w:World),pR P md ops Q S ds fuel listed a w->wpAny P md ops Q fuel listed a w
  |0,_,_,_,h=>h
  |fuel+1,_,_,_,h=>⟨h.1,fun i hi=>wpOp_mono (fun a' w' h'=>Jc fuel _ a' w' h'.2) (h.2 i hi)⟩
theorem Od {i:Nat}{oi:Oper}{v:Value}(hi:ops[i]? =some oi) (hsel:∀ (j:Nat) (o:Oper) cs b,ops[j]? =some o->o.op≠.select cs b)
    (hQ:∀c a w,Q (.panic c) (a.put oi.dst v) w->Q (.panic c) a w) (n:Nat):
    ∀ (fuel:Nat) (listed:Array Bool) (a:Act) (w:World),
      (∀j oj,ops[j]? =some oj->j≠i->listed.getD j true=false->(∀e∈oj.after,Region.binds md e=true->e.on≠i)->oi.apart ops oj=true)->
      yG md ops listed->(∀d∈ds,listed.getD d true=false->Region.wE md ops i n d=true)->
      i∈Region.ready md ops listed->YieldsIf P ops S oi v a->S w->
      pR P md ops Q S ds fuel (listed.setIfInBounds i true) (a.put oi.dst v) w->pR P md ops Q S ds (fuel+1) listed a w:=by
  intro fuel
  induction fuel with
  |zero=>
    intro listed a w _ _ _ hr hy hS H
    refine⟨fun h=>(by rw[h]at hr;cases hr),fun j hj=>?_⟩
    by_cases hji:j=i
    · subst hji;exact hy.wpOp hi hS ⟨fun _ h=>h,H⟩
    have:=ready_mono hj hji
    rw[H.1]at this
    cases this
  |succ fuel ih=>
    intro listed a w hfree hc hd hr hy hS H
    refine⟨fun h=>(by rw[h]at hr;cases hr),fun j hj=>?_⟩
    by_cases hji:j=i
    · subst hji;exact hy.wpOp hi hS ⟨fun _ h=>h,H⟩
    have h1:=H.2 j (ready_mono hj hji)
    obtain⟨hjun,oj,hoj,hall⟩:=mem_ready.1 hj
    have hiun:=(mem_ready.1 hr).1
    have hnot:∀e∈oj.after,Region.binds md e=true->e.on≠i:=fun e he hb heq=>by
      have h1:=hall e he hb
      rw[heq]at h1
      rcases Nat.lt_or_ge i listed.size with h'|h'
      · simp[h']at hiun h1;rw[hiun]at h1;cases h1
      simp[Array.getElem?_eq_none h']at h1
    have hjd:j∉ds:=fun hm=>Region.Nh hc (hd j hm hjun) hiun hj
    have h2:=wpOp_putIf hoj (hfree j oj hoj hji hjun hnot) (fun cs b=>hsel i oi cs b hi) (fun cs b=>hsel j oj cs b hoj) hQ hy h1
    have hfree':∀k ok,ops[k]? =some ok->k≠i->(listed.setIfInBounds j true).getD k true=false->
        (∀e∈ok.after,Region.binds md e=true->e.on≠i)->oi.apart ops ok=true:=fun k ok hk hki hun hno=>by
      refine hfree k ok hk hki ?_ hno
      by_cases hjk:j=k
      · subst hjk;exact hjun
      rw[getD_set_ne true hjk]at hun;exact hun
    have hd':∀d∈ds,(listed.setIfInBounds j true).getD d true=false->Region.wE md ops i n d=true:=fun d hm hun=>by
      refine hd d hm ?_
      by_cases hjk:j=d
      · subst hjk;exact hjun
      rw[getD_set_ne true hjk]at hun;exact hun
    refine wpOp_mono (fun a' w' h3=>⟨h3.2.1,ih (listed.setIfInBounds j true) a' w' hfree' (hc.set hj) hd' (ready_mono hr (Ne.symm hji)) h3.1 (h3.2.1 hjd hS) ?_⟩) h2
    rw[Array.setIfInBounds_comm _ _ hji]
    exact h3.2.2
theorem Ob {i:Nat}{oi:Oper}{v:Value}(hi:ops[i]? =some oi) (hsel:∀ (j:Nat) (o:Oper) cs b,ops[j]? =some o->o.op≠.select cs b)
    (hQ:∀c a w,Q (.panic c) (a.put oi.dst v) w->Q (.panic c) a w):
    ∀ (fuel:Nat) (listed:Array Bool) (a:Act) (w:World),
      (∀j oj,ops[j]? =some oj->j≠i->listed.getD j true=false->(∀e∈oj.after,Region.binds md e=true->e.on≠i)->oi.apart ops oj=true)->
      i∈Region.ready md ops listed->Yields P ops oi v a->
      pR P md ops Q S ds fuel (listed.setIfInBounds i true) (a.put oi.dst v) w->pR P md ops Q S ds (fuel+1) listed a w:=by
  intro fuel
  induction fuel with
  |zero=>
    intro listed a w _ hr hy H
    refine⟨fun h=>(by rw[h]at hr;cases hr),fun j hj=>?_⟩
    by_cases hji:j=i
    · subst hji;exact(hy.yieldsIf (S:=fun _=>True)).wpOp hi trivial ⟨fun _ h=>h,H⟩
    have:=ready_mono hj hji
    rw[H.1]at this
    cases this
  |succ fuel ih=>
    intro listed a w hfree hr hy H
    refine⟨fun h=>(by rw[h]at hr;cases hr),fun j hj=>?_⟩
    by_cases hji:j=i
    · subst hji;exact(hy.yieldsIf (S:=fun _=>True)).wpOp hi trivial ⟨fun _ h=>h,H⟩
    have h1:=H.2 j (ready_mono hj hji)
    obtain⟨hjun,oj,hoj,hall⟩:=mem_ready.1 hj
    have hiun:=(mem_ready.1 hr).1
    have hnot:∀e∈oj.after,Region.binds md e=true->e.on≠i:=fun e he hb heq=>by
      have h1:=hall e he hb
      rw[heq]at h1
      rcases Nat.lt_or_ge i listed.size with h'|h'
      · simp[h']at hiun h1;rw[hiun]at h1;cases h1
      simp[Array.getElem?_eq_none h']at h1
    have h2:=wpOp_put hoj (hfree j oj hoj hji hjun hnot) (fun cs b=>hsel i oi cs b hi) (fun cs b=>hsel j oj cs b hoj) hQ hy h1
    have hfree':∀k ok,ops[k]? =some ok->k≠i->(listed.setIfInBounds j true).getD k true=false->
        (∀e∈ok.after,Region.binds md e=true->e.on≠i)->oi.apart ops ok=true:=fun k ok hk hki hun hno=>by
      refine hfree k ok hk hki ?_ hno
      by_cases hjk:j=k
      · subst hjk;exact hjun
      rw[getD_set_ne true hjk]at hun;exact hun
    refine wpOp_mono (fun a' w' h3=>⟨h3.2.1,ih (listed.setIfInBounds j true) a' w' hfree' (ready_mono hr (Ne.symm hji)) h3.1 ?_⟩) h2
    rw[Array.setIfInBounds_comm _ _ hji]
    exact h3.2.2
theorem Oe {i:Nat}{oi:Oper}{v:Value}{fuel:Nat}{listed:Array Bool}{a:Act}{w:World}(hi:ops[i]? =some oi)
    (hs:Region.noSelect ops=true) (hf:Region.free md ops listed i=true) (hr:(Region.ready md ops listed).contains i=true)
    (hc:Region.AQ md ops listed=true) (hl:Region.lastB md ops listed ds i=true)
    (hQ:∀c a w,Q (.panic c) (a.put oi.dst v) w->Q (.panic c) a w) (hy:YieldsIf P ops S oi v a) (hS:S w)
    (h:pR P md ops Q S ds fuel (listed.setIfInBounds i true) (a.put oi.dst v) w):pR P md ops Q S ds (fuel+1) listed a w:=
  Od hi (Region.noSelect_spec hs) hQ ops.size fuel listed a w (Region.free_spec hi hf) (Region.KH hc)
    (fun d hm hun=>by have:=List.all_eq_true.1 hl d hm;rw[hun]at this;simpa using this) (by simpa using hr) hy hS h
theorem Oa {rs:List Nat}{fuel:Nat}{listed:Array Bool}{a:Act}{w:World}(hr:Region.ready md ops listed=rs) (hne:rs≠[])
    (h:∀i∈rs,wpOp P ops Q i (fun a' w'=>(i∉ds->S w->S w')/\pR P md ops Q S ds fuel (listed.setIfInBounds i true) a' w') a w):pR P md ops Q S ds (fuel+1) listed a w:=
  ⟨fun h0=>absurd (hr▸h0) hne,hr▸h⟩
theorem Oc {listed:Array Bool}{a:Act}{w:World}(hr:Region.ready md ops listed=[]) (h:Q .normal a w):
    ∀fuel,pR P md ops Q S ds fuel listed a w
  |0=>⟨hr,h⟩
  |_+1=>⟨fun _=>h,by rw[hr];simp⟩
theorem Og {id:Nat}{a:Act}{w:World}(hm:P.follows .mixedOrders=true)
    (h:pR P .any ops Q S ds ops.size (Array.replicate ops.size false) a {w with drawn:=w.drawn+1}):(Code.region id ops true).wp P Q a w:=
  wp_region_any hm (Jc _ _ _ _ h)
end
section
variable {P:Program}{ops:Array Oper}{Q:Exit->Act->World->Prop}{md:Region.Mode}{S:World->Prop}{ds:List Nat}
def uZ (P:Program) (md:Region.Mode) (ops:Array Oper) (Q:Exit->Act->World->Prop) (S:World->Prop) (ds:List Nat) (fuel:Nat) (listed:Array Bool) (a:Act) (w:World) (rs:List Nat):Prop:=
  ∀i∈rs,wpOp P ops Q i (fun a' w'=>(i∉ds->S w->S w')/\pR P md ops Q S ds fuel (listed.setIfInBounds i true) a' w') a w
theorem uZ.nil {fuel:Nat}{listed:Array Bool}{a:Act}{w:World}:uZ P md ops Q S ds fuel listed a w []:=fun _ h=>by cases h
theorem uZ.cons {fuel:Nat}{listed:Array Bool}{a:Act}{w:World}{i:Nat}{o:Oper}{rs:List Nat}(ho:ops[i]? =some o) (hd:i∉ds)
    (h:∀K':Act->World->Prop,Shut (∀a w,S w->(S w->pR P md ops Q S ds fuel (listed.setIfInBounds i true) a w)->K' a w)->if Region.wanted o (yielded ops a.tmps)=true then Oper.wp P o a w K' Q else K' (a.put o.dst undef) w)
    (hs:uZ P md ops Q S ds fuel listed a w rs):uZ P md ops Q S ds fuel listed a w (i::rs):=fun j hj=>by
  rcases List.mem_cons.1 hj with rfl|hj
  · exact wpOp_step ho (fun K' hK=>h K' (fun a w hS hW=>hK a w ⟨fun _ _=>hS,hW hS⟩))
  exact hs j hj
theorem uZ.KJ {fuel:Nat}{listed:Array Bool}{a:Act}{w:World}{i:Nat}{o:Oper}{rs:List Nat}(ho:ops[i]? =some o) (hd:i∈ds)
    (h:∀K':Act->World->Prop,Shut (∀a w,pR P md ops Q S ds fuel (listed.setIfInBounds i true) a w->K' a w)->if Region.wanted o (yielded ops a.tmps)=true then Oper.wp P o a w K' Q else K' (a.put o.dst undef) w)
    (hs:uZ P md ops Q S ds fuel listed a w rs):uZ P md ops Q S ds fuel listed a w (i::rs):=fun j hj=>by
  rcases List.mem_cons.1 hj with rfl|hj
  · exact wpOp_step ho (fun K' hK=>h K' (fun a w hW=>hK a w ⟨fun hn=>absurd hd hn,hW⟩))
  exact hs j hj
theorem EX {rs:List Nat}{fuel:Nat}{listed:Array Bool}{a:Act}{w:World}(hr:Region.ready md ops listed=rs) (hne:rs≠[])
    (h:uZ P md ops Q S ds fuel listed a w rs):pR P md ops Q S ds (fuel+1) listed a w:=Oa hr hne h
theorem zt {id n:Nat}{a:Act}{w:World}(l:Array Bool) (hm:P.follows .mixedOrders=true) (hn:ops.size=n) (hl:Array.replicate n false=l) (hS:S w.drew)
    (h:S w.drew->pR P .any ops Q S ds n l a w.drew):(Code.region id ops true).wp P Q a w:=by
  subst hn
  subst hl
  exact Og hm (h hS)
def takeB (md:Region.Mode) (ops:Array Oper) (ds:List Nat) (l l':Array Bool) (i:Nat):Bool:=
  Region.noSelect ops&&Region.free md ops l i&&(Region.ready md ops l).contains i&&Region.AQ md ops l&&Region.lastB md ops l ds i&&(l.setIfInBounds i true==l')
theorem uF {i:Nat}{N:Option Tmp}{oi:Oper}{v:Value}{fuel:Nat}{l:Array Bool}{a:Act}{w:World}(l':Array Bool) (hi:ops[i]? =some oi) (hN:oi.dst=N) (hc:takeB md ops ds l l' i=true)
    (hQ:∀c a w,Q (.panic c) (a.put oi.dst v) w->Q (.panic c) a w) (hy:YieldsIf P ops S oi v a) (hS:S w) {a':Act}(ha:a.put N v=a')
    (h:pR P md ops Q S ds fuel l' a' w):pR P md ops Q S ds (fuel+1) l a w:=by
  subst ha
  subst hN
  simp only [takeB,Bool.and_eq_true,beq_iff_eq]at hc
  obtain⟨⟨⟨⟨⟨h1,h2⟩,h3⟩,h4⟩,h5⟩,h6⟩:=hc
  subst h6
  exact Oe hi h1 h2 h3 h4 h5 hQ hy hS h
def yc (md:Region.Mode) (ops:Array Oper) (l l':Array Bool) (i:Nat):Bool:=
  Region.noSelect ops&&Region.free md ops l i&&(Region.ready md ops l).contains i&&(l.setIfInBounds i true==l')
theorem CX {i:Nat}{N:Option Tmp}{oi:Oper}{v:Value}{fuel:Nat}{l:Array Bool}{a:Act}{w:World}(l':Array Bool) (hi:ops[i]? =some oi) (hN:oi.dst=N) (hc:yc md ops l l' i=true)
    (hQ:∀c a w,Q (.panic c) (a.put oi.dst v) w->Q (.panic c) a w) (hy:Yields P ops oi v a) {a':Act}(ha:a.put N v=a')
    (h:pR P md ops Q S ds fuel l' a' w):pR P md ops Q S ds (fuel+1) l a w:=by
  subst ha
  subst hN
  simp only [yc,Bool.and_eq_true,beq_iff_eq]at hc
  obtain⟨⟨⟨h1,h2⟩,h3⟩,h6⟩:=hc
  subst h6
  exact Ob hi (Region.noSelect_spec h1) hQ fuel l a w (Region.free_spec hi h2) (by simpa using h3) hy h
def xL (md:Region.Mode) (ops:Array Oper) (l l':Array Bool) (i:Nat):Bool:=(Region.ready md ops l==[i])&&(l.setIfInBounds i true==l')
theorem wD {i:Nat}{N:Option Tmp}{oi:Oper}{fuel:Nat}{l:Array Bool}{a:Act}{w:World}(l':Array Bool) (hi:ops[i]? =some oi) (hN:oi.dst=N) (hc:xL md ops l l' i=true) (hd:i∉ds)
    (h:∀K:Act->World->Prop,Shut (∀a' w',S w'->(S w'->pR P md ops Q S ds fuel l' a' w')->K a' w')->if Region.wanted oi (yielded ops a.tmps)=true then Oper.wp P oi a w K Q else K (a.put N undef) w):
    pR P md ops Q S ds (fuel+1) l a w:=by
  subst hN
  simp only [xL,Bool.and_eq_true,beq_iff_eq]at hc
  obtain⟨h1,h2⟩:=hc
  subst h2
  exact EX h1 (by simp) (uZ.cons hi hd (fun K hK=>h K hK) uZ.nil)
theorem HV {i:Nat}{N:Option Tmp}{oi:Oper}{fuel:Nat}{l:Array Bool}{a:Act}{w:World}(l':Array Bool) (hi:ops[i]? =some oi) (hN:oi.dst=N) (hc:xL md ops l l' i=true) (hd:i∈ds)
    (h:∀K:Act->World->Prop,Shut (∀a' w',pR P md ops Q S ds fuel l' a' w'->K a' w')->if Region.wanted oi (yielded ops a.tmps)=true then Oper.wp P oi a w K Q else K (a.put N undef) w):
    pR P md ops Q S ds (fuel+1) l a w:=by
  subst hN
  simp only [xL,Bool.and_eq_true,beq_iff_eq]at hc
  obtain⟨h1,h2⟩:=hc
  subst h2
  exact EX h1 (by simp) (uZ.KJ hi hd (fun K hK=>h K hK) uZ.nil)
theorem qb {l:Array Bool}{a:Act}{w:World}{n:Nat}(hr:(Region.ready md ops l==[])=true) (h:Q .normal a w):pR P md ops Q S ds n l a w:=Oc (by simpa using hr) h n
theorem vC {i j:Nat}{Ni Nj:Option Tmp}{oi oj:Oper}{fuel:Nat}{l:Array Bool}{a:Act}{w:World}(li lj:Array Bool) (hi:ops[i]? =some oi) (hj:ops[j]? =some oj) (hNi:oi.dst=Ni) (hNj:oj.dst=Nj)
    (hc:(Region.ready md ops l==[i,j]&&l.setIfInBounds i true==li&&l.setIfInBounds j true==lj)=true) (hdi:i∉ds) (hdj:j∉ds)
    (h1:∀K:Act->World->Prop,Shut (∀a' w',S w'->(S w'->pR P md ops Q S ds fuel li a' w')->K a' w')->if Region.wanted oi (yielded ops a.tmps)=true then Oper.wp P oi a w K Q else K (a.put Ni undef) w)
    (h2:∀K:Act->World->Prop,Shut (∀a' w',S w'->(S w'->pR P md ops Q S ds fuel lj a' w')->K a' w')->if Region.wanted oj (yielded ops a.tmps)=true then Oper.wp P oj a w K Q else K (a.put Nj undef) w):
    pR P md ops Q S ds (fuel+1) l a w:=by
  subst hNi
  subst hNj
  simp only [Bool.and_eq_true,beq_iff_eq]at hc
  obtain⟨⟨h3,h4⟩,h5⟩:=hc
  subst h4
  subst h5
  exact EX h3 (by simp) (uZ.cons hi hdi (fun K hK=>h1 K hK) (uZ.cons hj hdj (fun K hK=>h2 K hK) uZ.nil))
def rJ:Act->List (Tmp×Value)->Act
  |a,[]=>a
  |a,(n,v)::r=>rJ (a.put (some n) v) r
theorem yo {σ:Type}{fuel:Nat}{l:Array Bool}{a:Act}{w:World}(fuel':Nat) (l':Array Bool) (ns:σ->List (Tmp×Value)) (F:σ->World->Prop)
    (hcont:∀s w',F s w'->pR P md ops Q S ds fuel' l' (rJ a (ns s)) w')
    (h:(∀s w',F s w'->pR P md ops Q S ds fuel' l' (rJ a (ns s)) w')->pR P md ops Q S ds fuel l a w):pR P md ops Q S ds fuel l a w:=h hcont
theorem rR {fuel:Nat}{l:Array Bool}{a a':Act}{w:World}(ha:a=a') (h:pR P md ops Q S ds fuel l a' w):pR P md ops Q S ds fuel l a w:=by
  subst ha
  exact h
theorem call_ {oi:Oper}{N:Option Tmp}{a:Act}{w:World}{K:Act->World->Prop}(f:FuncId) (args:Array Value) (hw:Region.wanted oi (yielded ops a.tmps)=true) (hN:oi.dst=N) (hrun:(execOp a.eval oi).run P w=.ok (.enter f args) w)
    (h:Calls P f args w fun e w'=>∃v,e=.returned v/\K (a.put N v) w'):if Region.wanted oi (yielded ops a.tmps)=true then Oper.wp P oi a w K Q else K (a.put N undef) w:=by
  rw[if_pos hw]
  subst hN
  unfold Oper.wp
  rw[hrun,Oper.upon_enter]
  refine h.mono fun e w'' hh=>?_
  obtain⟨v,rfl,hk⟩:=hh
  exact hk
theorem Ha {f : FuncId} {fn : Func} (hf : P.funcs[f]? = some fn) (hname : (fn.name == "runtime.NumGoroutine") = false) (hb : fn.body.isSome = true) (args : Array Value) (w : World) : (callFunc f args).run P w = .ok (.enter f args) w := by
  have h1 : fn.name ≠ "runtime.NumGoroutine" := by simpa using hname
  obtain⟨c,hc⟩:=Option.isSome_iff_exists.1 hb
  simp[callFunc,hf,h1,hc]
theorem uq {oi : Oper} {N : Option Tmp} {a : Act} {w : World} {K : Act → World → Prop} {f : FuncId} {fn : Func} {as_ : Array Operand} {ts : Array TypeId} (hf : P.funcs[f]? = some fn) (hname : (fn.name == "runtime.NumGoroutine") = false) (hb : fn.body.isSome = true) (args : Array Value)
    (hw:Region.wanted oi (yielded ops a.tmps)=true) (hN:oi.dst=N) (hop:oi.op=.call {callee:=.value (.func f),args:=as_,argTypes:=ts}) (hargs:as_.map a.eval=args)
    (h:Calls P f args w fun e w'=>∃v,e=.returned v/\K (a.put N v) w'):if Region.wanted oi (yielded ops a.tmps)=true then Oper.wp P oi a w K Q else K (a.put N undef) w:=by
  refine call_ f args hw hN ?_ h
  have he:=Ha hf hname hb args w
  unfold execOp
  simp[hop,resolve,Deferred.ofValue,invoke,Act.eval,hargs,he]
theorem yn {rest : List Oper} {oi : Oper} {a : Act} {w : World} (N : Option Tmp) (hd : oi.dst = N) (hg : oi.guard = none) {f : FuncId} {fn : Func} {as_ : Array Operand} {ts : Array TypeId} (hf : P.funcs[f]? = some fn) (hname : (fn.name == "runtime.NumGoroutine") = false) (hb : fn.body.isSome = true) (args : Array Value)
    (hop:oi.op=.call {callee:=.value (.func f),args:=as_,argTypes:=ts}) (hargs:as_.map a.eval=args)
    (h:Calls P f args w fun e w'=>∃v,e=.returned v/\wpList P ops Q rest (a.put N v) w'):wpList P ops Q (oi::rest) a w:=by
  refine wpList_plain hg fun K hK=>?_
  have he:=Ha hf hname hb args w
  have hrun:(execOp a.eval oi).run P w=.ok (.enter f args) w:=by
    unfold execOp
    simp[hop,resolve,Deferred.ofValue,invoke,Act.eval,hargs,he]
  unfold Oper.wp
  rw[hrun,Oper.upon_enter]
  refine h.mono fun e w'' hh=>?_
  obtain⟨v,rfl,hk⟩:=hh
  subst hd
  exact hK _ _ hk
theorem wS {oi:Oper}{N:Option Tmp}{a:Act}{w w1:World}{v:Value}{K:Act->World->Prop}(hw:Region.wanted oi (yielded ops a.tmps)=true) (hN:oi.dst=N) (hrun:(execOp a.eval oi).run P w=.ok (.value v) w1)
    (h:K (a.put N v) w1):if Region.wanted oi (yielded ops a.tmps)=true then Oper.wp P oi a w K Q else K (a.put N undef) w:=by
  rw[if_pos hw]
  subst hN
  unfold Oper.wp
  rw[hrun]
  exact h
theorem sG {oi:Oper}{a:Act}{w w1:World}{K:Act->World->Prop}(hw:Region.wanted oi (yielded ops a.tmps)=true) (hN:oi.dst=none) (hrun:(execOp a.eval oi).run P w=.ok .skip w1)
    (h:K a w1):if Region.wanted oi (yielded ops a.tmps)=true then Oper.wp P oi a w K Q else K (a.put none undef) w:=by
  rw[if_pos hw]
  unfold Oper.wp
  rw[hrun]
  show K (a.put oi.dst undef) w1
  rw[hN]
  exact h
theorem qw (n:Int):IntKind.i64.wrap n=Go.RowKit.wrap64 n:=by unfold Go.RowKit.wrap64;exact IntKind.wrap_i64 n
theorem qM (n:Int):IntKind.i32.wrap n=Go.RowKit.wrap32 n:=by unfold Go.RowKit.wrap32;exact IntKind.wrap_i32 n
end
end Go.Proofs.YtgeonpciodepgaaW.PrintLast
namespace Go.Proofs.YtgeonpciodepgaaW.PrintWords
open Go.RowKit
namespace Kd
def tag {α:Type}(f:Nat->Nat) (d:Kd α):Kd (α×Nat) where
  sz:=d.sz
  E:=d.E
  K:=fun w x cs=>d.K w x.1 cs
  M:=fun w base ok x cs=>d.M w base (fun k=>ok k/\f k=x.2) x.1 cs
  K_len:=fun h=>d.K_len h
  K_one:=fun h=>d.K_one h
  K_below:=fun hb h=>d.K_below hb h
  K_of_M:=fun h=>d.K_of_M h
  M_mono:=fun hok h=>d.M_mono (fun k hk=>⟨hok k hk.1,hk.2⟩) h
  M_bound:=fun h=>d.M_mono (fun _ hk=>⟨⟨hk.1.1,hk.2⟩,hk.1.2⟩) (d.M_bound h)
  M_move:=fun hm h=>d.M_move (fun k hk=>hm k hk.1) h
  M_lower:=fun hb h=>d.M_lower hb h
def bare {α:Type}(d:Kd α):Kd α where
  sz:=d.sz
  E:=d.E
  K:=d.K
  M:=fun w base _ x cs=>d.M w base (fun _=>False) x cs
  K_len:=fun h=>d.K_len h
  K_one:=fun h=>d.K_one h
  K_below:=fun hb h=>d.K_below hb h
  K_of_M:=fun h=>d.K_of_M h
  M_mono:=fun _ h=>h
  M_bound:=fun h=>h
  M_move:=fun _ h=>d.M_move (fun _ hk=>hk.elim) h
  M_lower:=fun hb h=>d.M_lower hb h
def raw (sz:Nat):Kd (List Value) where
  sz:=sz
  E:=[]
  K:=fun _ x cs=>cs=x/\cs.length=sz/\∀u∈cs,u.oneCell'=true
  M:=fun _ _ _ x cs=>cs=x/\cs.length=sz/\∀u∈cs,u.oneCell'=true
  K_len:=fun h=>h.2.1
  K_one:=fun h=>h.2.2
  K_below:=fun _ h=>h
  K_of_M:=fun h=>h
  M_mono:=fun _ h=>h
  M_bound:=fun h=>h
  M_move:=fun _ h=>h
  M_lower:=fun _ h=>h
def S {α:Type}(d:Kd α) (e:Nat) (w:World) (base:Nat) (ok:Nat->Prop) (v:Value) (xs:List α):Prop:=∃f,(tag f d).R e w base ok v xs.zipIdx
section
variable {α β:Type}{d:Kd α}{d':Kd β}{e e':Nat}{w w1 W:World}{base b:Nat}{ok ok' okv oku:Nat->Prop}{u v:Value}{xs:List α}{ys:List β}
theorem Dj {xs:List α}{j:Nat}{p:α}(h:xs[j]? =some p):xs.zipIdx[j]? =some (p,j):=by rw[List.getElem?_zipIdx,h,Nat.zero_add];rfl
theorem S_R (h:S d e w base ok v xs):d.R e w base ok v xs:=by
  obtain⟨f,h0,inner,ho,hr⟩:=h
  rw[List.length_zipIdx]at ho
  exact⟨h0,inner,ho,by have:=hr.1;rw[List.length_zipIdx]at this;exact this,fun j p hj=>d.M_mono (fun _ hk=>hk.1) (hr.2 j (p,j) (Dj hj))⟩
theorem Dx {ad:Addr}{n cap:Nat}(h:d.R e w base ok (.slice (some ad) n cap) xs):∃g,ad=⟨g,0,none⟩:=by
  obtain⟨_,inner,ho,hr⟩:=h
  rcases ho.2 with⟨hv,_⟩|⟨g,cap',cur,hv,_⟩
  · cases hv
  injection hv with ha _ _
  injection ha with ha
  exact⟨g,ha⟩
theorem JM {ad:Addr}{n cap:Nat}(h:d.R e W base ok (.slice (some ad) n cap) xs) (z:α) (i:Int) (h0:0<=i) (h1:i<n):
    ∃c,c.length=d.sz/\d.M W base (fun k=>ok k/\some k≠(Value.slice (some ad) n cap).ownBlock) (xs.getD i.toNat z) c/\∀j u,c[j]? =some u->W.cell? (ad.add (i.toNat*d.sz+j))=some u:=by
  obtain⟨g,rfl⟩:=Dx h
  obtain⟨c,hcl,hM,hcc,_⟩:=Bu h z i h0 h1
  refine⟨c,hcl,d.M_mono (fun k hk=>⟨hk.1,fun he=>hk.2 (by simpa [Value.ownBlock] using he)⟩) hM,fun j u hu=>?_⟩
  rw[wM,Nat.zero_add]
  exact hcc j u hu
theorem Oq (h:d.R e w base ok v xs):v.cells.toList=[v]/\v.oneCell'=true:=by
  obtain⟨A,c,rfl⟩:=nX h
  exact⟨rfl,rfl⟩
theorem FC (hE:d.E=[]) (h:d.R e w base ok v xs):d.R e w base (fun k=>some k=v.ownBlock) v xs:=by
  obtain⟨h0,inner,ho,hr⟩:=h
  refine⟨fun k hk=>hk.symm,inner,ho,hr.tY (fun p c hp=>d.M_mono (fun k hk=>?_) (d.M_bound hp))⟩
  obtain⟨_,_,_,q,hq,_⟩:=hk
  rw[hE]at hq
  cases hq
theorem xX (d:Kd α) (e:Nat) (w:World) (base:Nat) (ok:Nat->Prop):S d e w base ok (.slice none 0 0) []:=⟨fun _=>0,wK _ _ _ _ _⟩
theorem uU (h:S d e w base ok v xs) (hok:∀k,ok k->ok' k):S d e w base ok' v xs:=by
  obtain⟨f,h⟩:=h
  exact⟨f,nL h hok⟩
theorem xW (h:S d e w base ok v xs):S d e w base (fun k=>ok k/\base<=k/\k<w.heap.size/\∃q,q∈e::d.E/\∃cells,w.heap[k]? =some (.cells cells q (0,0))) v xs:=by
  obtain⟨f,h⟩:=h
  exact⟨f,vE h⟩
theorem JY (h:S d e w base ok v xs) (hm:∀k,ok k->w1.heap[k]? =w.heap[k]?):S d e w1 base ok v xs:=by
  obtain⟨f,h⟩:=h
  exact⟨f,zC h hm⟩
theorem Dz {base':Nat}(h:S d e w base ok v xs) (hb:base'<=base):S d e w base' ok v xs:=by
  obtain⟨f,h⟩:=h
  exact⟨f,oJ h hb⟩
theorem BC (h:S d e w base ok v xs) (hm:∀k,ok k->k<w.heap.size->w1.heap[k]? =w.heap[k]?):S d e w1 base ok v xs:=
  uU (JY (xW h) (fun k hk=>hm k hk.1 hk.2.2.1)) (fun _ hk=>hk.1)
theorem uO (h:S d e w base ok v xs) (hb:Below w.heap.size w w1):S d e w1 base ok v xs:=BC h (fun k _ hk=>hb.block k hk)
theorem wo (h:S d e w base ok v xs) (o:Obj):S d e (w.alloc o) base ok v xs:=uO h (rZ (Below.refl _ _) o)
theorem vF (h:S d e w base ok v xs):S d e w.drew base ok v xs:=uO h (zF (Below.refl _ _))
theorem wu (h:S d e w base ok v xs) (m:Nat):S d e (w.drewN m) base ok v xs:=uO h (t_ (Below.refl _ _) m)
theorem Ou (h:S d e w base ok v xs) {row:Option Nat}(hg:w.grownBy w1 row) (hok:∀k,ok k->some k≠row):S d e w1 base ok v xs:=BC h (fun k ho hk=>hg.block k hk (hok k ho))
theorem BA (h:S d e w base ok v xs) {p:Addr}(hok:∀k,ok k->k≠p.block) (u:Value):S d e (w.setCell p u) base ok v xs:=BC h (fun k ho _=>Below.heap_setCell w p u k (hok k ho))
theorem BB (h:S d e w base ok v xs) {g:Nat}(hk:oI w w1 g none) (hok:∀k,ok k->k≠g):S d e w1 base ok v xs:=BC h (fun k ho hlt=>hk.2 k hlt (hok k ho) (by simp))
theorem FM (h:S d e w base ok v xs) {g t:Nat}{cells:Array Value}(hb:w.heap[g]? =some (.cells cells t (0,0))) (ht:∀q,q∈e::d.E->q≠t):S d e w base (fun k=>ok k/\k≠g) v xs:=by
  obtain⟨f,h⟩:=h
  exact⟨f,oV h hb ht⟩
theorem zD (h:S d e w base ok v xs):∀k,v.ownBlock=some k->∃cells,w.heap[k]? =some (.cells cells e (0,0)):=sM (S_R h)
theorem JX (h:S d e w base ok v xs):∀k,v.ownBlock=some k->k<w.heap.size:=oU (S_R h)
theorem JU (h:S d e w base ok v xs):∀k,v.ownBlock=some k->base<=k:=uN (S_R h)
theorem FL (h:S d e W base ok u xs) (hty:∀k,v.ownBlock=some k->∃cells,W.heap[k]? =some (.cells cells e' (0,0))) (ht:∀q,q∈e::d.E->q≠e') (hg:W.grownBy w1 v.ownBlock):S d e w1 base ok u xs:=by
  obtain⟨f,h⟩:=h
  exact⟨f,sV h hty ht hg⟩
theorem Bz (h:S d e W base ok u xs) (hbase:∀k,v.ownBlock=some k->W.heap.size<=k) (hb:Below W.heap.size W w1):S d e w1 base (fun k=>ok k/\some k≠v.ownBlock) u xs:=by
  obtain⟨f,h⟩:=h
  exact⟨f,Dw h hbase hb⟩
theorem DC (h:S d e w1 W.heap.size ok v xs) (hlt:∀k,u.ownBlock=some k->k<W.heap.size):S d e w1 W.heap.size (fun k=>ok k/\some k≠u.ownBlock) v xs:=by
  obtain⟨f,h⟩:=h
  exact⟨f,qc h hlt⟩
theorem FE {v1:Value}(h:S d e W base (fun k=>ok k/\some k≠v.ownBlock) u xs) (hg:W.grownBy w1 v.ownBlock) (hat:v1.ownBlock=v.ownBlock\/∃b,v1.ownBlock=some b/\W.heap.size<=b):S d e w1 base (fun k=>ok k/\some k≠v1.ownBlock) u xs:=by
  obtain⟨f,h⟩:=h
  exact⟨f,rU h hg hat⟩
theorem JS (h:(bare d).R e w base ok v xs):S d e w base ok v xs:=by
  obtain⟨h0,inner,ho,hr⟩:=h
  refine⟨fun _=>0,h0,inner,by rw[List.length_zipIdx];exact ho,by rw[List.length_zipIdx];exact hr.1,fun j p hj=>?_⟩
  rw[List.getElem?_zipIdx,Nat.zero_add]at hj
  obtain⟨x,hx,rfl⟩:=Option.map_eq_some_iff.1 hj
  exact d.M_mono (fun _ hk=>hk.elim) (hr.2 j x hx)
theorem JQ {f f':Nat->Nat}{zs:List (α×Nat)}(h:(tag f d).R e w base ok v zs) (hf:∀k,ok k->k<w.heap.size->f' k=f k):(tag f' d).R e w base ok v zs:=by
  obtain⟨h0,inner,ho,hr⟩:=vE h
  exact⟨fun k hk=>(h0 k hk).1,inner,ho,hr.1,fun j p hj=>d.M_mono (fun k hk=>⟨⟨hk.1.1.1,hk.1.2⟩,(hf k hk.1.1.1 hk.1.1.2.2.1).trans hk.2⟩) (hr.2 j p hj)⟩
end
section
variable {α β:Type}{d:Kd α}{d':Kd β}{e e' g:Nat}{w w1 W:World}{base b:Nat}{ok ok' okv oku:Nat->Prop}{u v:Value}{xs:List α}{ys:List β}
theorem FJ (h:S d e w base ok v xs) {t:Nat}{cells:Array Value}(hb:w.heap[g]? =some (.cells cells t (0,0))) (ht:e≠t):some g≠v.ownBlock:=pM (S_R h) hb ht
theorem J5 (h:S d e w base ok v xs):∃A c,v=.slice A xs.length c:=nX (S_R h)
theorem JZ {A:Option Addr}{n c:Nat}(h:S d e w base ok (.slice A n c) xs):n=xs.length/\n<=c/\d.C w A xs.length xs:=nK (S_R h)
theorem Ot {ad:Addr}{n cap:Nat}(h:S d e W base ok (.slice (some ad) n cap) xs) (z:α) (i:Int) (h0:0<=i) (h1:i<n):
    ∃c,c.length=d.sz/\d.M W base (fun k=>ok k/\some k≠(Value.slice (some ad) n cap).ownBlock) (xs.getD i.toNat z) c/\∀j u,c[j]? =some u->W.cell? (ad.add (i.toNat*d.sz+j))=some u:=JM (S_R h) z i h0 h1
theorem Om (xs:List α) (p:α):(xs++[p]).zipIdx=xs.zipIdx++[(p,xs.length)]:=by rw[List.zipIdx_append];simp
end
section
open Classical in
theorem J6 {α:Type}{d:Kd α}{e base:Nat}{okv:Nat->Prop}{w:World}{v:Value}{xs:List α}(h:S d e w base okv v xs) (m:Nat) (okp:Nat->Prop) (hap:∀k,okp k->¬okv k):∃f,(∀k,okp k->f k=m)/\(tag f d).R e w base okv v xs.zipIdx:=by
  obtain⟨f,h⟩:=h
  exact⟨fun k=>if okp k then m else f k,fun k hk=>if_pos hk,JQ h (fun k hk _=>if_neg (fun h2=>hap k h2 hk))⟩
variable {P:Program}{ops:Array Oper}{rest:List Oper}{o:Oper}{a:Act}{Q:Exit->Act->World->Prop}{Kc:Act->World->Prop}{α:Type}
theorem JR (d:Kd α) {w0 W:World}(base:Nat) (hgd:o.guard=none) (s x:Operand) (t e:TypeId) (z:Value) (bytes:Nat)
    (ho:o.op=.call {callee:=.builtin .append,args:= #[s,x],argTypes:= #[t,t]})
    (ht:P.underlying t=some (.slice e)) (hinfo:(P.info? e).map (fun i=>(i.zero,i.size,i.bytes))=some (some z,d.sz,bytes)) (hz:z.cells.size=d.sz) (hs0:0<d.sz) (hb0:0<bytes)
    (v:Value) (xs:List α) (p:α) (cs:List Value) (ok okp:Nat->Prop) (hs:a.eval s=v) (hx:a.eval x=.slice (some ⟨W.heap.size,0,none⟩) 1 1) (hp:d.M W base okp p cs) (rW:∀k,okp k->ok k/\some k≠v.ownBlock) (hfresh:∀k,W.heap.size<=k->ok k)
    (HO:S d e W base (fun k=>ok k/\¬okp k) v xs) (HB:Below base w0 W) (hbase:base<=W.heap.size) (hl:(xs.length+1)*bytes<=140737488355328)
    (h:∀v1 w1,S d e w1 base ok v1 (xs++[p])->Below base w0 w1->W.grownBy w1 v.ownBlock->(v1.ownBlock=v.ownBlock\/∃b,v1.ownBlock=some b/\W.heap.size<=b)->wpList P ops Q rest (a.put o.dst v1) w1):
    wpList P ops Q (o::rest) a (W.alloc (.cells cs.toArray e)):=by
  obtain⟨f,hf,hR⟩:=J6 HO xs.length okp (fun _ hk h2=>h2.2 hk)
  refine sU (tag f d) base hgd s x t e z bytes ho ht hinfo hz hs0 hb0 v xs.zipIdx (p,xs.length) cs ok okp hs hx (d.M_mono (fun k hk=>⟨hk,hf k hk⟩) hp) rW hfresh (nL hR (fun _ hk=>hk.1)) HB hbase (by rw[List.length_zipIdx];exact hl) ?_
  intro v1 w1 hr
  rw[←Om]at hr
  exact h v1 w1 ⟨f,hr⟩
theorem FH (d:Kd α) {w0 W:World}(base e:Nat) (hgd:o.guard=none) {N:Tmp}(_hd:o.dst=some N) {xs:List α}{inner:List Value}{ok okp:Nat->Prop}
    (hrun:(execOp a.eval o).run P W=.ok (.value (.slice (some ⟨W.heap.size,0,none⟩) xs.length xs.length)) (W.alloc (.cells inner.toArray e)))
    (hrep:oH (d.M W base (fun _=>False)) d.sz xs inner) (_hok:∀k,okp k->ok k) (hfresh:ok W.heap.size) (HB:Below base w0 W) (hbase:base<=W.heap.size) (hm:xs.length<=9223372036854775807)
    (h:∀v1 w1,S d e w1 base ok v1 xs->Below base w0 w1->W.grownBy w1 none->(∃b,v1.ownBlock=some b/\W.heap.size<=b)->wpList P ops Q rest (a.put o.dst v1) w1):wpList P ops Q (o::rest) a W:=
  Bv (bare d) base e hgd _hd (ok:=ok) (okp:=ok) hrun hrep (fun _ hk=>hk) hfresh HB hbase hm (fun v1 w1 hr=>h v1 w1 (JS hr))
end
def gap {α:Type}(f:Nat->Nat) (d:Kd α) (i:Nat) (c:List Value):Kd (α×Nat) where
  sz:=d.sz
  E:=d.E
  K:=fun w x cs=>(x.2=i->cs=c/\cs.length=d.sz/\∀u∈cs,u.oneCell'=true)/\(x.2≠i->d.K w x.1 cs)
  M:=fun w base ok x cs=>(x.2=i->cs=c/\cs.length=d.sz/\∀u∈cs,u.oneCell'=true)/\(x.2≠i->d.M w base (fun k=>ok k/\f k=x.2) x.1 cs)
  K_len:=fun{w x cs} h=>by
    by_cases hx:x.2=i
    · exact(h.1 hx).2.1
    exact d.K_len (h.2 hx)
  K_one:=fun{w x cs} h=>by
    by_cases hx:x.2=i
    · exact(h.1 hx).2.2
    exact d.K_one (h.2 hx)
  K_below:=fun hb h=>⟨h.1,fun hx=>d.K_below hb (h.2 hx)⟩
  K_of_M:=fun h=>⟨h.1,fun hx=>d.K_of_M (h.2 hx)⟩
  M_mono:=fun hok h=>⟨h.1,fun hx=>d.M_mono (fun k hk=>⟨hok k hk.1,hk.2⟩) (h.2 hx)⟩
  M_bound:=fun h=>⟨h.1,fun hx=>d.M_mono (fun _ hk=>⟨⟨hk.1.1,hk.2⟩,hk.1.2⟩) (d.M_bound (h.2 hx))⟩
  M_move:=fun hm h=>⟨h.1,fun hx=>d.M_move (fun k hk=>hm k hk.1) (h.2 hx)⟩
  M_lower:=fun hb h=>⟨h.1,fun hx=>d.M_lower hb (h.2 hx)⟩
def H {α:Type}(d:Kd α) (e:Nat) (w:World) (base:Nat) (ok:Nat->Prop) (v:Value) (xs:List α) (i:Int) (oki:Nat->Prop) (c:List Value):Prop:=
  (∀k,oki k->ok k)/\∃f,(gap f d i.toNat c).R e w base (fun k=>ok k/\¬oki k) v xs.zipIdx
section
variable {α β:Type}{d:Kd α}{e e' g n cap:Nat}{w w1 W:World}{base:Nat}{ok ok' oki okp:Nat->Prop}{u v:Value}{xs:List α}{i:Int}{c:List Value}
theorem JW (h:S d e W base ok (.slice (some ⟨g,0,none⟩) n cap) xs) (z:α) (i:Int) (h0:0<=i) (h1:i<n):
    ∃ (oki:Nat->Prop) (c:List Value),c.length=d.sz/\d.M W base oki (xs.getD i.toNat z) c/\(∀j u,c[j]? =some u->W.cell? ⟨g,i.toNat*d.sz+j,none⟩=some u)/\(∀k,oki k->ok k/\k≠g)/\H d e W base ok (.slice (some ⟨g,0,none⟩) n cap) xs i oki c:=by
  obtain⟨f,hR⟩:=h
  have hn:=(nK hR).1
  rw[List.length_zipIdx]at hn
  have hgo:some g=(Value.slice (some ⟨g,0,none⟩) n cap).ownBlock:=by simp[Value.ownBlock]
  obtain⟨hok0,inner,ho,hr⟩:=hR
  have hil:i.toNat<xs.length:=by omega
  have hlen:inner.length=xs.length*d.sz:=by have:=hr.1;rw[List.length_zipIdx]at this;exact this
  have hseg:i.toNat*d.sz+d.sz<=inner.length:=by rw[hlen,←Nat.succ_mul];exact Nat.mul_le_mul_right _ hil
  have hM:=hr.2 i.toNat _ (Dj (List.getElem?_eq_getElem hil))
  have hkg:∀k,some k≠(Value.slice (some ⟨g,0,none⟩) n cap).ownBlock->k≠g:=fun k hk he=>hk (by rw[he];exact hgo)
  refine⟨fun k=>(ok k/\k≠g)/\f k=i.toNat,(inner.drop (i.toNat*d.sz)).take d.sz,by rw[List.length_take,List.length_drop];omega,?_,fun j u hu=>?_,fun k hk=>hk.1,fun k hk=>hk.1.1,f,fun k hk=>⟨hok0 k hk,fun h2=>h2.1.2 ?_⟩,inner,ho,hr.1,fun m p hm=>?_⟩
  · rw[List.getD_eq_getElem?_getD,List.getElem?_eq_getElem hil]
    exact d.M_mono (fun k hk=>⟨⟨hk.1.1,hkg k hk.1.2⟩,hk.2⟩) hM
  · rw[List.getElem?_take]at hu
    split at hu
    · rw[List.getElem?_drop]at hu
      have:=ho.cells (g:=g) hgo.symm _ u hu
      rwa [add_plain]at this
    cases hu
  · rw[←hgo]at hk;injection hk with hk;exact hk.symm
  have hold:=hr.2 m p hm
  have hp2:p.2=m:=by
    rw[List.getElem?_zipIdx,Nat.zero_add]at hm
    obtain⟨q,_,rfl⟩:=Option.map_eq_some_iff.1 hm
    rfl
  refine⟨fun hx=>?_,fun hx=>d.M_mono (fun k hk=>⟨⟨⟨hk.1.1,fun h2=>hx ?_⟩,hk.1.2⟩,hk.2⟩) hold⟩
  · have hmi:m=i.toNat:=by omega
    subst hmi
    exact⟨rfl,d.K_len (d.K_of_M hM),d.K_one (d.K_of_M hM)⟩
  rw[←hk.2];exact h2.2
open Classical in
theorem Jv (h:H d e w base ok v xs i oki c) {x':α}(hM:d.M w base okp x' c) (hok:∀k,okp k->oki k):S d e w base ok v (xs.set i.toNat x'):=by
  obtain⟨ho,f,h0,inner,hown,hr⟩:=h
  refine⟨fun k=>if oki k then i.toNat else f k,fun k hk=>(h0 k hk).1,inner,by rw[List.length_zipIdx,List.length_set];rw[List.length_zipIdx]at hown;exact hown,by have:=hr.1;rw[List.length_zipIdx]at this;rw[List.length_zipIdx,List.length_set];exact this,fun m p hm=>?_⟩
  rw[List.getElem?_zipIdx,Nat.zero_add]at hm
  obtain⟨q,hq,rfl⟩:=Option.map_eq_some_iff.1 hm
  have hml:m<xs.length:=by
    have:=(List.getElem?_eq_some_iff.1 hq).1
    rwa [List.length_set]at this
  by_cases hmi:m=i.toNat
  · subst hmi
    rw[List.getElem?_set_self hml]at hq
    injection hq with hq
    subst hq
    have hc:=((hr.2 i.toNat _ (Dj (List.getElem?_eq_getElem hml))).1 rfl).1
    show d.M w base _ x' ((inner.drop (i.toNat*d.sz)).take d.sz)
    rw[show(inner.drop (i.toNat*d.sz)).take d.sz=c from hc]
    exact d.M_mono (fun k hk=>⟨⟨ho k (hok k hk),fun he=>(h0 k he.symm).2 (hok k hk)⟩,if_pos (hok k hk)⟩) hM
  rw[List.getElem?_set_ne (Ne.symm hmi)]at hq
  exact d.M_mono (fun k hk=>⟨⟨hk.1.1.1,hk.1.2⟩,(if_neg hk.1.1.2).trans hk.2⟩) ((hr.2 m (q,m) (Dj hq)).2 hmi)
theorem Jy (h:H d e w base ok v xs i oki c) (hm:∀k,ok k->¬oki k->k<w.heap.size->w1.heap[k]? =w.heap[k]?):H d e w1 base ok v xs i oki c:=by
  obtain⟨ho,f,h⟩:=h
  exact⟨ho,f,yJ h (fun k hk hlt=>hm k hk.1 hk.2 hlt)⟩
theorem Jw (h:H d e w base ok v xs i oki c) {row:Option Nat}(hg:w.grownBy w1 row) (hrow:∀k,row=some k->oki k):H d e w1 base ok v xs i oki c:=
  Jy h (fun k _ hn hlt=>hg.block k hlt (fun he=>hn (hrow k he.symm)))
theorem JV {ad:Addr}(h:S d e W base ok (.slice (some ad) n cap) xs) (z:α) (i:Int) (h0:0<=i) (h1:i<n):
    ∃ (oki:Nat->Prop) (c:List Value),c.length=d.sz/\d.M W base oki (xs.getD i.toNat z) c/\(∀j u,c[j]? =some u->W.cell? (ad.add (i.toNat*d.sz+j))=some u)/\(∀k,oki k->ok k/\some k≠(Value.slice (some ad) n cap).ownBlock)/\
      ∀ {w1:World}{row:Option Nat}{x':α},W.grownBy w1 row->(∀k,row=some k->oki k)->d.M w1 base oki x' c->S d e w1 base ok (.slice (some ad) n cap) (xs.set i.toNat x'):=by
  obtain⟨g,rfl⟩:=Dx (S_R h)
  obtain⟨oki,c,hcl,hM,hcc,hoki,hH⟩:=JW h z i h0 h1
  refine⟨oki,c,hcl,hM,fun j u hu=>?_,fun k hk=>⟨(hoki k hk).1,fun he=>(hoki k hk).2 ?_⟩,fun hg hrow hM1=>Jv (Jw hH hg hrow) hM1 (fun _ hk=>hk)⟩
  · rw[wM,Nat.zero_add]
    exact hcc j u hu
  simpa [Value.ownBlock] using he
end
end Kd
end Go.Proofs.YtgeonpciodepgaaW.PrintWords
namespace Go.Proofs.YtgeonpciodepgaaW.PrintWords
open Go.RowKit
namespace Kd
structure Heap {α:Type}(d:Kd α):Prop where
  K:∀ {w w1:World}{x:α}{cs:List Value},(∀k,k<w.heap.size->w1.heap[k]? =w.heap[k]?)->d.K w x cs->d.K w1 x cs
theorem KF {w w1:World}(hb:∀k,k<w.heap.size->w1.heap[k]? =w.heap[k]?) {a:Addr}{v:Value}(h:w.cell? a=some v):w1.cell? a=some v:=by
  have:=hb a.block (World.block_lt_of_cell? w a h)
  simpa [World.cell?,this] using h
theorem Heap.C {α:Type}{d:Kd α}(hd:Heap d) {w w1:World}{A:Option Addr}{n:Nat}{xs:List α}(hb:∀k,k<w.heap.size->w1.heap[k]? =w.heap[k]?) (h:d.C w A n xs):d.C w1 A n xs:=
  ⟨h.1,h.2.1,fun hn=>by
    obtain⟨ad,e,hc⟩:=h.2.2 hn
    refine⟨ad,e,fun j p hj=>?_⟩
    obtain⟨c,hs,hr,hcell⟩:=hc j p hj
    exact⟨c,hs,hd.K hb hr,fun i u hu=>KF hb (hcell i u hu)⟩⟩
section
variable {α:Type}{d:Kd α}{e base g n c:Nat}{ok:Nat->Prop}{w w0 W:World}{A:Option Addr}{xs:List α}
theorem Je (h:d.R e W base ok (.slice A n c) xs) (hok:∀k,ok k->k≠g):∀W',oI W W' g none->d.C W' A n xs:=fun W' hk=>by
  have h2:=nK (qB h hk hok)
  rw[h2.1]
  exact h2.2.2
theorem xO (h:∀W',oI w W' g none->d.C W' A n xs) (hk:oI w W g none):d.C W A n xs:=h W hk
end
end Kd
end Go.Proofs.YtgeonpciodepgaaW.PrintWords
namespace Go.Proofs.YtgeonpciodepgaaW.PrintWords
open Go.RowKit
def Kept (w W:World) (S:Nat->Prop):Prop:=w.heap.size<=W.heap.size/\∀i,i<w.heap.size->¬S i->W.heap[i]? =w.heap[i]?
section
variable {w W W2:World}{S S2 S':Nat->Prop}
theorem Kept.refl (w:World) (S:Nat->Prop):Kept w w S:=⟨Nat.le_refl _,fun _ _ _=>rfl⟩
theorem Kept.of_below (h:Below w.heap.size w W) (S:Nat->Prop):Kept w W S:=⟨h.size,fun i hi _=>h.block i hi⟩
theorem Kept.mono (h:Kept w W S) (hs:∀k,S k->S' k):Kept w W S':=⟨h.1,fun i hi hn=>h.2 i hi (fun hk=>hn (hs i hk))⟩
theorem Kept.EN (h:Kept w W S) (k:Kept W W2 S2) (hs:∀k,S2 k->S k\/w.heap.size<=k):Kept w W2 S:=
  ⟨Nat.le_trans h.1 k.1,fun i hi hn=>(k.2 i (Nat.lt_of_lt_of_le hi h.1) (fun h2=>(hs i h2).elim hn (fun h3=>by omega))).trans (h.2 i hi hn)⟩
theorem Kept.wC {row:Option Nat}(hg:W.grownBy W2 row) (h:Kept w W S) (hr:∀k,row=some k->S k\/w.heap.size<=k):Kept w W2 S:=
  h.EN (S2:=fun k=>row=some k) ⟨hg.size,fun i hi hn=>hg.block i hi (fun he=>hn he.symm)⟩ hr
theorem Kept.below (h:Kept w W S) (hb:Below W.heap.size W W2):Kept w W2 S:=h.EN (Kept.of_below hb (fun _=>False)) (fun _ hk=>hk.elim)
theorem Kept.alloc (h:Kept w W S) (o:Obj):Kept w (W.alloc o) S:=h.below (rZ (Below.refl _ _) o)
theorem Kept.drew (h:Kept w W S):Kept w W.drew S:=h
theorem Kept.drewN (h:Kept w W S) (m:Nat):Kept w (W.drewN m) S:=h
theorem Kept.setCell (h:Kept w W S) {p:Addr}(hp:S p.block\/w.heap.size<=p.block) (u:Value):Kept w (W.setCell p u) S:=
  h.EN (S2:=fun k=>k=p.block) ⟨by simp[World.setCell],fun i _ hn=>Below.heap_setCell W p u i hn⟩ (fun k hk=>by rw[hk];exact hp)
theorem Kept.keep {g:Nat}(h:oI w W g none) (k:Kept W W2 S2) (hs:∀k,S2 k->w.heap.size<=k):oI w W2 g none:=
  ⟨Nat.le_trans h.1 k.1,fun i hi hg hr=>(k.2 i (Nat.lt_of_lt_of_le hi h.1) (fun h2=>by have:=hs i h2;omega)).trans (h.2 i hi hg hr)⟩
theorem Kz {g:Nat}{o:Obj}(hb:W.heap[g]? =some o) (hk:Kept W W2 S) (hne:¬S g):W2.heap[g]? =some o:=(hk.2 g (pI hb) hne).trans hb
end
end Go.Proofs.YtgeonpciodepgaaW.PrintWords
namespace Go.Proofs.YtgeonpciodepgaaW.PrintWords
open Go.RowKit
def tq (P:World->Prop) (W:World) (ok:Nat->Prop):Prop:=∀W':World,(∀k,ok k->k<W.heap.size->W'.heap[k]? =W.heap[k]?)->P W'
theorem LG {W W1:World}{k:Nat}(h:W1.heap[k]? =W.heap[k]?) (hlt:k<W.heap.size):k<W1.heap.size:=by
  rw[Array.getElem?_eq_getElem hlt]at h
  exact(Array.getElem?_eq_some_iff.1 h).1
namespace tq
variable {P Q:World->Prop}{W W1:World}{ok ok':Nat->Prop}
theorem now (h:tq P W ok):P W:=h W (fun _ _ _=>rfl)
theorem mono (h:tq P W ok) (hok:∀k,ok k->ok' k):tq P W ok':=fun W' hW=>h W' (fun k hk hlt=>hW k (hok k hk) hlt)
theorem bound (h:tq P W ok):tq P W (fun k=>ok k/\k<W.heap.size):=fun W' hW=>h W' (fun k hk hlt=>hW k ⟨hk,hlt⟩ hlt)
theorem step (h:tq P W ok) (hm:∀k,ok k->k<W.heap.size->W1.heap[k]? =W.heap[k]?):tq P W1 ok:=fun W' hW=>h W' (fun k hk hlt=>(hW k hk (LG (hm k hk hlt) hlt)).trans (hm k hk hlt))
theorem imp (h:tq P W ok) (hi:∀W',P W'->Q W'):tq Q W ok:=fun W' hW=>hi W' (h W' hW)
theorem old (h:tq P W ok) (hb:Below W.heap.size W W1):tq P W1 (fun k=>ok k/\k<W.heap.size):=(h.bound).step (fun k _ hlt=>hb.block k hlt)
end tq
namespace Kd
def F {α:Type}(d:Kd α) (W:World) (ok:Nat->Prop) (A:Option Addr) (n:Nat) (xs:List α):Prop:=tq (fun W=>d.C W A n xs) W ok
def FK {α:Type}(d:Kd α) (W:World) (ok:Nat->Prop) (x:α) (c:List Value):Prop:=tq (fun W=>d.K W x c) W ok
section
variable {α β:Type}{d:Kd α}{e base n n' cc g N:Nat}{ok ok' okp S:Nat->Prop}{w w0 w1 W W1:World}{A A':Option Addr}{u v v1:Value}{xs:List α}{xs':List β}{d':Kd β}{x:α}{c:List Value}
theorem Dm (h:F d W ok A n xs):d.C W A n xs:=tq.now h
theorem Dl (h:F d W ok A n xs) (hok:∀k,ok k->ok' k):F d W ok' A n xs:=tq.mono h hok
theorem Jl (h:F d W ok A n xs):F d W (fun k=>ok k/\k<W.heap.size) A n xs:=tq.bound h
theorem E5 (h:F d W ok A n xs) (hm:∀k,ok k->k<W.heap.size->W1.heap[k]? =W.heap[k]?):F d W1 ok A n xs:=tq.step h hm
theorem EZ (h:F d W ok A n xs) (hi:∀W',d.C W' A n xs->d'.C W' A' n' xs'):F d' W ok A' n' xs':=tq.imp h hi
theorem Bo (h:F d W ok A n xs) (hb:Below W.heap.size W W1):F d W1 ok A n xs:=E5 h (fun k _ hlt=>hb.block k hlt)
theorem Jk (h:F d W ok A n xs) (o:Obj):F d (W.alloc o) ok A n xs:=Bo h (rZ (Below.refl _ _) o)
theorem Jm (h:F d W ok A n xs):F d W.drew ok A n xs:=Bo h (zF (Below.refl _ _))
theorem Jn (h:F d W ok A n xs) (m:Nat):F d (W.drewN m) ok A n xs:=Bo h (t_ (Below.refl _ _) m)
theorem Jq (h:F d W ok A n xs) (hk:oI W W1 g none) (hok:∀k,ok k->k≠g):F d W1 ok A n xs:=E5 h (fun k ho hlt=>hk.2 k hlt (hok k ho) (by simp))
theorem Jr (d:Kd α) (W:World) (ok:Nat->Prop):F d W ok none ([]:List α).length []:=fun W' _=>Jf d W'
theorem Jo (h:F d W ok A n xs) (hbase:∀k,v.ownBlock=some k->W.heap.size<=k) (hb:Below W.heap.size W W1):F d W1 (fun k=>ok k/\some k≠v.ownBlock) A n xs:=
  Dl (tq.old h hb) (fun k hk=>⟨hk.1,fun he=>by have:=hbase k he.symm;have:=hk.2;omega⟩)
theorem Jj (h:F d W (fun k=>ok k/\some k≠v.ownBlock) A n xs) (hg:W.grownBy W1 v.ownBlock) (hat:v1.ownBlock=v.ownBlock\/∃b,v1.ownBlock=some b/\W.heap.size<=b):F d W1 (fun k=>ok k/\some k≠v1.ownBlock) A n xs:=by
  refine Dl (tq.step (Jl h) (fun k hk hlt=>hg.block k hlt hk.1.2)) (fun k hk=>⟨hk.1.1,?_⟩)
  rcases hat with hat|⟨b,hb,hle⟩
  · rw[hat];exact hk.1.2
  rw[hb]
  intro he
  injection he with he
  have:=hk.2
  omega
theorem R_F (h:d.R e W base ok (.slice A n cc) xs):F d W ok A n xs:=fun W' hW=>by
  have h2:=nK (yJ h hW)
  rw[h2.1]
  exact h2.2.2
theorem vZ (h:FK d W ok x c):d.K W x c:=tq.now h
theorem yF (h:FK d W ok x c) (hok:∀k,ok k->ok' k):FK d W ok' x c:=tq.mono h hok
theorem Dk (h:FK d W ok x c):FK d W (fun k=>ok k/\k<W.heap.size) x c:=tq.bound h
theorem Ah (h:FK d W ok x c) (hm:∀k,ok k->k<W.heap.size->W1.heap[k]? =W.heap[k]?):FK d W1 ok x c:=tq.step h hm
theorem Jh (h:d.M W base ok x c):FK d W ok x c:=fun _ hW=>d.K_of_M (E9 h hW)
theorem Lc (W:World) (g:Nat):∃W':World,(∀k,k≠g->W'.heap[k]? =W.heap[k]?)/\∀a:Addr,a.block=g->W'.cell? a=none:=by
  refine⟨{W with heap:=W.heap.setIfInBounds g (.cells #[] 0)},fun k hk=>by simp[Ne.symm hk],fun a ha=>?_⟩
  subst ha
  by_cases hlt:a.block<W.heap.size
  · simp[World.cell?,hlt]
  simp[World.cell?,hlt]
end
end Kd
end Go.Proofs.YtgeonpciodepgaaW.PrintWords
namespace Go.Proofs.YtgeonpciodepgaaW.PrintWords
open Go.RowKit
namespace Kd
def chunks (sz:Nat) (n:Nat) (inner:List Value):List (List Value):=(List.range n).map fun j=>(inner.drop (j*sz)).take sz
theorem vN (sz n:Nat) (inner:List Value):(chunks sz n inner).length=n:=by simp[chunks]
theorem KG {sz n:Nat}{inner:List Value}{j:Nat}(hj:j<n):(chunks sz n inner)[j]? =some ((inner.drop (j*sz)).take sz):=by simp[chunks,hj]
theorem zO {sz n:Nat}{inner:List Value}{j:Nat}{c:List Value}(h:(chunks sz n inner)[j]? =some c):c=(inner.drop (j*sz)).take sz:=by
  have hj:j<n:=by have:=(List.getElem?_eq_some_iff.1 h).1;rwa [vN]at this
  rw[KG hj]at h
  injection h with h
  exact h.symm
theorem EF {α:Type}{Rr:α->List Value->Prop}{sz:Nat}{xs:List α}{inner:List Value}(h:oH Rr sz xs inner) (hR:∀x c,Rr x c->c.length=sz/\∀u∈c,u.oneCell'=true):oH (fun x cs=>cs=x/\cs.length=sz/\∀u∈cs,u.oneCell'=true) sz (chunks sz xs.length inner) inner:=by
  refine⟨by rw[vN];exact h.1,fun j p hj=>?_⟩
  have hjl:j<xs.length:=by have:=(List.getElem?_eq_some_iff.1 hj).1;rwa [vN]at this
  have hp:=zO hj
  exact⟨hp.symm,hR _ _ (h.2 j _ (List.getElem?_eq_getElem hjl))⟩
section
variable {α:Type}{d:Kd α}{e base n cc g:Nat}{ok ok' okp S:Nat->Prop}{w w1 W W1:World}{A:Option Addr}{u v v1:Value}{xs:List α}{x:α}{c:List Value}
theorem Jp (h:F d W ok A n xs) (z:α) (i:Int) (h0:0<=i) (h1:i<n):
    ∃ad c,A=some ad/\c.length=d.sz/\FK d W ok (xs.getD i.toNat z) c/\(∀j u,c[j]? =some u->W.cell? (ad.add (i.toNat*d.sz+j))=some u)/\(0<d.sz->ok ad.block):=by
  obtain⟨ad,c,rfl,hcl,hK,hcc⟩:=Ag (Dm h) z i h0 h1
  have hin:0<d.sz->ok ad.block:=by
    intro hs
    by_cases hk:ok ad.block
    · exact hk
    obtain⟨W',h2,h3⟩:=Lc W ad.block
    obtain⟨ad',c',he,hcl',_,hcc'⟩:=Ag (h W' (fun k hk' _=>h2 k (fun e=>hk (e▸hk')))) z i h0 h1
    injection he with he
    subst he
    have h4:=hcc' 0 _ (List.getElem?_eq_getElem (by omega))
    rw[h3 _ (add_block _ _)]at h4
    cases h4
  refine⟨ad,c,rfl,hcl,fun W' hW=>?_,hcc,hin⟩
  obtain⟨ad',c',he,hcl',hK',hcc'⟩:=Ag (h W' hW) z i h0 h1
  injection he with he
  subst he
  have hc:c=c':=by
    apply List.ext_getElem?
    intro j
    by_cases hj:j<d.sz
    · have hb:W'.heap[ad.block]? =W.heap[ad.block]? :=by
        have h5:=hcc j _ (List.getElem?_eq_getElem (by omega))
        have h6:=World.block_lt_of_cell? W _ h5
        rw[add_block]at h6
        exact hW _ (hin (by omega)) h6
      have h5:=hcc j _ (List.getElem?_eq_getElem (by omega))
      have h6:=hcc' j _ (List.getElem?_eq_getElem (by omega))
      have h7:W'.cell? (ad.add (i.toNat*d.sz+j))=W.cell? (ad.add (i.toNat*d.sz+j)):=by simp[World.cell?,add_block,hb]
      rw[h7,h5]at h6
      rw[List.getElem?_eq_getElem (by omega),List.getElem?_eq_getElem (by omega)]
      exact h6
    rw[List.getElem?_eq_none (by omega),List.getElem?_eq_none (by omega)]
  rw[hc]
  exact hK'
theorem Js (h:F d W ok A n xs):uy (fun x c=>FK d W ok x c) d.sz W A n xs:=by
  obtain⟨hl,hm,hn⟩:=Dm h
  refine⟨hl,hm,fun hp=>?_⟩
  obtain⟨ad,rfl,_⟩:=hn hp
  refine⟨ad,rfl,fun j p hj=>?_⟩
  obtain⟨hjl,hjp⟩:=List.getElem?_eq_some_iff.1 hj
  obtain⟨ad',c,he,hcl,hK,hcc,_⟩:=Jp h p (j:Int) (by omega) (by omega)
  injection he with he
  subst he
  simp only [Int.toNat_natCast]at hK hcc
  rw[List.getD_eq_getElem?_getD,hj]at hK
  exact⟨c,hcl,hK,hcc⟩
def N {α:Type}(d:Kd α) (e:Nat) (w:World) (base:Nat) (ok:Nat->Prop) (v:Value) (xs:List α):Prop:=
  (∀k,v.ownBlock=some k->ok k)/\∃rows:List (List Value),rows.length=xs.length/\(raw d.sz).R e w base (fun k=>some k=v.ownBlock) v rows/\∀ (j:Nat) (x:α) (c:List Value),xs[j]? =some x->rows[j]? =some c->FK d w (fun k=>ok k/\some k≠v.ownBlock) x c
theorem EC {sz:Nat}{rows:List (List Value)}(h:(raw sz).R e w base ok v rows):(raw sz).R e w base (fun k=>some k=v.ownBlock) v rows:=FC rfl h
theorem EB {sz:Nat}{rows:List (List Value)}(h:(raw sz).R e w base ok v rows):(raw sz).R e w base (fun _=>True) v rows:=nL h (fun _ _=>trivial)
theorem R_N (h:d.R e w base ok v xs):N d e w base ok v xs:=by
  obtain⟨h0,inner,ho,hr⟩:=h
  refine⟨h0,chunks d.sz xs.length inner,vN _ _ _,⟨fun k hk=>hk.symm,inner,by rw[vN];exact ho,EF hr (fun x c hp=>⟨d.K_len (d.K_of_M hp),d.K_one (d.K_of_M hp)⟩)⟩,fun j x c hx hc=>?_⟩
  rw[zO hc]
  exact Jh (hr.2 j x hx)
theorem S_N (h:Kd.S d e w base ok v xs):N d e w base ok v xs:=R_N (S_R h)
theorem xQ (d:Kd α) (e:Nat) (w:World) (base:Nat) (ok:Nat->Prop):N d e w base ok (.slice none 0 0) []:=R_N (wK _ _ _ _ _)
theorem qG (h:N d e w base ok v xs) (hok:∀k,ok k->ok' k):N d e w base ok' v xs:=by
  obtain⟨h0,rows,hl,hR,hf⟩:=h
  exact⟨fun k hk=>hok k (h0 k hk),rows,hl,hR,fun j x c hx hc=>yF (hf j x c hx hc) (fun k hk=>⟨hok k hk.1,hk.2⟩)⟩
theorem Dq (h:N d e w base ok v xs):∀k,v.ownBlock=some k->k<w.heap.size:=by
  obtain⟨_,rows,_,hR,_⟩:=h
  exact oU hR
theorem Bp (h:N d e w base ok v xs):∀k,v.ownBlock=some k->base<=k:=by
  obtain⟨_,rows,_,hR,_⟩:=h
  exact uN hR
theorem Ai (h:N d e w base ok v xs):v.ownBlock=none\/∃k,v.ownBlock=some k/\base<=k:=by
  obtain⟨_,rows,_,hR,_⟩:=h
  exact zB hR
theorem wH (h:N d e w base ok v xs):∀k,v.ownBlock=some k->∃cells,w.heap[k]? =some (.cells cells e (0,0)):=by
  obtain⟨_,rows,_,hR,_⟩:=h
  exact sM hR
theorem wG (h:N d e w base ok v xs) {t:Nat}{cells:Array Value}(hb:w.heap[g]? =some (.cells cells t (0,0))) (ht:e≠t):some g≠v.ownBlock:=by
  obtain⟨_,rows,_,hR,_⟩:=h
  exact pM hR hb ht
theorem Dp (h:N d e w base ok v xs):N d e w base (fun k=>ok k/\k<w.heap.size) v xs:=by
  have hlt:=Dq h
  obtain⟨h0,rows,hl,hR,hf⟩:=h
  exact⟨fun k hk=>⟨h0 k hk,hlt k hk⟩,rows,hl,hR,fun j x c hx hc=>yF (Dk (hf j x c hx hc)) (fun k hk=>⟨⟨hk.1.1,hk.2⟩,hk.1.2⟩)⟩
theorem wU {base':Nat}(h:N d e w base ok v xs) (hb:base'<=base):N d e w base' ok v xs:=by
  obtain⟨h0,rows,hl,hR,hf⟩:=h
  exact⟨h0,rows,hl,oJ hR hb,hf⟩
theorem Al (h:N d e w base ok v xs) (hm:∀k,ok k->k<w.heap.size->w1.heap[k]? =w.heap[k]?):N d e w1 base ok v xs:=by
  obtain⟨h0,rows,hl,hR,hf⟩:=h
  exact⟨h0,rows,hl,yJ hR (fun k hk hlt=>hm k (h0 k hk.symm) hlt),fun j x c hx hc=>Ah (hf j x c hx hc) (fun k hk hlt=>hm k hk.1 hlt)⟩
theorem v_ (h:N d e w base ok v xs) (hb:Below w.heap.size w w1):N d e w1 base ok v xs:=Al h (fun k _ hk=>hb.block k hk)
theorem ul (h:N d e w base ok v xs) (o:Obj):N d e (w.alloc o) base ok v xs:=v_ h (rZ (Below.refl _ _) o)
theorem uf (h:N d e w base ok v xs):N d e w.drew base ok v xs:=v_ h (zF (Below.refl _ _))
theorem um (h:N d e w base ok v xs) (m:Nat):N d e (w.drewN m) base ok v xs:=v_ h (t_ (Below.refl _ _) m)
theorem uL (h:N d e w base ok v xs) {p:Addr}(hok:∀k,ok k->k≠p.block) (u:Value):N d e (w.setCell p u) base ok v xs:=Al h (fun k ho _=>Below.heap_setCell w p u k (hok k ho))
theorem wT (h:N d e w base ok v xs) (hk:oI w w1 g none) (hok:∀k,ok k->k≠g):N d e w1 base ok v xs:=Al h (fun k ho hlt=>hk.2 k hlt (hok k ho) (by simp))
theorem xP (h:N d e W base ok v xs) (hbase:∀k,u.ownBlock=some k->W.heap.size<=k) (hb:Below W.heap.size W w1):N d e w1 base (fun k=>ok k/\some k≠u.ownBlock) v xs:=
  qG (v_ (Dp h) hb) (fun k hk=>⟨hk.1,fun he=>by have:=hbase k he.symm;have:=hk.2;omega⟩)
theorem JC (h:N d e w base ok v xs) (a:Nat) (ha:w.heap.size<=a):N d e w base (fun k=>ok k/\k≠a) v xs:=qG (Dp h) (fun k hk=>⟨hk.1,by have:=hk.2;omega⟩)
theorem JA (h:N d e W base (fun k=>ok k/\some k≠u.ownBlock) v xs) {u1:Value}(hg:W.grownBy w1 u.ownBlock) (hat:u1.ownBlock=u.ownBlock\/∃b,u1.ownBlock=some b/\W.heap.size<=b):N d e w1 base (fun k=>ok k/\some k≠u1.ownBlock) v xs:=by
  refine qG (Al (Dp h) (fun k hk hlt=>hg.block k hlt hk.1.2)) (fun k hk=>⟨hk.1.1,?_⟩)
  rcases hat with hat|⟨b,hb,hle⟩
  · rw[hat];exact hk.1.2
  rw[hb]
  intro he
  injection he with he
  have:=hk.2
  omega
theorem xR (h:N d e w base ok v xs):∃A c,v=.slice A xs.length c:=by
  obtain⟨_,rows,hl,hR,_⟩:=h
  obtain⟨A,c,he⟩:=nX hR
  exact⟨A,c,by rw[he,hl]⟩
theorem Fb (h:N d e w base ok v xs) (hp:0<xs.length):∃g cap,v=.slice (some ⟨g,0,none⟩) xs.length cap/\base<=g/\g<w.heap.size/\∃cells,w.heap[g]? =some (.cells cells e (0,0)):=by
  obtain⟨_,rows,hl,hR,_⟩:=h
  rw[←hl]at hp⊢
  exact xU hR hp
theorem tu {n c:Nat}(h:N d e w base ok (.slice A n c) xs):n=xs.length/\n<=c/\d.C w A xs.length xs:=by
  obtain⟨_,rows,hl,hR,hf⟩:=h
  obtain⟨hn,hc,hC⟩:=nK hR
  refine⟨by omega,hc,?_⟩
  rw[hl]at hC
  refine⟨rfl,hC.2.1,fun hp=>?_⟩
  obtain⟨ad,he,hcell⟩:=hC.2.2 hp
  refine⟨ad,he,fun j p hj=>?_⟩
  have hjl:j<rows.length:=by have:=(List.getElem?_eq_some_iff.1 hj).1;omega
  obtain⟨c',hcl,hK,hcc⟩:=hcell j _ (List.getElem?_eq_getElem hjl)
  have hk:=vZ (hf j p _ hj (List.getElem?_eq_getElem hjl))
  refine⟨c',hcl,?_,hcc⟩
  rw[show c'=rows[j] from hK.1]
  exact hk
theorem N_F {n:Nat}(h:N d e w base ok (.slice A n cc) xs):F d w ok A n xs:=fun W' hW=>by
  have h2:=tu (Al h hW)
  rw[h2.1]
  exact h2.2.2
theorem Aj {n cap:Nat}(h:N d e W base ok (.slice (some ⟨g,0,none⟩) n cap) xs) (z:α) (i:Int) (h0:0<=i) (h1:i<n):
    ∃c,c.length=d.sz/\FK d W (fun k=>ok k/\k≠g) (xs.getD i.toNat z) c/\(∀j u,c[j]? =some u->W.cell? ⟨g,i.toNat*d.sz+j,none⟩=some u)/\∀j,W.frozen? ⟨g,i.toNat*d.sz+j,none⟩=false:=by
  obtain⟨_,rows,hl,hR,hf⟩:=h
  have hn:=(nK hR).1
  obtain⟨c,hcl,hM,hcc,hfr⟩:=Bu hR [] i h0 h1
  have hil:i.toNat<rows.length:=by omega
  have hil':i.toNat<xs.length:=by omega
  have hc:c=rows[i.toNat]:=by
    have h2:=hM.1
    rwa [List.getD_eq_getElem?_getD,List.getElem?_eq_getElem hil]at h2
  refine⟨c,hcl,?_,hcc,hfr⟩
  rw[List.getD_eq_getElem?_getD,List.getElem?_eq_getElem hil']
  exact yF (hf _ _ _ (List.getElem?_eq_getElem hil') (by rw[hc];exact List.getElem?_eq_getElem hil)) (fun k hk=>⟨hk.1,fun he=>hk.2 (by rw[he];simp[Value.ownBlock])⟩)
theorem Ak {ad:Addr}{n cap:Nat}(h:N d e W base ok (.slice (some ad) n cap) xs) (z:α) (i:Int) (h0:0<=i) (h1:i<n):
    ∃c,c.length=d.sz/\FK d W (fun k=>ok k/\some k≠(Value.slice (some ad) n cap).ownBlock) (xs.getD i.toNat z) c/\∀j u,c[j]? =some u->W.cell? (ad.add (i.toNat*d.sz+j))=some u:=by
  obtain⟨g,rfl⟩:∃g,ad=⟨g,0,none⟩:=by
    obtain⟨_,rows,_,hR,_⟩:=h
    exact Dx hR
  obtain⟨c,hcl,hM,hcc,_⟩:=Aj h z i h0 h1
  refine⟨c,hcl,yF hM (fun k hk=>⟨hk.1,fun he=>hk.2 (by simpa [Value.ownBlock] using he)⟩),fun j u hu=>?_⟩
  rw[wM,Nat.zero_add]
  exact hcc j u hu
end
end Kd
end Go.Proofs.YtgeonpciodepgaaW.PrintWords
namespace Go.Proofs.YtgeonpciodepgaaW.PrintWords
open Go.RowKit
section
variable {P:Program}{d:Nat}{xs ys:Array Value}{f:Field}{fs:List Field}{a b:Value}{r s:Bool}{w:World}
theorem Hf (hn : (f.name == "_") = false) (ha : (part f.type xs f.offset).run P w = .ok a w) (hb : (part f.type ys f.offset).run P w = .ok b w) (he : (Op.equalIn d f.type a b).run P w = .ok r w) : (Op.eqFields d xs ys [f]).run P w = .ok r w := by
  have hn' : f.name ≠ "_" := by simpa using hn
  simp only [Op.eqFields,if_pos hn',Sem.run_bind,ha,hb,he,Result.andThen_ok]
  cases r<;>simp
theorem He (hn : (f.name == "_") = false) (ha : (part f.type xs f.offset).run P w = .ok a w) (hb : (part f.type ys f.offset).run P w = .ok b w) (he : (Op.equalIn d f.type a b).run P w = .ok r w) (hr : (Op.eqFields d xs ys fs).run P w = .ok s w) : (Op.eqFields d xs ys (f :: fs)).run P w = .ok (r && s) w := by
  have hn' : f.name ≠ "_" := by simpa using hn
  rw[Op.eqFields]
  simp only [if_pos hn',Sem.run_bind,ha,hb,he,Result.andThen_ok]
  cases r
  · simp
  simpa using hr
theorem Hd {t:TypeId}{fs:Array Field}(hu:P.underlying t=some (.struct fs)) (hp:P.stoodInHeld t=false) (h:(Op.eqFields d xs ys fs.toList).run P w=.ok r w):(Op.equalIn (d+1) t (.agg xs) (.agg ys)).run P w=.ok r w:=by
  have hf:P.fieldsOf t=fs:=by simp[Program.fieldsOf,hu]
  rw[run_equalIn_struct (P:=P) w d t xs ys (by rw[hf];exact hu) hp,hf]
  exact h
end
end Go.Proofs.YtgeonpciodepgaaW.PrintWords
namespace Go.Proofs.YtgeonpciodepgaaW.PrintLast
open Go.Proofs.YtgeonpciodepgaaW.PrintWords (lm)
def zZ (md:Region.Mode) (o:Oper):List Nat:=(o.after.toList.filter (fun e=>Region.binds md e)).map (fun e=>e.on)
def Ej (md:Region.Mode) (ops:Array Oper) (i:Nat) (oi:Oper):List Nat:=(List.range ops.size).filter fun j=> !(j==i)&&match ops[j]? with
  |some oj=> !(oj.after.any (fun e=>Region.binds md e&&e.on==i)||oi.apart ops oj)
  |none=>false
def qx (md:Region.Mode) (ops:Array Oper):Bool×List (List Nat×List Nat):=(Region.noSelect ops,(List.range ops.size).map fun i=>match ops[i]? with
  |some o=>(zZ md o,Ej md ops i o)
  |none=>([],[]))
def yA (T:List (List Nat×List Nat)) (l:List Bool) (i:Nat):Bool:= !l.getD i true&&match T[i]? with
  |some r=>r.1.all (fun j=>l.getD j false)
  |none=>false
def Ad (T:List (List Nat×List Nat)) (l:List Bool):List Nat:=(List.range T.length).filter (yA T l)
def AV (T:List (List Nat×List Nat)) (l:List Bool) (i:Nat):Bool:=match T[i]? with
  |some r=>r.2.all (fun j=>l.getD j true)
  |none=>false
def CB (T:List (List Nat×List Nat)) (l:List Bool):Bool:=(List.range T.length).all fun j=> !l.getD j false||match T[j]? with
  |some r=>r.1.all (fun k=>l.getD k false)
  |none=>true
def Ac (T:List (List Nat×List Nat)) (i:Nat):Nat->Nat->Bool
  |0,_=>false
  |fuel+1,d=>match T[d]? with
    |some r=>r.1.any fun j=>j==i||Ac T i fuel j
    |none=>false
def lastT (T:List (List Nat×List Nat)) (l:List Bool) (ds:List Nat) (i:Nat):Bool:=ds.all fun d=>l.getD d true||Ac T i T.length d
section
variable {md:Region.Mode}{ops:Array Oper}{T:Bool×List (List Nat×List Nat)}{l l' li lj lk:Array Bool}{ds:List Nat}{i j k:Nat}
theorem gd (l:Array Bool) (j:Nat) (b:Bool):l.getD j b=l.toList.getD j b:=by simp[Array.getD_eq_getD_getElem?,List.getD_eq_getElem?_getD]
theorem Il (o:Oper) (p:Nat->Bool):o.after.all (fun e=> !Region.binds md e||p e.on)=(zZ md o).all p:=by
  unfold zZ
  rw[←Array.all_toList]
  induction o.after.toList with
  |nil=>rfl
  |cons e r ih=>
    rw[List.all_cons,ih,List.filter_cons]
    cases h:Region.binds md e<;>simp
theorem Mt (o:Oper) (p:Nat->Bool):o.after.any (fun e=>Region.binds md e&&p e.on)=(zZ md o).any p:=by
  unfold zZ
  rw[←Array.any_toList]
  induction o.after.toList with
  |nil=>rfl
  |cons e r ih=>
    rw[List.any_cons,ih,List.filter_cons]
    cases h:Region.binds md e<;>simp
theorem CZ:(qx md ops).2.length=ops.size:=by simp[qx]
theorem C9 {o:Oper}(h:ops[i]? =some o):(qx md ops).2[i]? =some (zZ md o,Ej md ops i o):=by
  have hi:=(Array.getElem?_eq_some_iff.1 h).1
  unfold qx
  rw[List.getElem?_map,List.getElem?_range hi,Option.map_some,h]
theorem C8 (h:ops[i]? =none):(qx md ops).2[i]? =none:=by
  have hi:ops.size<=i:=Array.getElem?_eq_none_iff.1 h
  exact List.getElem?_eq_none (by rw[CZ];exact hi)
theorem Nn:yA (qx md ops).2 l.toList i=(!l.getD i true&&((ops[i]?).map (·.after.all fun e=> !Region.binds md e||l.getD e.on false)).getD false):=by
  unfold yA
  rw[gd]
  cases h:ops[i]? with
  |none=>rw[C8 h];rfl
  |some o=>
    rw[C9 h]
    simp only [Option.map_some,Option.getD_some]
    rw[←Il]
    simp only [gd]
theorem ready_eq:Region.ready md ops l=Ad (qx md ops).2 l.toList:=by
  unfold Region.ready Ad
  rw[CZ]
  refine List.filter_congr (fun i _=>?_)
  rw[Nn]
theorem free_eq:Region.free md ops l i=AV (qx md ops).2 l.toList i:=by
  unfold Region.free AV
  cases h:ops[i]? with
  |none=>rw[C8 h]
  |some oi=>
    rw[C9 h]
    simp only [Ej]
    rw[List.all_filter]
    congr 1
    funext j
    rw[gd]
    cases hj:ops[j]? with
    |none=>cases(j==i)<;>cases(l.toList.getD j true)<;>simp
    |some oj=>
      cases(j==i)<;>cases(l.toList.getD j true)<;>cases(oj.after.any (fun e=>Region.binds md e&&e.on==i)||oi.apart ops oj)<;>simp_all
theorem KI:Region.AQ md ops l=CB (qx md ops).2 l.toList:=by
  unfold Region.AQ CB
  rw[CZ]
  congr 1
  funext j
  rw[gd]
  cases h:ops[j]? with
  |none=>rw[C8 h]
  |some o=>
    rw[C9 h]
    simp only
    rw[←Il]
    simp only [gd]
theorem IJ:∀ (fuel d:Nat),Region.wE md ops i fuel d=Ac (qx md ops).2 i fuel d
  |0,_=>rfl
  |fuel+1,d=>by
    unfold Region.wE Ac
    cases h:ops[d]? with
    |none=>rw[C8 h]
    |some o=>
      rw[C9 h]
      simp only
      rw[←Mt]
      congr 1
      funext e
      rw[IJ fuel]
theorem L6:Region.lastB md ops l ds i=lastT (qx md ops).2 l.toList ds i:=by
  unfold Region.lastB lastT
  rw[CZ]
  congr 1
  funext d
  rw[gd,IJ]
theorem IL (h:yA T.2 l.toList i=true) (hT:qx md ops=T):(Region.ready md ops l).contains i=true:=by
  subst hT
  rw[ready_eq]
  unfold Ad
  rw[List.contains_iff_mem,List.mem_filter,List.mem_range]
  refine⟨?_,h⟩
  unfold yA at h
  rw[Bool.and_eq_true]at h
  cases hq:(qx md ops).2[i]? with
  |none=>rw[hq]at h;simp at h
  |some r=>exact(List.getElem?_eq_some_iff.1 hq).1
theorem Bh (h:(l.toList.set i true==l'.toList)=true):(l.setIfInBounds i true==l')=true:=by
  rw[beq_iff_eq]at h⊢
  apply Array.ext'
  rw[Array.toList_setIfInBounds]
  exact h
def FQ (T:Bool×List (List Nat×List Nat)) (l l':List Bool) (i:Nat):Bool:=T.1&&AV T.2 l i&&yA T.2 l i&&(l.set i true==l')
theorem BL (hT:qx md ops=T) (h:FQ T l.toList l'.toList i=true):yc md ops l l' i=true:=by
  simp only [FQ,Bool.and_eq_true]at h
  obtain⟨⟨⟨h1,h2⟩,h3⟩,h4⟩:=h
  have h5:=IL h3 hT
  have h6:=Bh h4
  subst hT
  simp only [yc,Bool.and_eq_true]
  exact⟨⟨⟨h1,by rw[free_eq];exact h2⟩,h5⟩,h6⟩
def EM (T:Bool×List (List Nat×List Nat)) (ds:List Nat) (l l':List Bool) (i:Nat):Bool:=T.1&&AV T.2 l i&&yA T.2 l i&&CB T.2 l&&lastT T.2 l ds i&&(l.set i true==l')
theorem NM (hT:qx md ops=T) (h:EM T ds l.toList l'.toList i=true):takeB md ops ds l l' i=true:=by
  simp only [EM,Bool.and_eq_true]at h
  obtain⟨⟨⟨⟨⟨h1,h2⟩,h3⟩,h4⟩,h5⟩,h6⟩:=h
  have h7:=IL h3 hT
  have h8:=Bh h6
  subst hT
  simp only [takeB,Bool.and_eq_true]
  exact⟨⟨⟨⟨⟨h1,by rw[free_eq];exact h2⟩,h7⟩,by rw[KI];exact h4⟩,by rw[L6];exact h5⟩,h8⟩
theorem xK (hT:qx md ops=T) (h:(Ad T.2 l.toList==[i]&&l.toList.set i true==l'.toList)=true):xL md ops l l' i=true:=by
  simp only [Bool.and_eq_true]at h
  obtain⟨h1,h2⟩:=h
  subst hT
  simp only [xL,Bool.and_eq_true]
  exact⟨by rw[ready_eq];exact h1,Bh h2⟩
theorem vD (hT:qx md ops=T) (h:(Ad T.2 l.toList==[i,j]&&l.toList.set i true==li.toList&&l.toList.set j true==lj.toList)=true):(Region.ready md ops l==[i,j]&&l.setIfInBounds i true==li&&l.setIfInBounds j true==lj)=true:=by
  simp only [Bool.and_eq_true]at h⊢
  obtain⟨⟨h1,h2⟩,h3⟩:=h
  subst hT
  exact⟨⟨by rw[ready_eq];exact h1,Bh h2⟩,Bh h3⟩
theorem qf (hT:qx md ops=T) (h:(Ad T.2 l.toList==[])=true):(Region.ready md ops l==[])=true:=by
  subst hT
  rw[ready_eq]
  exact h
def upM (B:List Nat) (d:Nat):List Nat->Nat
  |[]=>0
  |n::r=>(2^n|||(if n<d then B.getD n 0 else 0))|||upM B d r
def qW (T:List (List Nat×List Nat)) (B:List Nat):Bool:=(List.range T.length).all fun d=>match T[d]? with
  |some r=>(B.getD d 0|||upM B d r.1)==upM B d r.1
  |none=>false
theorem I_ {B:List Nat}{d i:Nat}:∀ {ns:List Nat},(upM B d ns).testBit i=true->∃n∈ns,n=i\/(n<d/\(B.getD n 0).testBit i=true)
  |[],h=>by simp[upM]at h
  |n::r,h=>by
    unfold upM at h
    rw[Nat.testBit_or,Nat.testBit_or,Bool.or_eq_true,Bool.or_eq_true]at h
    rcases h with(h|h)|h
    · rw[Nat.testBit_two_pow]at h
      exact⟨n,List.mem_cons_self,.inl (by simpa using h)⟩
    · by_cases hn:n<d
      · rw[if_pos hn]at h
        exact⟨n,List.mem_cons_self,.inr ⟨hn,h⟩⟩
      rw[if_neg hn]at h
      simp at h
    obtain⟨m,hm,h2⟩:=I_ h
    exact⟨m,List.mem_cons_of_mem _ hm,h2⟩
theorem IG {T:List (List Nat×List Nat)}{B:List Nat}(hB:qW T B=true):∀ (fuel d:Nat),d<fuel->d<T.length->(B.getD d 0).testBit i=true->Ac T i fuel d=true
  |0,d,h,_,_=>by omega
  |fuel+1,d,h,hd,hb=>by
    have h1:=List.all_eq_true.1 hB d (List.mem_range.2 hd)
    cases hr:T[d]? with
    |none=>rw[hr]at h1;simp at h1
    |some r=>
      rw[hr]at h1
      simp only [beq_iff_eq]at h1
      have h2:(upM B d r.1).testBit i=true:=by rw[←h1,Nat.testBit_or,hb,Bool.true_or]
      obtain⟨n,hn,h3⟩:=I_ h2
      unfold Ac
      rw[hr]
      simp only
      rw[List.any_eq_true]
      refine⟨n,hn,?_⟩
      rcases h3 with rfl|⟨h4,h5⟩
      · simp
      rw[IG hB fuel n (by omega) (by omega) h5,Bool.or_true]
def Hz (T:List (List Nat×List Nat)) (B:List Nat) (l:List Bool) (ds:List Nat) (i:Nat):Bool:=ds.all fun d=>l.getD d true||(decide (d<T.length)&&(B.getD d 0).testBit i)
def IX (T:Bool×List (List Nat×List Nat)) (B:List Nat) (ds:List Nat) (l l':List Bool) (i:Nat):Bool:=T.1&&AV T.2 l i&&yA T.2 l i&&CB T.2 l&&Hz T.2 B l ds i&&(l.set i true==l')
theorem vz {B:List Nat}(hT:qx md ops=T) (hB:qW T.2 B=true) (h:IX T B ds l.toList l'.toList i=true):takeB md ops ds l l' i=true:=by
  refine NM hT ?_
  simp only [IX,EM,Bool.and_eq_true]at h⊢
  obtain⟨⟨⟨⟨⟨h1,h2⟩,h3⟩,h4⟩,h5⟩,h6⟩:=h
  refine⟨⟨⟨⟨⟨h1,h2⟩,h3⟩,h4⟩,?_⟩,h6⟩
  unfold Hz at h5
  unfold lastT
  rw[List.all_eq_true]at h5⊢
  intro d hd
  have h7:=h5 d hd
  rw[Bool.or_eq_true,Bool.and_eq_true,decide_eq_true_eq]at h7
  rcases h7 with h7|⟨h8,h9⟩
  · rw[h7,Bool.true_or]
  rw[IG hB _ d h8 h8 h9,Bool.or_true]
theorem Di {P:Program}{Q:Exit->Act->World->Prop}{S:World->Prop}{n:Nat}{a:Act}{w:World}{B:List Nat}(hT:qx md ops=T) (hB:qW T.2 B=true) (h:lm (qx md ops=T)->lm (qW T.2 B=true)->pR P md ops Q S ds n l a w):pR P md ops Q S ds n l a w:=h ⟨hT⟩ ⟨hB⟩
end
def xc:Code->Nat->Option (Array Oper)
  | .region id ops _,k=>if id==k then some ops else none
  | .seq a b,k=>match xc a k with
    |some o=>some o
    |none=>xc b k
  | .cond _ a b,k=>match xc a k with
    |some o=>some o
    |none=>xc b k
  | .block _ c,k=>xc c k
  | .loop c,k=>xc c k
  | .scope c,k=>xc c k
  | .rangeFunc _ _ a b,k=>match xc a k with
    |some o=>some o
    |none=>xc b k
  |_,_=>none
def opsOf (f:Func) (k:Nat):Array Oper:=((f.body.bind fun c=>xc c k)).getD #[]
end Go.Proofs.YtgeonpciodepgaaW.PrintLast
namespace Go.Proofs.YtgeonpciodepgaaW.PrintWords
open Go.RowKit
section
variable {P:Program}{ops:Array Oper}{rest:List Oper}{o:Oper}{a:Act}{Q:Exit->Act->World->Prop}{W:World}
theorem rQ (hw:Region.wanted o (yielded ops a.tmps)=true) (h:wpList P ops Q ({o with guard:=none}::rest) a W):wpList P ops Q (o::rest) a W:=by
  have h1:Region.wanted {o with guard:=none} (yielded ops a.tmps)=true:=rfl
  unfold wpList at h⊢
  rw[if_pos h1]at h
  rw[if_pos hw]
  exact h
end
end Go.Proofs.YtgeonpciodepgaaW.PrintWords
namespace Go.Proofs.YtgeonpciodepgaaW.PrintWords
open Go.RowKit
namespace Kd
section
variable {α:Type}{d:Kd α}{e base n cap g:Nat}{ok ok' okp:Nat->Prop}{w w1 W:World}{v v1:Value}{xs ys:List α}
theorem Fa {rows news:List (List Value)}(h0:∀k,v.ownBlock=some k->ok k) (hl:rows.length=xs.length) (hf:∀ (j:Nat) (x:α) (c:List Value),xs[j]? =some x->rows[j]? =some c->FK d W (fun k=>ok k/\some k≠v.ownBlock) x c)
    (hl2:news.length=ys.length) (hf2:∀ (j:Nat) (x:α) (c:List Value),ys[j]? =some x->news[j]? =some c->FK d W okp x c) (rW:∀k,okp k->ok k/\some k≠v.ownBlock) (hfresh:∀k,W.heap.size<=k->ok k)
    (hR:(raw d.sz).R e w1 base (fun _=>True) v1 (rows++news)) (hg:W.grownBy w1 v.ownBlock) (hat:v1.ownBlock=v.ownBlock\/∃b,v1.ownBlock=some b/\W.heap.size<=b):N d e w1 base ok v1 (xs++ys):=by
  have hne:∀k,some k≠v.ownBlock->k<W.heap.size->some k≠v1.ownBlock:=by
    intro k hk hlt
    rcases hat with hat|⟨b,hb,hle⟩
    · rw[hat];exact hk
    rw[hb]
    intro he
    injection he with he
    omega
  have step:∀ {x:α}{c:List Value}{o:Nat->Prop},FK d W o x c->(∀k,o k->ok k/\some k≠v.ownBlock)->FK d w1 (fun k=>ok k/\some k≠v1.ownBlock) x c:=by
    intro x c o hq ho
    exact yF (Ah (Dk hq) (fun k hk hlt=>hg.block k hlt (ho k hk.1).2)) (fun k hk=>⟨(ho k hk.1).1,hne k (ho k hk.1).2 hk.2⟩)
  refine⟨fun k hk=>?_,rows++news,by rw[List.length_append,List.length_append,hl,hl2],EC hR,fun j x c hx hc=>?_⟩
  · rcases hat with hat|⟨b,hb,hle⟩
    · exact h0 k (hat▸hk)
    rw[hb]at hk
    injection hk with hk
    exact hfresh k (by omega)
  rcases Nat.lt_or_ge j xs.length with hlt|hge
  · rw[List.getElem?_append_left hlt]at hx
    rw[List.getElem?_append_left (by omega)]at hc
    exact step (hf j x c hx hc) (fun _ hk=>hk)
  rw[List.getElem?_append_right hge]at hx
  rw[List.getElem?_append_right (by omega),hl]at hc
  exact step (hf2 _ x c hx hc) rW
theorem Ji {x:α}{c:List Value}(h:FK d W ok x c):c=c/\c.length=d.sz/\∀u∈c,u.oneCell'=true:=⟨rfl,d.K_len (vZ h),d.K_one (vZ h)⟩
theorem Fe {rows:List (List Value)}(hR:(raw d.sz).R e w1 base (fun k=>k=W.heap.size) v1 rows) (hg:W.grownBy w1 none) (hat:∃b,v1.ownBlock=some b/\W.heap.size<=b) (hl:rows.length=xs.length) (hf:∀ (j:Nat) (x:α) (c:List Value),xs[j]? =some x->rows[j]? =some c->FK d W okp x c)
    (hok:∀k,okp k->ok k) (hfresh:ok W.heap.size):N d e w1 base ok v1 xs:=by
  obtain⟨b,hb,hle⟩:=hat
  refine⟨fun k hk=>by rw[hR.1 k hk];exact hfresh,rows,hl,EC hR,fun j x c hx hc=>?_⟩
  refine yF (Ah (Dk (hf j x c hx hc)) (fun k hk hlt=>hg.block k hlt (by simp))) (fun k hk=>⟨hok k hk.1,fun he=>?_⟩)
  rw[hb]at he
  injection he with he
  have:=hk.2
  omega
theorem JF {rows:List (List Value)}{i:Int}{x':α}{c':List Value}(h0:∀k,(Value.slice (some ⟨g,0,none⟩) n cap).ownBlock=some k->ok k) (hl:rows.length=xs.length) (hf:∀ (j:Nat) (x:α) (c:List Value),xs[j]? =some x->rows[j]? =some c->FK d W (fun k=>ok k/\some k≠(Value.slice (some ⟨g,0,none⟩) n cap).ownBlock) x c)
    (hR:(raw d.sz).R e w1 base (fun _=>True) (.slice (some ⟨g,0,none⟩) n cap) (rows.set i.toNat c')) (hg:W.grownBy w1 (some g)) (hM:FK d W okp x' c') (rW:∀k,okp k->ok k/\k≠g):N d e w1 base ok (.slice (some ⟨g,0,none⟩) n cap) (xs.set i.toNat x'):=by
  have hgo:some g=(Value.slice (some ⟨g,0,none⟩) n cap).ownBlock:=by simp[Value.ownBlock]
  refine⟨h0,rows.set i.toNat c',by rw[List.length_set,List.length_set,hl],EC hR,fun j x c hx hc=>?_⟩
  have hjl:j<xs.length:=by have:=(List.getElem?_eq_some_iff.1 hx).1;rwa [List.length_set]at this
  by_cases hji:j=i.toNat
  · subst hji
    rw[List.getElem?_set_self hjl]at hx
    rw[List.getElem?_set_self (by omega)]at hc
    injection hx with hx
    injection hc with hc
    rw[←hx,←hc]
    exact yF (Ah hM (fun k hk hlt=>hg.block k hlt (fun he=>(rW k hk).2 (by injection he)))) (fun k hk=>⟨(rW k hk).1,fun he=>(rW k hk).2 (by rw[←hgo]at he;injection he)⟩)
  rw[List.getElem?_set_ne (Ne.symm hji)]at hx hc
  exact Ah (hf j x c hx hc) (fun k hk hlt=>hg.block k hlt (by rw[hgo];exact hk.2))
theorem Ff (h:N d e W base ok (.slice (some ⟨g,0,none⟩) n cap) xs) (i:Int) (h0:0<=i) (h1:i<n) {c seg:List Value}{j:Nat}(hcl:c.length=d.sz) (hcc:∀j u,c[j]? =some u->W.cell? ⟨g,i.toNat*d.sz+j,none⟩=some u)
    (hj:j+seg.length<=d.sz) {x':α}(hM:FK d W okp x' (c.take j++seg++c.drop (j+seg.length))) (rW:∀k,okp k->ok k/\k≠g):
    N d e (W.setCells g (i.toNat*d.sz+j) seg) base ok (.slice (some ⟨g,0,none⟩) n cap) (xs.set i.toNat x')/\W.grownBy (W.setCells g (i.toNat*d.sz+j) seg) (some g):=by
  obtain⟨hown,rows,hl,hR,hf⟩:=h
  obtain⟨h2,h3⟩:=FB (EB hR) i h0 h1 (c:=c) (seg:=seg) (j:=j) (x':=c.take j++seg++c.drop (j+seg.length)) (okp:=fun _=>False) hcl hcc hj ⟨rfl,d.K_len (vZ hM),d.K_one (vZ hM)⟩ (fun _ hk=>hk.elim)
  exact⟨JF hown hl hf h2 h3 hM rW,h3⟩
theorem Nl {Rr:α->List Value->Prop}{sz m:Nat}{A:Option Addr}(h:uy Rr sz W A m ys) (hR:∀x c,Rr x c->c.length=sz/\∀u∈c,u.oneCell'=true):
    ∃news:List (List Value),news.length=ys.length/\uy (fun x cs=>cs=x/\cs.length=sz/\∀u∈cs,u.oneCell'=true) sz W A m news/\∀ (j:Nat) (x:α) (c:List Value),ys[j]? =some x->news[j]? =some c->Rr x c:=by
  rcases Nat.eq_zero_or_pos m with h0|hp
  · have hy:ys=[]:=List.eq_nil_of_length_eq_zero (h.1.trans h0)
    subst hy
    exact⟨[],rfl,⟨h0▸rfl,h.2.1,fun hp=>by omega⟩,fun j x c hx=>by simp at hx⟩
  obtain⟨ad,rfl,_⟩:=h.2.2 hp
  obtain⟨inner,hr,hc⟩:=uy.Es h
  refine⟨chunks sz ys.length inner,vN _ _ _,⟨by rw[vN];exact h.1,h.2.1,fun _=>⟨ad,rfl,fun j p hj=>?_⟩⟩,fun j x c hx hcc=>?_⟩
  · have hjl:j<ys.length:=by have:=(List.getElem?_eq_some_iff.1 hj).1;rwa [vN]at this
    have hpe:=zO hj
    have hq:=hR _ _ (hr.2 j _ (List.getElem?_eq_getElem hjl))
    rw[←hpe]at hq
    refine⟨p,hq.1,⟨rfl,hq⟩,fun i u hu=>?_⟩
    have hu2:inner[j*sz+i]? =some u:=by
      rw[hpe,List.getElem?_take]at hu
      split at hu
      · rw[List.getElem?_drop]at hu
        exact hu
      cases hu
    exact hc _ u hu2
  rw[zO hcc]
  exact hr.2 j x hx
end
section
variable {P:Program}{ops:Array Oper}{rest:List Oper}{o:Oper}{a:Act}{Q:Exit->Act->World->Prop}{Kc:Act->World->Prop}{α:Type}
theorem JB (d:Kd α) {w0 W:World}(base:Nat) (hgd:o.guard=none) (s x:Operand) (t e:TypeId) (z:Value) (bytes:Nat)
    (ho:o.op=.call {callee:=.builtin .append,args:= #[s,x],argTypes:= #[t,t]})
    (ht:P.underlying t=some (.slice e)) (hinfo:(P.info? e).map (fun i=>(i.zero,i.size,i.bytes))=some (some z,d.sz,bytes)) (hz:z.cells.size=d.sz) (hs0:0<d.sz) (hb0:0<bytes)
    (v:Value) (xs:List α) (p:α) (cs:List Value) (ok okp:Nat->Prop) (hs:a.eval s=v) (hx:a.eval x=.slice (some ⟨W.heap.size,0,none⟩) 1 1) (hp:FK d W okp p cs) (rW:∀k,okp k->ok k/\some k≠v.ownBlock) (hfresh:∀k,W.heap.size<=k->ok k)
    (HO:N d e W base ok v xs) (HB:Below base w0 W) (hbase:base<=W.heap.size) (hl:(xs.length+1)*bytes<=140737488355328)
    (h:∀v1 w1,N d e w1 base ok v1 (xs++[p])->Below base w0 w1->W.grownBy w1 v.ownBlock->(v1.ownBlock=v.ownBlock\/∃b,v1.ownBlock=some b/\W.heap.size<=b)->wpList P ops Q rest (a.put o.dst v1) w1):
    wpList P ops Q (o::rest) a (W.alloc (.cells cs.toArray e)):=by
  obtain⟨h0,rows,hlr,hR,hf⟩:=HO
  refine sU (raw d.sz) base hgd s x t e z bytes ho ht hinfo hz hs0 hb0 v rows cs cs (fun _=>True) (fun _=>False) hs hx (Ji hp) (fun _ hk=>hk.elim) (fun _ _=>trivial) (EB hR) HB hbase (by rw[hlr];exact hl) ?_
  intro v1 w1 hr hb hg hat
  exact h v1 w1 (Fa h0 hlr hf (ys:=[p]) (news:=[cs]) rfl (fun j y c hy hc=>by
    rcases j with _|j
    · simp only [List.getElem?_cons_zero,Option.some.injEq]at hy hc
      rw[←hy,←hc];exact hp
    simp at hy) rW hfresh hr hg hat) hb hg hat
theorem E_ (d:Kd α) {w0 W:World}(base:Nat) (hw:Region.wanted o (yielded ops a.tmps)=true) (s x:Operand) (t e:TypeId) (z:Value) (bytes:Nat)
    (ho:o.op=.call {callee:=.builtin .append,args:= #[s,x],argTypes:= #[t,t]})
    (ht:P.underlying t=some (.slice e)) (hinfo:(P.info? e).map (fun i=>(i.zero,i.size,i.bytes))=some (some z,d.sz,bytes)) (hz:z.cells.size=d.sz) (hs0:0<d.sz) (hb0:0<bytes)
    (v:Value) (xs ys:List α) (A:Option Addr) (m c:Nat) (ok okp:Nat->Prop) (hs:a.eval s=v) (hx:a.eval x=.slice A m c)
    (HO:N d e W base ok v xs) (HR:F d W okp A m ys) (rW:∀k,okp k->ok k/\some k≠v.ownBlock) (hfresh:∀k,W.heap.size<=k->ok k)
    (HB:Below base w0 W) (hbase:base<=W.heap.size) (hl:(xs.length+m)*bytes<=140737488355328)
    (h:∀v1 w1,N d e w1 base ok v1 (xs++ys)->Below base w0 w1->W.grownBy w1 v.ownBlock->(v1.ownBlock=v.ownBlock\/∃b,v1.ownBlock=some b/\W.heap.size<=b)->Kc (a.put o.dst v1) w1):
    if Region.wanted o (yielded ops a.tmps)=true then Oper.wp P o a W Kc Q else Kc (a.put o.dst undef) W:=by
  obtain⟨h0,rows,hlr,hR,hf⟩:=HO
  obtain⟨news,hnl,hnr,hnf⟩:=Nl (Js HR) (fun y c hk=>⟨d.K_len (vZ hk),d.K_one (vZ hk)⟩)
  refine Fv (raw d.sz) base hw s x t e z bytes ho ht hinfo hz hs0 hb0 v rows news A m c (fun _=>True) (fun _=>False) hs hx (EB hR) hnr (fun _ _ hk=>hk) (fun _ hk=>hk.elim) (fun _ _=>trivial) HB hbase (by rw[hlr];exact hl) ?_
  intro v1 w1 hr hb hg hat
  exact h v1 w1 (Fa h0 hlr hf hnl hnf rW hfresh hr hg hat) hb hg hat
theorem JD (d:Kd α) {w0 W:World}(base e:Nat) (hgd:o.guard=none) {N':Tmp}(_hd:o.dst=some N') {xs:List α}{inner:List Value}{ok okp:Nat->Prop}
    (hrun:(execOp a.eval o).run P W=.ok (.value (.slice (some ⟨W.heap.size,0,none⟩) xs.length xs.length)) (W.alloc (.cells inner.toArray e)))
    (hrep:oH (FK d W okp) d.sz xs inner) (hok:∀k,okp k->ok k) (hfresh:ok W.heap.size) (HB:Below base w0 W) (hbase:base<=W.heap.size) (hm:xs.length<=9223372036854775807)
    (h:∀v1 w1,N d e w1 base ok v1 xs->Below base w0 w1->W.grownBy w1 none->(∃b,v1.ownBlock=some b/\W.heap.size<=b)->wpList P ops Q rest (a.put o.dst v1) w1):
    wpList P ops Q (o::rest) a W:=by
  refine Bv (raw d.sz) base e hgd _hd (xs:=chunks d.sz xs.length inner) (inner:=inner) (ok:=fun k=>k=W.heap.size) (okp:=fun _=>False) (by rw[vN];exact hrun) (EF hrep (fun y c hk=>⟨d.K_len (vZ hk),d.K_one (vZ hk)⟩)) (fun _ hk=>hk.elim) rfl HB hbase (by rw[vN];exact hm) ?_
  intro v1 w1 hr hb hg hat
  exact h v1 w1 (Fe hr hg hat (vN _ _ _) (fun j y c hy hc=>by rw[zO hc];exact hrep.2 j y hy) hok hfresh) hb hg hat
theorem JE (d:Kd α) {w0 W:World}(base e:Nat) (hw:Region.wanted o (yielded ops a.tmps)=true) {N':Tmp}(_hd:o.dst=some N') {xs:List α}{inner:List Value}{ok okp:Nat->Prop}
    (hrun:(execOp a.eval o).run P W=.ok (.value (.slice (some ⟨W.heap.size,0,none⟩) xs.length xs.length)) (W.alloc (.cells inner.toArray e)))
    (hrep:oH (FK d W okp) d.sz xs inner) (hok:∀k,okp k->ok k) (hfresh:ok W.heap.size) (HB:Below base w0 W) (hbase:base<=W.heap.size) (hm:xs.length<=9223372036854775807)
    (h:∀v1 w1,N d e w1 base ok v1 xs->Below base w0 w1->W.grownBy w1 none->(∃b,v1.ownBlock=some b/\W.heap.size<=b)->Kc (a.put o.dst v1) w1):
    if Region.wanted o (yielded ops a.tmps)=true then Oper.wp P o a W Kc Q else Kc (a.put o.dst undef) W:=by
  refine Am (raw d.sz) base e hw _hd (xs:=chunks d.sz xs.length inner) (inner:=inner) (ok:=fun k=>k=W.heap.size) (okp:=fun _=>False) (by rw[vN];exact hrun) (EF hrep (fun y c hk=>⟨d.K_len (vZ hk),d.K_one (vZ hk)⟩)) (fun _ hk=>hk.elim) rfl HB hbase (by rw[vN];exact hm) ?_
  intro v1 w1 hr hb hg hat
  exact h v1 w1 (Fe hr hg hat (vN _ _ _) (fun j y c hy hc=>by rw[zO hc];exact hrep.2 j y hy) hok hfresh) hb hg hat
end
end Kd
end Go.Proofs.YtgeonpciodepgaaW.PrintWords
namespace Go.Proofs.YtgeonpciodepgaaW.PrintMore
open Go.RowKit Go.Proofs.YtgeonpciodepgaaW.PrintWords
namespace Kd
open Go.Proofs.YtgeonpciodepgaaW.PrintWords.Kd
section
variable {α:Type}{d:Kd α}{e base g N:Nat}{ok:Nat->Prop}{W w1:World}{u v:Value}{xs:List α}
theorem Fy (hu:d.R e W base (fun k=>ok k/\k≠g) u xs) (hk:oI W w1 g none):d.R e w1 base (fun k=>ok k/\k<W.heap.size) u xs:=
  nL (qB (vE hu) hk (fun _ h=>h.1.2)) (fun _ h=>⟨h.1.1,h.2.2.1⟩)
theorem FD (h:d.R e w1 base (fun k=>ok k/\k<N) u xs) (hbase:∀k,v.ownBlock=some k->N<=k):d.R e w1 base (fun k=>(ok k/\some k≠v.ownBlock)/\k<N) u xs:=
  nL h (fun k hk=>⟨⟨hk.1,fun e=>Nat.lt_irrefl _ (Nat.lt_of_lt_of_le hk.2 (hbase k e.symm))⟩,hk.2⟩)
end
end Kd
theorem xB (k k':IntKind) (x y:Int):Builtin.max2 (.int k x) (.int k' y)=pure (.int k (if x<y then y else x)):=by simp only [Builtin.max2,gt_iff_lt]
theorem xG (k k':IntKind) (x y:Int):Builtin.min2 (.int k x) (.int k' y)=pure (.int k (if y<x then y else x)):=by simp only [Builtin.min2]
theorem xE (ats:Array TypeId) (ty:TypeId) (a b:Value):Builtin.max_ ats ty #[a,b]=(Builtin.max2 a b>>= fun s=>pure s):=by simp only [Builtin.max_,List.foldlM_cons,List.foldlM_nil]
theorem xJ (ats:Array TypeId) (ty:TypeId) (a b:Value):Builtin.min_ ats ty #[a,b]=(Builtin.min2 a b>>= fun s=>pure s):=by simp only [Builtin.min_,List.foldlM_cons,List.foldlM_nil]
theorem xD (ats:Array TypeId) (ty:TypeId) (a b c:Value):Builtin.max_ ats ty #[a,b,c]=(Builtin.max2 a b>>= fun s=>Builtin.max2 s c>>= fun s=>pure s):=by simp only [Builtin.max_,List.foldlM_cons,List.foldlM_nil]
theorem xI (ats:Array TypeId) (ty:TypeId) (a b c:Value):Builtin.min_ ats ty #[a,b,c]=(Builtin.min2 a b>>= fun s=>Builtin.min2 s c>>= fun s=>pure s):=by simp only [Builtin.min_,List.foldlM_cons,List.foldlM_nil]
theorem xC (ats:Array TypeId) (ty:TypeId) (a b c d:Value):Builtin.max_ ats ty #[a,b,c,d]=(Builtin.max2 a b>>= fun s=>Builtin.max2 s c>>= fun s=>Builtin.max2 s d>>= fun s=>pure s):=by simp only [Builtin.max_,List.foldlM_cons,List.foldlM_nil]
theorem xH (ats:Array TypeId) (ty:TypeId) (a b c d:Value):Builtin.min_ ats ty #[a,b,c,d]=(Builtin.min2 a b>>= fun s=>Builtin.min2 s c>>= fun s=>Builtin.min2 s d>>= fun s=>pure s):=by simp only [Builtin.min_,List.foldlM_cons,List.foldlM_nil]
end Go.Proofs.YtgeonpciodepgaaW.PrintMore
namespace Go.Proofs.YtgeonpciodepgaaW.PrintWords
open Go.RowKit
section
variable {P:Program}{ops:Array Oper}{rest:List Oper}{o:Oper}{a:Act}{Q:Exit->Act->World->Prop}{W:World}
theorem zS {f:FuncId}{as_:Array Operand}{ts:Array TypeId}(_ho:o.op=.call {callee:=.value (.func f),args:=as_,argTypes:=ts}) (h:wpList P ops Q (o::rest) a W):wpList P ops Q (o::rest) a W:=h
theorem r_ {b:Builtin}{xs:Array Operand}{ts:Array TypeId}(_ho:o.op=.call {callee:=.builtin b,args:=xs,argTypes:=ts}) (h:wpList P ops Q (o::rest) a W):wpList P ops Q (o::rest) a W:=h
end
def mx (a b:Int):Int:=if a<b then b else a
def mn (a b:Int):Int:=if b<a then b else a
def shl (k:IntKind) (x y:Int):Int:=k.wrap (x*2^min y.toNat k.bits)
def shr (k:IntKind) (x y:Int):Int:=x/2^min y.toNat k.bits
theorem G6 (w:World) (n:Nat):w.drewN n=w.drewN n:=rfl
end Go.Proofs.YtgeonpciodepgaaW.PrintWords
namespace Go.Proofs.YtgeonpciodepgaaW.PrintWords
open Go.RowKit
namespace Kd
def V {α:Type}(d:Kd α) (_e:Nat) (W:World) (_base:Nat) (ok:Nat->Prop) (v:Value) (xs:List α):Prop:=∃A c,v=.slice A xs.length c/\xs.length<=c/\F d W ok A xs.length xs
section
variable {α β:Type}{d:Kd α}{e base base' n m c g N' lo hi:Nat}{ok ok' S:Nat->Prop}{w W w1:World}{A:Option Addr}{ad:Addr}{u v v1:Value}{xs:List α}
theorem xY (h:V d e W base ok v xs) (hF:∀A,F d W ok A xs.length xs->F d w1 ok' A xs.length xs):V d e w1 base' ok' v xs:=by
  obtain⟨A,c,hv,hl,hf⟩:=h
  exact⟨A,c,hv,hl,hF A hf⟩
theorem xZ (hl:xs.length<=c) (hf:F d W ok A xs.length xs):V d e W base ok (.slice A xs.length c) xs:=⟨A,c,rfl,hl,hf⟩
theorem yL (h:V d e W base ok (.slice A n c) xs):n=xs.length/\n<=c/\F d W ok A xs.length xs:=by
  obtain⟨A',c',hv,hl,hf⟩:=h
  injection hv with ha hn hc
  subst ha;subst hc
  exact⟨hn,by rw[hn];exact hl,hf⟩
theorem J9 (h:V d e W base ok (.slice A n c) xs):n=xs.length/\n<=c/\d.C W A xs.length xs:=⟨(yL h).1,(yL h).2.1,Dm (yL h).2.2⟩
theorem V_F (h:V d e W base ok (.slice A n c) xs):F d W ok A n xs:=by
  obtain⟨hn,_,hf⟩:=yL h
  rw[hn]
  exact hf
theorem x_ (d:Kd α) (e:Nat) (W:World) (base:Nat) (ok:Nat->Prop):V d e W base ok (.slice none 0 0) []:=⟨none,0,rfl,Nat.le_refl _,Jr d W ok⟩
theorem R_V (h:d.R e W base ok v xs):V d e W base' ok v xs:=by
  obtain⟨A,c,rfl⟩:=nX h
  exact⟨A,c,rfl,(nK h).2.1,R_F h⟩
theorem N_V (h:N d e W base ok v xs):V d e W base' ok v xs:=by
  obtain⟨A,c,rfl⟩:=xR h
  exact⟨A,c,rfl,(tu h).2.1,N_F h⟩
theorem vM (h:V d e W base ok v xs) (hok:∀k,ok k->ok' k):V d e W base ok' v xs:=xY h (fun _ hf=>Dl hf hok)
theorem J8 (h:V d e W base ok v xs) (hb:Below W.heap.size W w1):V d e w1 base ok v xs:=xY h (fun _ hf=>Bo hf hb)
theorem BD (h:V d e W base ok v xs) (o:Obj):V d e (W.alloc o) base ok v xs:=xY h (fun _ hf=>Jk hf o)
theorem BF (h:V d e W base ok v xs):V d e W.drew base ok v xs:=xY h (fun _ hf=>Jm hf)
theorem BG (h:V d e W base ok v xs) (m:Nat):V d e (W.drewN m) base ok v xs:=xY h (fun _ hf=>Jn hf m)
theorem BH (h:V d e W base ok v xs) (hk:oI W w1 g none) (hok:∀k,ok k->k≠g):V d e w1 base ok v xs:=xY h (fun _ hf=>Jq hf hk hok)
theorem J7 (h:V d e W base (fun k=>ok k/\some k≠u.ownBlock) v xs) (hg:W.grownBy w1 u.ownBlock) (hat:v1.ownBlock=u.ownBlock\/∃b,v1.ownBlock=some b/\W.heap.size<=b):V d e w1 base (fun k=>ok k/\some k≠v1.ownBlock) v xs:=xY h (fun _ hf=>Jj hf hg hat)
theorem yK (h:V d e W base (fun k=>ok k/\some k≠v.ownBlock) u xs) (hg:W.grownBy w1 v.ownBlock) (hat:v1.ownBlock=v.ownBlock\/∃b,v1.ownBlock=some b/\W.heap.size<=b):V d e w1 base (fun k=>ok k/\some k≠v1.ownBlock) u xs:=J7 h hg hat
theorem Dn (h:N d e W base (fun k=>ok k/\some k≠v.ownBlock) u xs) (hg:W.grownBy w1 v.ownBlock) (hat:v1.ownBlock=v.ownBlock\/∃b,v1.ownBlock=some b/\W.heap.size<=b):N d e w1 base (fun k=>ok k/\some k≠v1.ownBlock) u xs:=JA h hg hat
theorem DD (h:V d e W base ok v xs) (hbase:∀k,u.ownBlock=some k->W.heap.size<=k) (hb:Below W.heap.size W w1):V d e w1 base (fun k=>ok k/\some k≠u.ownBlock) v xs:=xY h (fun _ hf=>Jo hf hbase hb)
theorem Jt (h:F d W ok A xs.length xs) (hm:m<=xs.length):F d W ok A (xs.take m).length (xs.take m):=EZ h (fun _ hC=>Jg hC hm)
theorem EY (h:F d W ok A xs.length xs) (hm:m<=xs.length) (hc:xs.length<=c):F d W ok (if c=m then A else A.map (·.add (m*d.sz))) (xs.drop m).length (xs.drop m):=EZ h (fun _ hC=>Jd hC hm hc)
theorem xh {l:List α}{cs:List Value}(h:FK (Kd.slice e d) W ok l cs):∃A c,cs=[.slice A l.length c]/\l.length<=c/\F d W ok A l.length l:=by
  obtain⟨A,c,rfl,hl,_⟩:=vZ h
  refine⟨A,c,rfl,hl,fun W' hW=>?_⟩
  obtain⟨A',c',he,_,g'⟩:=h W' hW
  injection he with he _
  injection he with ha _ _
  rw[ha]
  exact g'
theorem Bn {l:List α}(hl:l.length<=c) (hf:F d W ok A l.length l):FK (Kd.slice e d) W ok l [.slice A l.length c]:=fun W' hW=>⟨A,c,rfl,hl,hf W' hW⟩
theorem wJ {M:Nat->Prop}(h:d.R e w1 W.heap.size ok v xs) (hle:w.heap.size<=W.heap.size) (hM:∀k,w.heap.size<=k->M k):d.R e w1 W.heap.size (fun k=>M k/\ok k) v xs:=nL (vE h) (fun k hk=>⟨hM k (Nat.le_trans hle hk.2.1),hk.1⟩)
end
end Kd
end Go.Proofs.YtgeonpciodepgaaW.PrintWords
namespace Go.Proofs.YtgeonpciodepgaaW.PrintWords
theorem oH.one {α:Type}{R:α->List Value->Prop}{ps:List α}{cs:List Value}{p:α}{v:Value}(hp:R p [v]) (h:oH R 1 ps cs):oH R 1 (p::ps) (v::cs):=by
  refine⟨by simp[h.1],fun j q hq=>?_⟩
  cases j with
  |zero=>
    simp only [List.getElem?_cons_zero,Option.some.injEq]at hq
    subst hq
    simpa using hp
  |succ j=>
    simp only [List.getElem?_cons_succ]at hq
    have h1:=h.2 j q hq
    simpa [Nat.mul_one] using h1
theorem oH.front {α:Type}{R:α->List Value->Prop}{size:Nat}{ps:List α}{cs c all:List Value}{p:α}(hp:R p c) (hc:c.length=size) (h:oH R size ps cs) (ha:c++cs=all):oH R size (p::ps) all:=by
  subst ha
  refine⟨by rw[List.length_append,hc,h.1,List.length_cons,Nat.succ_mul,Nat.add_comm],fun j q hq=>?_⟩
  cases j with
  |zero=>
    simp only [List.getElem?_cons_zero,Option.some.injEq]at hq
    subst hq
    rw[Nat.zero_mul,List.drop_zero,List.take_append_of_le_length (by omega),List.take_of_length_le (by omega)]
    exact hp
  |succ j=>
    simp only [List.getElem?_cons_succ]at hq
    have h1:=h.2 j q hq
    rw[Nat.succ_mul,List.drop_append,List.drop_of_length_le (by rw[hc];exact Nat.le_add_left _ _),List.nil_append,hc,Nat.add_sub_cancel]
    exact h1
theorem oH.c2 {α:Type}{R:α->List Value->Prop}{ps:List α}{cs:List Value}{p:α}{va vb:Value}(hp:R p [va,vb]) (h:oH R 2 ps cs):oH R 2 (p::ps) (va::vb::cs):=oH.front hp rfl h rfl
theorem oH.c3 {α:Type}{R:α->List Value->Prop}{ps:List α}{cs:List Value}{p:α}{va vb vc:Value}(hp:R p [va,vb,vc]) (h:oH R 3 ps cs):oH R 3 (p::ps) (va::vb::vc::cs):=oH.front hp rfl h rfl
theorem oH.c4 {α:Type}{R:α->List Value->Prop}{ps:List α}{cs:List Value}{p:α}{va vb vc vd:Value}(hp:R p [va,vb,vc,vd]) (h:oH R 4 ps cs):oH R 4 (p::ps) (va::vb::vc::vd::cs):=oH.front hp rfl h rfl
theorem oH.c5 {α:Type}{R:α->List Value->Prop}{ps:List α}{cs:List Value}{p:α}{va vb vc vd ve:Value}(hp:R p [va,vb,vc,vd,ve]) (h:oH R 5 ps cs):oH R 5 (p::ps) (va::vb::vc::vd::ve::cs):=oH.front hp rfl h rfl
theorem oH.c6 {α:Type}{R:α->List Value->Prop}{ps:List α}{cs:List Value}{p:α}{va vb vc vd ve vf:Value}(hp:R p [va,vb,vc,vd,ve,vf]) (h:oH R 6 ps cs):oH R 6 (p::ps) (va::vb::vc::vd::ve::vf::cs):=oH.front hp rfl h rfl
theorem oH.c7 {α:Type}{R:α->List Value->Prop}{ps:List α}{cs:List Value}{p:α}{va vb vc vd ve vf vg:Value}(hp:R p [va,vb,vc,vd,ve,vf,vg]) (h:oH R 7 ps cs):oH R 7 (p::ps) (va::vb::vc::vd::ve::vf::vg::cs):=oH.front hp rfl h rfl
theorem oH.c8 {α:Type}{R:α->List Value->Prop}{ps:List α}{cs:List Value}{p:α}{va vb vc vd ve vf vg vh:Value}(hp:R p [va,vb,vc,vd,ve,vf,vg,vh]) (h:oH R 8 ps cs):oH R 8 (p::ps) (va::vb::vc::vd::ve::vf::vg::vh::cs):=oH.front hp rfl h rfl
theorem oH.c9 {α:Type}{R:α->List Value->Prop}{ps:List α}{cs:List Value}{p:α}{va vb vc vd ve vf vg vh vi:Value}(hp:R p [va,vb,vc,vd,ve,vf,vg,vh,vi]) (h:oH R 9 ps cs):oH R 9 (p::ps) (va::vb::vc::vd::ve::vf::vg::vh::vi::cs):=oH.front hp rfl h rfl
theorem oH.c10 {α:Type}{R:α->List Value->Prop}{ps:List α}{cs:List Value}{p:α}{va vb vc vd ve vf vg vh vi vj:Value}(hp:R p [va,vb,vc,vd,ve,vf,vg,vh,vi,vj]) (h:oH R 10 ps cs):oH R 10 (p::ps) (va::vb::vc::vd::ve::vf::vg::vh::vi::vj::cs):=oH.front hp rfl h rfl
end Go.Proofs.YtgeonpciodepgaaW.PrintWords
namespace Go.Proofs.Ytgeonpciodepgaa.G
open Go.Proofs.YtgeonpciodepgaaW.PrintWords
structure Tie where
 f0:Int
 f1:Int
deriving DecidableEq
theorem RV2 {α:Type}{d:Kd α}{e base base' base0:Nat}{W:World}{v:Value}{xs:List α}{P Q:Nat->Prop}(h:Kd.R d e W base (fun k=>base0<=k/\Q k) v xs):Kd.V d e W base' (fun k=>(P k\/base0<=k)/\Q k) v xs:=
 Kd.vM (Kd.R_V h) (fun _ hk=>⟨.inr hk.1,hk.2⟩)
end Go.Proofs.Ytgeonpciodepgaa.G
namespace Go.Proofs.Ytgeonpciodepgaa.P
open Go.RowKit Go.Proofs.YtgeonpciodepgaaW.PrintWords Go.Proofs.YtgeonpciodepgaaW.PrintLast Go.Proofs.YtgeonpciodepgaaW.PrintWords.Kd
variable {p:Prop}
def pQ (n b:Nat):Array Bool:=((List.range n).map fun i=>b.testBit i).toArray
section
variable {P:Program}{md:Region.Mode}{ops:Array Oper}{Q:Exit->Act->World->Prop}{S:World->Prop}{ds:List Nat}
theorem lq {fuel n b0:Nat}{a:Act}{w:World}{oi:Oper}{v:Value}{a':Act}(i:Nat) (N:Tmp) (b:Nat) (h:pR P md ops Q S ds fuel (pQ n b) a' w)
  (hi:ops[i]? =some oi:=by rfl) (hN:oi.dst=some N:=by rfl) (hc:yc md ops (pQ n b0) (pQ n b) i=true:=by first|exact BL HT_.out (by kernel_rfl)|kernel_rfl)
  (hQ:∀c a w,Q (.panic c) (a.put oi.dst v) w->Q (.panic c) a w:=by exact fun _ _ _ h=>h) (hy:Yields P ops oi v a:=by exact Or.inl ⟨by rfl,by(intro w';go_simp;with_reducible rfl)⟩)
  (ha:a.put (some N) v=a':=by first|(simp only [Act.put,List.setIfInBounds_toArray,List.set_cons_zero,List.set_cons_succ,qw,qM];rfl)|rfl):pR P md ops Q S ds (fuel+1) (pQ n b0) a w:=
 CX (pQ n b) hi hN hc hQ hy ha h
theorem oN {fuel n b0:Nat}{a:Act}{w:World}{oi:Oper}{a':Act}(i:Nat) (N:Tmp) (b:Nat) (h:pR P md ops Q S ds fuel (pQ n b) a' w)
  (hi:ops[i]? =some oi:=by rfl) (hN:oi.dst=some N:=by rfl) (hc:yc md ops (pQ n b0) (pQ n b) i=true:=by first|exact BL HT_.out (by kernel_rfl)|kernel_rfl)
  (hQ:∀c a w,Q (.panic c) (a.put oi.dst undef) w->Q (.panic c) a w:=by exact fun _ _ _ h=>h) (hy:Yields P ops oi undef a:=by exact Or.inr ⟨by rfl,rfl⟩)
  (ha:a.put (some N) undef=a':=by first|(simp only [Act.put,List.setIfInBounds_toArray,List.set_cons_zero,List.set_cons_succ,qw,qM];rfl)|rfl):pR P md ops Q S ds (fuel+1) (pQ n b0) a w:=
 CX (pQ n b) hi hN hc hQ hy ha h
theorem ta0 {fuel n b0:Nat}{a:Act}{w:World}{oi:Oper}{v:Value}{a':Act}(i:Nat) (N:Tmp) (b:Nat) (h:pR P md ops Q S ds fuel (pQ n b) a' w)
  (hi:ops[i]? =some oi:=by rfl) (hN:oi.dst=some N:=by rfl) (hc:takeB md ops ds (pQ n b0) (pQ n b) i=true:=by first|exact vz HT_.out HW_.out (by kernel_rfl)|kernel_rfl)
  (hQ:∀c a w,Q (.panic c) (a.put oi.dst v) w->Q (.panic c) a w:=by exact fun _ _ _ h=>h) (hy:YieldsIf P ops S oi v a:=by exact Or.inl ⟨by rfl,by(intro w' _;go_simp;with_reducible rfl)⟩) (hS:S w:=by exact hHeld)
  (ha:a.put (some N) v=a':=by first|(simp only [Act.put,List.setIfInBounds_toArray,List.set_cons_zero,List.set_cons_succ,qw,qM];rfl)|rfl):pR P md ops Q S ds (fuel+1) (pQ n b0) a w:=
 uF (pQ n b) hi hN hc hQ hy hS ha h
theorem ta1 {fuel n b0:Nat}{a:Act}{w:World}{oi:Oper}{v:Value}{a':Act}(i:Nat) (N:Tmp) (b:Nat) (h:pR P md ops Q S ds fuel (pQ n b) a' w)
  (hi:ops[i]? =some oi:=by rfl) (hN:oi.dst=some N:=by rfl) (hc:takeB md ops ds (pQ n b0) (pQ n b) i=true:=by first|exact vz HT_.out HW_.out (by kernel_rfl)|kernel_rfl)
  (hQ:∀c a w,Q (.panic c) (a.put oi.dst v) w->Q (.panic c) a w:=by exact fun _ _ _ h=>h) (hy:YieldsIf P ops S oi v a:=by exact Or.inl ⟨by rfl,by(intro w' s0;go_simp;with_reducible rfl)⟩) (hS:S w:=by exact hHeld)
  (ha:a.put (some N) v=a':=by first|(simp only [Act.put,List.setIfInBounds_toArray,List.set_cons_zero,List.set_cons_succ,qw,qM];rfl)|rfl):pR P md ops Q S ds (fuel+1) (pQ n b0) a w:=
 uF (pQ n b) hi hN hc hQ hy hS ha h
theorem ta2 {fuel n b0:Nat}{a:Act}{w:World}{oi:Oper}{v:Value}{a':Act}(i:Nat) (N:Tmp) (b:Nat) (h:pR P md ops Q S ds fuel (pQ n b) a' w)
  (hi:ops[i]? =some oi:=by rfl) (hN:oi.dst=some N:=by rfl) (hc:takeB md ops ds (pQ n b0) (pQ n b) i=true:=by first|exact vz HT_.out HW_.out (by kernel_rfl)|kernel_rfl)
  (hQ:∀c a w,Q (.panic c) (a.put oi.dst v) w->Q (.panic c) a w:=by exact fun _ _ _ h=>h) (hy:YieldsIf P ops S oi v a:=by exact Or.inl ⟨by rfl,by(rintro w' ⟨s0,s1⟩;go_simp;with_reducible rfl)⟩) (hS:S w:=by exact hHeld)
  (ha:a.put (some N) v=a':=by first|(simp only [Act.put,List.setIfInBounds_toArray,List.set_cons_zero,List.set_cons_succ,qw,qM];rfl)|rfl):pR P md ops Q S ds (fuel+1) (pQ n b0) a w:=
 uF (pQ n b) hi hN hc hQ hy hS ha h
theorem ta3 {fuel n b0:Nat}{a:Act}{w:World}{oi:Oper}{v:Value}{a':Act}(i:Nat) (N:Tmp) (b:Nat) (h:pR P md ops Q S ds fuel (pQ n b) a' w)
  (hi:ops[i]? =some oi:=by rfl) (hN:oi.dst=some N:=by rfl) (hc:takeB md ops ds (pQ n b0) (pQ n b) i=true:=by first|exact vz HT_.out HW_.out (by kernel_rfl)|kernel_rfl)
  (hQ:∀c a w,Q (.panic c) (a.put oi.dst v) w->Q (.panic c) a w:=by exact fun _ _ _ h=>h) (hy:YieldsIf P ops S oi v a:=by exact Or.inl ⟨by rfl,by(rintro w' ⟨s0,s1,s2⟩;go_simp;with_reducible rfl)⟩) (hS:S w:=by exact hHeld)
  (ha:a.put (some N) v=a':=by first|(simp only [Act.put,List.setIfInBounds_toArray,List.set_cons_zero,List.set_cons_succ,qw,qM];rfl)|rfl):pR P md ops Q S ds (fuel+1) (pQ n b0) a w:=
 uF (pQ n b) hi hN hc hQ hy hS ha h
theorem ta4 {fuel n b0:Nat}{a:Act}{w:World}{oi:Oper}{v:Value}{a':Act}(i:Nat) (N:Tmp) (b:Nat) (h:pR P md ops Q S ds fuel (pQ n b) a' w)
  (hi:ops[i]? =some oi:=by rfl) (hN:oi.dst=some N:=by rfl) (hc:takeB md ops ds (pQ n b0) (pQ n b) i=true:=by first|exact vz HT_.out HW_.out (by kernel_rfl)|kernel_rfl)
  (hQ:∀c a w,Q (.panic c) (a.put oi.dst v) w->Q (.panic c) a w:=by exact fun _ _ _ h=>h) (hy:YieldsIf P ops S oi v a:=by exact Or.inl ⟨by rfl,by(rintro w' ⟨s0,s1,s2,s3⟩;go_simp;with_reducible rfl)⟩) (hS:S w:=by exact hHeld)
  (ha:a.put (some N) v=a':=by first|(simp only [Act.put,List.setIfInBounds_toArray,List.set_cons_zero,List.set_cons_succ,qw,qM];rfl)|rfl):pR P md ops Q S ds (fuel+1) (pQ n b0) a w:=
 uF (pQ n b) hi hN hc hQ hy hS ha h
theorem ta5 {fuel n b0:Nat}{a:Act}{w:World}{oi:Oper}{v:Value}{a':Act}(i:Nat) (N:Tmp) (b:Nat) (h:pR P md ops Q S ds fuel (pQ n b) a' w)
  (hi:ops[i]? =some oi:=by rfl) (hN:oi.dst=some N:=by rfl) (hc:takeB md ops ds (pQ n b0) (pQ n b) i=true:=by first|exact vz HT_.out HW_.out (by kernel_rfl)|kernel_rfl)
  (hQ:∀c a w,Q (.panic c) (a.put oi.dst v) w->Q (.panic c) a w:=by exact fun _ _ _ h=>h) (hy:YieldsIf P ops S oi v a:=by exact Or.inl ⟨by rfl,by(rintro w' ⟨s0,s1,s2,s3,s4⟩;go_simp;with_reducible rfl)⟩) (hS:S w:=by exact hHeld)
  (ha:a.put (some N) v=a':=by first|(simp only [Act.put,List.setIfInBounds_toArray,List.set_cons_zero,List.set_cons_succ,qw,qM];rfl)|rfl):pR P md ops Q S ds (fuel+1) (pQ n b0) a w:=
 uF (pQ n b) hi hN hc hQ hy hS ha h
theorem ta6 {fuel n b0:Nat}{a:Act}{w:World}{oi:Oper}{v:Value}{a':Act}(i:Nat) (N:Tmp) (b:Nat) (h:pR P md ops Q S ds fuel (pQ n b) a' w)
  (hi:ops[i]? =some oi:=by rfl) (hN:oi.dst=some N:=by rfl) (hc:takeB md ops ds (pQ n b0) (pQ n b) i=true:=by first|exact vz HT_.out HW_.out (by kernel_rfl)|kernel_rfl)
  (hQ:∀c a w,Q (.panic c) (a.put oi.dst v) w->Q (.panic c) a w:=by exact fun _ _ _ h=>h) (hy:YieldsIf P ops S oi v a:=by exact Or.inl ⟨by rfl,by(rintro w' ⟨s0,s1,s2,s3,s4,s5⟩;go_simp;with_reducible rfl)⟩) (hS:S w:=by exact hHeld)
  (ha:a.put (some N) v=a':=by first|(simp only [Act.put,List.setIfInBounds_toArray,List.set_cons_zero,List.set_cons_succ,qw,qM];rfl)|rfl):pR P md ops Q S ds (fuel+1) (pQ n b0) a w:=
 uF (pQ n b) hi hN hc hQ hy hS ha h
theorem ta7 {fuel n b0:Nat}{a:Act}{w:World}{oi:Oper}{v:Value}{a':Act}(i:Nat) (N:Tmp) (b:Nat) (h:pR P md ops Q S ds fuel (pQ n b) a' w)
  (hi:ops[i]? =some oi:=by rfl) (hN:oi.dst=some N:=by rfl) (hc:takeB md ops ds (pQ n b0) (pQ n b) i=true:=by first|exact vz HT_.out HW_.out (by kernel_rfl)|kernel_rfl)
  (hQ:∀c a w,Q (.panic c) (a.put oi.dst v) w->Q (.panic c) a w:=by exact fun _ _ _ h=>h) (hy:YieldsIf P ops S oi v a:=by exact Or.inl ⟨by rfl,by(rintro w' ⟨s0,s1,s2,s3,s4,s5,s6⟩;go_simp;with_reducible rfl)⟩) (hS:S w:=by exact hHeld)
  (ha:a.put (some N) v=a':=by first|(simp only [Act.put,List.setIfInBounds_toArray,List.set_cons_zero,List.set_cons_succ,qw,qM];rfl)|rfl):pR P md ops Q S ds (fuel+1) (pQ n b0) a w:=
 uF (pQ n b) hi hN hc hQ hy hS ha h
theorem ta8 {fuel n b0:Nat}{a:Act}{w:World}{oi:Oper}{v:Value}{a':Act}(i:Nat) (N:Tmp) (b:Nat) (h:pR P md ops Q S ds fuel (pQ n b) a' w)
  (hi:ops[i]? =some oi:=by rfl) (hN:oi.dst=some N:=by rfl) (hc:takeB md ops ds (pQ n b0) (pQ n b) i=true:=by first|exact vz HT_.out HW_.out (by kernel_rfl)|kernel_rfl)
  (hQ:∀c a w,Q (.panic c) (a.put oi.dst v) w->Q (.panic c) a w:=by exact fun _ _ _ h=>h) (hy:YieldsIf P ops S oi v a:=by exact Or.inl ⟨by rfl,by(rintro w' ⟨s0,s1,s2,s3,s4,s5,s6,s7⟩;go_simp;with_reducible rfl)⟩) (hS:S w:=by exact hHeld)
  (ha:a.put (some N) v=a':=by first|(simp only [Act.put,List.setIfInBounds_toArray,List.set_cons_zero,List.set_cons_succ,qw,qM];rfl)|rfl):pR P md ops Q S ds (fuel+1) (pQ n b0) a w:=
 uF (pQ n b) hi hN hc hQ hy hS ha h
theorem ta9 {fuel n b0:Nat}{a:Act}{w:World}{oi:Oper}{v:Value}{a':Act}(i:Nat) (N:Tmp) (b:Nat) (h:pR P md ops Q S ds fuel (pQ n b) a' w)
  (hi:ops[i]? =some oi:=by rfl) (hN:oi.dst=some N:=by rfl) (hc:takeB md ops ds (pQ n b0) (pQ n b) i=true:=by first|exact vz HT_.out HW_.out (by kernel_rfl)|kernel_rfl)
  (hQ:∀c a w,Q (.panic c) (a.put oi.dst v) w->Q (.panic c) a w:=by exact fun _ _ _ h=>h) (hy:YieldsIf P ops S oi v a:=by exact Or.inl ⟨by rfl,by(rintro w' ⟨s0,s1,s2,s3,s4,s5,s6,s7,s8⟩;go_simp;with_reducible rfl)⟩) (hS:S w:=by exact hHeld)
  (ha:a.put (some N) v=a':=by first|(simp only [Act.put,List.setIfInBounds_toArray,List.set_cons_zero,List.set_cons_succ,qw,qM];rfl)|rfl):pR P md ops Q S ds (fuel+1) (pQ n b0) a w:=
 uF (pQ n b) hi hN hc hQ hy hS ha h
theorem Oz {fuel n b0:Nat}{a:Act}{w:World}{oi:Oper}{v:Value}{a':Act}(i:Nat) (N:Tmp) (b:Nat) (h:pR P md ops Q S ds fuel (pQ n b) a' w)
  (hi:ops[i]? =some oi:=by rfl) (hN:oi.dst=some N:=by rfl) (hc:takeB md ops ds (pQ n b0) (pQ n b) i=true:=by first|exact vz HT_.out HW_.out (by kernel_rfl)|kernel_rfl)
  (hQ:∀c a w,Q (.panic c) (a.put oi.dst v) w->Q (.panic c) a w:=by exact fun _ _ _ h=>h) (hy:YieldsIf P ops S oi v a:=by exact Or.inl ⟨by rfl,by(rintro w' ⟨s0,s1,s2,s3,s4,s5,s6,s7,s8,s9⟩;go_simp;with_reducible rfl)⟩) (hS:S w:=by exact hHeld)
  (ha:a.put (some N) v=a':=by first|(simp only [Act.put,List.setIfInBounds_toArray,List.set_cons_zero,List.set_cons_succ,qw,qM];rfl)|rfl):pR P md ops Q S ds (fuel+1) (pQ n b0) a w:=
 uF (pQ n b) hi hN hc hQ hy hS ha h
theorem OA {fuel n b0:Nat}{a:Act}{w:World}{oi:Oper}{v:Value}{a':Act}(i:Nat) (N:Tmp) (b:Nat) (h:pR P md ops Q S ds fuel (pQ n b) a' w)
  (hi:ops[i]? =some oi:=by rfl) (hN:oi.dst=some N:=by rfl) (hc:takeB md ops ds (pQ n b0) (pQ n b) i=true:=by first|exact vz HT_.out HW_.out (by kernel_rfl)|kernel_rfl)
  (hQ:∀c a w,Q (.panic c) (a.put oi.dst v) w->Q (.panic c) a w:=by exact fun _ _ _ h=>h) (hy:YieldsIf P ops S oi v a:=by exact Or.inl ⟨by rfl,by(rintro w' ⟨s0,s1,s2,s3,s4,s5,s6,s7,s8,s9,s10⟩;go_simp;with_reducible rfl)⟩) (hS:S w:=by exact hHeld)
  (ha:a.put (some N) v=a':=by first|(simp only [Act.put,List.setIfInBounds_toArray,List.set_cons_zero,List.set_cons_succ,qw,qM];rfl)|rfl):pR P md ops Q S ds (fuel+1) (pQ n b0) a w:=
 uF (pQ n b) hi hN hc hQ hy hS ha h
theorem OB {fuel n b0:Nat}{a:Act}{w:World}{oi:Oper}{v:Value}{a':Act}(i:Nat) (N:Tmp) (b:Nat) (h:pR P md ops Q S ds fuel (pQ n b) a' w)
  (hi:ops[i]? =some oi:=by rfl) (hN:oi.dst=some N:=by rfl) (hc:takeB md ops ds (pQ n b0) (pQ n b) i=true:=by first|exact vz HT_.out HW_.out (by kernel_rfl)|kernel_rfl)
  (hQ:∀c a w,Q (.panic c) (a.put oi.dst v) w->Q (.panic c) a w:=by exact fun _ _ _ h=>h) (hy:YieldsIf P ops S oi v a:=by exact Or.inl ⟨by rfl,by(rintro w' ⟨s0,s1,s2,s3,s4,s5,s6,s7,s8,s9,s10,s11⟩;go_simp;with_reducible rfl)⟩) (hS:S w:=by exact hHeld)
  (ha:a.put (some N) v=a':=by first|(simp only [Act.put,List.setIfInBounds_toArray,List.set_cons_zero,List.set_cons_succ,qw,qM];rfl)|rfl):pR P md ops Q S ds (fuel+1) (pQ n b0) a w:=
 uF (pQ n b) hi hN hc hQ hy hS ha h
theorem OC {fuel n b0:Nat}{a:Act}{w:World}{oi:Oper}{v:Value}{a':Act}(i:Nat) (N:Tmp) (b:Nat) (h:pR P md ops Q S ds fuel (pQ n b) a' w)
  (hi:ops[i]? =some oi:=by rfl) (hN:oi.dst=some N:=by rfl) (hc:takeB md ops ds (pQ n b0) (pQ n b) i=true:=by first|exact vz HT_.out HW_.out (by kernel_rfl)|kernel_rfl)
  (hQ:∀c a w,Q (.panic c) (a.put oi.dst v) w->Q (.panic c) a w:=by exact fun _ _ _ h=>h) (hy:YieldsIf P ops S oi v a:=by exact Or.inl ⟨by rfl,by(rintro w' ⟨s0,s1,s2,s3,s4,s5,s6,s7,s8,s9,s10,s11,s12⟩;go_simp;with_reducible rfl)⟩) (hS:S w:=by exact hHeld)
  (ha:a.put (some N) v=a':=by first|(simp only [Act.put,List.setIfInBounds_toArray,List.set_cons_zero,List.set_cons_succ,qw,qM];rfl)|rfl):pR P md ops Q S ds (fuel+1) (pQ n b0) a w:=
 uF (pQ n b) hi hN hc hQ hy hS ha h
theorem OD {fuel n b0:Nat}{a:Act}{w:World}{oi:Oper}{v:Value}{a':Act}(i:Nat) (N:Tmp) (b:Nat) (h:pR P md ops Q S ds fuel (pQ n b) a' w)
  (hi:ops[i]? =some oi:=by rfl) (hN:oi.dst=some N:=by rfl) (hc:takeB md ops ds (pQ n b0) (pQ n b) i=true:=by first|exact vz HT_.out HW_.out (by kernel_rfl)|kernel_rfl)
  (hQ:∀c a w,Q (.panic c) (a.put oi.dst v) w->Q (.panic c) a w:=by exact fun _ _ _ h=>h) (hy:YieldsIf P ops S oi v a:=by exact Or.inl ⟨by rfl,by(rintro w' ⟨s0,s1,s2,s3,s4,s5,s6,s7,s8,s9,s10,s11,s12,s13⟩;go_simp;with_reducible rfl)⟩) (hS:S w:=by exact hHeld)
  (ha:a.put (some N) v=a':=by first|(simp only [Act.put,List.setIfInBounds_toArray,List.set_cons_zero,List.set_cons_succ,qw,qM];rfl)|rfl):pR P md ops Q S ds (fuel+1) (pQ n b0) a w:=
 uF (pQ n b) hi hN hc hQ hy hS ha h
theorem puN {fuel:Nat}{l:Array Bool}{a:Act}{w:World}{oi:Oper}{v:Value}{a':Act}(i:Nat) (N:Option Tmp) (l':Array Bool) (h:pR P md ops Q S ds fuel l' a' w)
  (hi:ops[i]? =some oi:=by rfl) (hN:oi.dst=N:=by rfl) (hc:yc md ops l l' i=true:=by first|exact BL HT_.out (by kernel_rfl)|kernel_rfl)
  (hQ:∀c a w,Q (.panic c) (a.put oi.dst v) w->Q (.panic c) a w:=by exact fun _ _ _ h=>h) (hy:Yields P ops oi v a:=by exact Or.inl ⟨by rfl,by(intro w';go_simp;with_reducible rfl)⟩)
  (ha:a.put N v=a':=by first|(simp only [Act.put,List.setIfInBounds_toArray,List.set_cons_zero,List.set_cons_succ,qw,qM];rfl)|rfl):pR P md ops Q S ds (fuel+1) l a w:=
 CX l' hi hN hc hQ hy ha h
theorem pfN {fuel:Nat}{l:Array Bool}{a:Act}{w:World}{oi:Oper}{a':Act}(i:Nat) (N:Option Tmp) (l':Array Bool) (h:pR P md ops Q S ds fuel l' a' w)
  (hi:ops[i]? =some oi:=by rfl) (hN:oi.dst=N:=by rfl) (hc:yc md ops l l' i=true:=by first|exact BL HT_.out (by kernel_rfl)|kernel_rfl)
  (hQ:∀c a w,Q (.panic c) (a.put oi.dst undef) w->Q (.panic c) a w:=by exact fun _ _ _ h=>h) (hy:Yields P ops oi undef a:=by exact Or.inr ⟨by rfl,rfl⟩)
  (ha:a.put N undef=a':=by first|(simp only [Act.put,List.setIfInBounds_toArray,List.set_cons_zero,List.set_cons_succ,qw,qM];rfl)|rfl):pR P md ops Q S ds (fuel+1) l a w:=
 CX l' hi hN hc hQ hy ha h
theorem og {fuel:Nat}{l:Array Bool}{a a0 a':Act}{v:Value}{w:World}(N:Tmp) (h:pR P md ops Q S ds fuel l a' w) (hs:a=a0.put (some N) v:=by rfl)
  (ha:a0.put (some N) v=a':=by(simp only [Act.put,List.setIfInBounds_toArray,List.set_cons_zero,List.set_cons_succ,qw,qM];rfl)):pR P md ops Q S ds fuel l a w:=rR (hs.trans ha) h
theorem noN {fuel:Nat}{l:Array Bool}{a a0 a':Act}{v:Value}{w:World}(N:Option Tmp) (h:pR P md ops Q S ds fuel l a' w) (hs:a=a0.put N v:=by rfl)
  (ha:a0.put N v=a':=by(simp only [Act.put,List.setIfInBounds_toArray,List.set_cons_zero,List.set_cons_succ,qw,qM];rfl)):pR P md ops Q S ds fuel l a w:=rR (hs.trans ha) h
end
section
variable {P:Program}{ops:Array Oper}{rest:List Oper}{o:Oper}{a:Act}{Q:Exit->Act->World->Prop}
theorem vG {W:World}(N:Tmp) (cs:Array Value) (t:TypeId)
  (h:∀g,g=W.heap.size->∀w1,w1.heap[g]? =some (.cells cs t (0,0))->Below W.heap.size W w1->wpList P ops Q rest (a.put o.dst (.pointer (some ⟨g,0,none⟩))) w1)
  (hd:o.dst=some N:=by with_reducible rfl) (hgd:o.guard=none:=by rfl)
  (hrun:(execOp a.eval o).run P W=.ok (.value (.pointer (some ⟨W.heap.size,0,none⟩))) (W.alloc (.cells cs t (0,0))):=by first|(go_simp;done)|(go_simp;rfl)):wpList P ops Q (o::rest) a W:=KA hgd hd hrun h
end
theorem nH {p q:Prop}(H:q) (h:q->p:=by(intro h_;(with_reducible repeat(first|apply ol|apply om|apply nN));exact h_)):p:=h H
theorem wN {p q:Prop}(H:q) (h:q->p:=by(intro h_;(with_reducible repeat(first|apply BD|apply BG|apply BF));exact h_)):p:=h H
theorem nG {p q:Prop}(H:q) (h:q->p:=by(intro h_;(with_reducible repeat(first|refine tH ?_ _|refine nZ ?_|refine qQ ?_ _));exact h_)):p:=h H
theorem nC {B:Nat}{w w1 w2:World}(H:Below B w w1) (h:Below B w w2:=by repeat(first|(with_reducible first|exact HB.out|apply rZ|apply t_|apply pz)|(with_reducible refine qY ?_ (lm.out (by assumption)))|exact HB.out)):Below B w w2:=h
theorem nY {w w1 w2:World}{g:Nat}{row:Option Nat}(H:oI w w1 g row) (h:oI w w2 g row:=by repeat(first|(with_reducible first|exact HK.out|apply oI.Bg|apply CP|apply uV|apply CO)|(with_reducible refine yt ?_ (lm.out (by assumption)) _)|exact HK.out)):oI w w2 g row:=h
theorem xm(h:p:=by(try simp only [List.map_toArray,List.map_cons,List.map_nil]);first|done|rfl|(simp only [List.length_drop,List.length_take];rfl)):p:=h
theorem xn(h:p:=by first|(with_reducible assumption)|assumption):p:=h
theorem dm {p:Prop}(h:p):lm p:=⟨h⟩
section
variable {w0 w w1 W W1:World}{g:Nat}{o:Obj}{row:Option Nat}
theorem nD (H:lm (w0.heap[g]? =some o)) (hb:Below w.heap.size w w1) (h:w0.heap[g]? =some o->w.heap[g]? =some o:=by(intro h_;(with_reducible repeat(first|refine tH ?_ _|refine nZ ?_|refine qQ ?_ _));exact h_)):lm (w1.heap[g]? =some o):=⟨rP (h H.out) hb⟩
theorem oQ (H:lm (w0.heap[g]? =some o)) {g1:Nat}(N:lm (g≠g1)) (hk:oI w w1 g1 row) (hr:some g≠row:=by simp) (h:w0.heap[g]? =some o->w.heap[g]? =some o:=by(intro h_;(with_reducible repeat(first|refine tH ?_ _|refine nZ ?_|refine qQ ?_ _));exact h_)):lm (w1.heap[g]? =some o):=⟨oI.blk hk (h H.out) N.out hr⟩
theorem pq (H:lm (w0.heap[g]? =some o)) (hg:w.grownBy w1 row) (hne:some g≠row) (h:w0.heap[g]? =some o->w.heap[g]? =some o:=by(intro h_;(with_reducible repeat(first|refine tH ?_ _|refine nZ ?_|refine qQ ?_ _));exact h_)):lm (w1.heap[g]? =some o):=⟨BP (h H.out) hg hne⟩
theorem nJ (H:lm (Below w.heap.size w w0)) (hb:Below W.heap.size W w1) (h:Below w.heap.size w W:=by repeat(first|(with_reducible first|exact HB.out|apply rZ|apply t_|apply pz)|(with_reducible refine qY ?_ (lm.out (by assumption)))|exact HB.out)):lm (Below w.heap.size w w1):=⟨o6 h hb⟩
theorem o8 {g:Nat}(H:lm (oI w w0 g none)) (hb:Below W.heap.size W w1) (h:oI w W g none:=by repeat(first|(with_reducible first|exact HK.out|apply oI.Bg|apply CP|apply uV|apply CO)|(with_reducible refine yt ?_ (lm.out (by assumption)) _)|exact HK.out)):lm (oI w w1 g none):=⟨oI.trans h (oI.of_below hb g none) (.inl rfl)⟩
theorem qi {g:Nat}(H:lm (oI w w0 g row)) (hk:oI W w1 g row) (h:oI w W g row:=by repeat(first|(with_reducible first|exact HK.out|apply oI.Bg|apply CP|apply uV|apply CO)|(with_reducible refine yt ?_ (lm.out (by assumption)) _)|exact HK.out)):lm (oI w w1 g row):=⟨oI.trans h hk (.inl rfl)⟩
theorem nE (H:lm (Below w.heap.size w w1)) {a:Addr}{v:Value}(h:w.cell? a=some v):w1.cell? a=some v:=(H.out.cell (World.block_lt_of_cell? w _ h)).trans h
theorem nz {cs:Array Value}{t:TypeId}(H:lm (w.heap[g]? =some (.cells cs t (0,0)))) (i:Nat) {v:Value}(h:cs[i]? =some v:=by rfl):w.cell? ⟨g,i,none⟩=some v:=(qU H.out i).trans h
end
section
variable {α β:Type}{d:Kd α}{d':Kd β}{e e' base base':Nat}{ok ok':Nat->Prop}{w0 w W w1:World}{u v:Value}{xs:List α}{ys:List β}
theorem oD (H:lm (Kd.R d e w0 base ok v xs)) (hb:Below w.heap.size w w1) (h:Kd.R d e w0 base ok v xs->Kd.R d e w base ok v xs:=by(intro h_;(with_reducible repeat(first|apply ol|apply om|apply nN));exact h_)):lm (Kd.R d e w1 base ok v xs):=⟨uw (h H.out) hb⟩
theorem vb (H:lm (Kd.V d e w0 base ok v xs)) (hb:Below w.heap.size w w1) (h:Kd.V d e w0 base ok v xs->Kd.V d e w base ok v xs:=by(intro h_;(with_reducible repeat(first|apply BD|apply BG|apply BF));exact h_)):lm (Kd.V d e w1 base ok v xs):=⟨J8 (h H.out) hb⟩
theorem qo (H:lm (Kd.R d e w0 base ok u xs)) (ho:Kd.R d' e' W w.heap.size ok' v ys) (hb:Below w.heap.size w w1) (h:Kd.R d e w0 base ok u xs->Kd.R d e w base ok u xs:=by(intro h_;(with_reducible repeat(first|apply ol|apply om|apply nN));exact h_)):lm (Kd.R d e w1 base (fun k=>ok k/\some k≠v.ownBlock) u xs):=⟨Dw (h H.out) (uN ho) hb⟩
theorem ve (H:lm (Kd.V d e w0 base ok u xs)) (ho:Kd.R d' e' W w.heap.size ok' v ys) (hb:Below w.heap.size w w1) (h:Kd.V d e w0 base ok u xs->Kd.V d e w base ok u xs:=by(intro h_;(with_reducible repeat(first|apply BD|apply BG|apply BF));exact h_)):lm (Kd.V d e w1 base (fun k=>ok k/\some k≠v.ownBlock) u xs):=⟨DD (h H.out) (uN ho) hb⟩
end
theorem ow(h:p:=by first|rfl|(simp[Value.ownBlock];rfl)):p:=h
theorem oq {p q:Prop}(H:q) (h:q->p:=by(intro h_;(first|rw[add_block]|(show some (Addr.add _ _).block≠_;rw[add_block])|skip);first|exact h_|exact h_.1|exact h_.2|exact h_.1.1|exact h_.1.2|exact h_.2.1|exact h_.2.2)):p:=h H
theorem nS {p q:Prop}(H:q) (h:q->p:=by(intro h_;repeat(first|exact h_|(with_reducible refine vS ?_ _)|(with_reducible refine vU ?_ _)|(with_reducible refine vT ?_)))):p:=h H
theorem oC {α β:Type}{o:Option α}{f:α->Option β}{r:β}(h:o.bind f=some r):∃a,lm (o=some a)/\f a=some r:=by
 obtain⟨a,h1,h2⟩:=Option.bind_eq_some_iff.mp h
 exact⟨a,⟨h1⟩,h2⟩
section
variable {w:World}{g:Nat}{t:TypeId}{v0 v1 v2 v3 v4 v5:Value}
theorem d1 (H:lm (w.heap[g]? =some (.cells #[v0] t (0,0)))):w.cell? ⟨g,0,none⟩=some v0/\w.frozen? ⟨g,0,none⟩=false:=⟨(qU H.out 0).trans rfl,qy H.out 0⟩
theorem nI (H:lm (w.heap[g]? =some (.cells #[v0,v1] t (0,0)))):w.cell? ⟨g,0,none⟩=some v0/\w.cell? ⟨g,1,none⟩=some v1/\w.frozen? ⟨g,0,none⟩=false/\w.frozen? ⟨g,1,none⟩=false:=⟨(qU H.out 0).trans rfl,(qU H.out 1).trans rfl,qy H.out 0,qy H.out 1⟩
theorem d3 (H:lm (w.heap[g]? =some (.cells #[v0,v1,v2] t (0,0)))):w.cell? ⟨g,0,none⟩=some v0/\w.cell? ⟨g,1,none⟩=some v1/\w.cell? ⟨g,2,none⟩=some v2/\w.frozen? ⟨g,0,none⟩=false/\w.frozen? ⟨g,1,none⟩=false/\w.frozen? ⟨g,2,none⟩=false:=⟨(qU H.out 0).trans rfl,(qU H.out 1).trans rfl,(qU H.out 2).trans rfl,qy H.out 0,qy H.out 1,qy H.out 2⟩
theorem d4 (H:lm (w.heap[g]? =some (.cells #[v0,v1,v2,v3] t (0,0)))):w.cell? ⟨g,0,none⟩=some v0/\w.cell? ⟨g,1,none⟩=some v1/\w.cell? ⟨g,2,none⟩=some v2/\w.cell? ⟨g,3,none⟩=some v3/\w.frozen? ⟨g,0,none⟩=false/\w.frozen? ⟨g,1,none⟩=false/\w.frozen? ⟨g,2,none⟩=false/\w.frozen? ⟨g,3,none⟩=false:=⟨(qU H.out 0).trans rfl,(qU H.out 1).trans rfl,(qU H.out 2).trans rfl,(qU H.out 3).trans rfl,qy H.out 0,qy H.out 1,qy H.out 2,qy H.out 3⟩
theorem d5 (H:lm (w.heap[g]? =some (.cells #[v0,v1,v2,v3,v4] t (0,0)))):w.cell? ⟨g,0,none⟩=some v0/\w.cell? ⟨g,1,none⟩=some v1/\w.cell? ⟨g,2,none⟩=some v2/\w.cell? ⟨g,3,none⟩=some v3/\w.cell? ⟨g,4,none⟩=some v4/\w.frozen? ⟨g,0,none⟩=false/\w.frozen? ⟨g,1,none⟩=false/\w.frozen? ⟨g,2,none⟩=false/\w.frozen? ⟨g,3,none⟩=false/\w.frozen? ⟨g,4,none⟩=false:=⟨(qU H.out 0).trans rfl,(qU H.out 1).trans rfl,(qU H.out 2).trans rfl,(qU H.out 3).trans rfl,(qU H.out 4).trans rfl,qy H.out 0,qy H.out 1,qy H.out 2,qy H.out 3,qy H.out 4⟩
theorem d6 (H:lm (w.heap[g]? =some (.cells #[v0,v1,v2,v3,v4,v5] t (0,0)))):w.cell? ⟨g,0,none⟩=some v0/\w.cell? ⟨g,1,none⟩=some v1/\w.cell? ⟨g,2,none⟩=some v2/\w.cell? ⟨g,3,none⟩=some v3/\w.cell? ⟨g,4,none⟩=some v4/\w.cell? ⟨g,5,none⟩=some v5/\w.frozen? ⟨g,0,none⟩=false/\w.frozen? ⟨g,1,none⟩=false/\w.frozen? ⟨g,2,none⟩=false/\w.frozen? ⟨g,3,none⟩=false/\w.frozen? ⟨g,4,none⟩=false/\w.frozen? ⟨g,5,none⟩=false:=⟨(qU H.out 0).trans rfl,(qU H.out 1).trans rfl,(qU H.out 2).trans rfl,(qU H.out 3).trans rfl,(qU H.out 4).trans rfl,(qU H.out 5).trans rfl,qy H.out 0,qy H.out 1,qy H.out 2,qy H.out 3,qy H.out 4,qy H.out 5⟩
end
section
variable {P:Program}{ops:Array Oper}{Q:Exit->Act->World->Prop}
theorem nT {rest:List Oper}{o:Oper}{a:Act}{w:World}(N:Tmp) (_hN:o.dst=some N) (h:wpList P ops Q (o::rest) a w):wpList P ops Q (o::rest) a w:=h
theorem oh {rest:List Oper}{o:Oper}{a:Act}{w:World}(f:FuncId) {as_:Array Operand}{ts:Array TypeId}(_ho:o.op=.call {callee:=.value (.func f),args:=as_,argTypes:=ts}) (h:wpList P ops Q (o::rest) a w):wpList P ops Q (o::rest) a w:=h
theorem wQ {rest:List Oper}{oi:Oper}{a:Act}{w:World}{f:FuncId}(N:Tmp) {fn:Func}{as_:Array Operand}{ts:Array TypeId}(hf:P.funcs[f]? =some fn) (args:Array Value)
  (h:Calls P f args w fun e w'=>∃v,e=.returned v/\wpList P ops Q rest (a.put (some N) v) w')
  (hop : oi.op = .call { callee := .value (.func f), args := as_, argTypes := ts } := by with_reducible rfl) (hd : oi.dst = some N := by rfl) (hg : oi.guard = none := by rfl) (hname : (fn.name == "runtime.NumGoroutine") = false := by kernel_rfl) (hb : fn.body.isSome = true := by rfl)
  (hargs:as_.map a.eval=args:=by exact xm):wpList P ops Q (oi::rest) a w:=yn (some N) hd hg hf hname hb args hop hargs h
variable {md:Region.Mode}{S:World->Prop}{ds:List Nat}
theorem gs {oi:Oper}{N:Option Tmp}{a:Act}{w:World}{K:Act->World->Prop}{f:FuncId}{fn:Func}{as_:Array Operand}{ts:Array TypeId}(hf:P.funcs[f]? =some fn) (args:Array Value)
  (h : Calls P f args w fun e w' => ∃ v, e = .returned v ∧ K (a.put N v) w') (hop : oi.op = .call { callee := .value (.func f), args := as_, argTypes := ts } := by rfl) (hname : (fn.name == "runtime.NumGoroutine") = false := by kernel_rfl) (hb : fn.body.isSome = true := by rfl)
  (hw:Region.wanted oi (yielded ops a.tmps)=true:=by rfl) (hN:oi.dst=N:=by rfl) (hargs:as_.map a.eval=args:=by exact xm):if Region.wanted oi (yielded ops a.tmps)=true then Oper.wp P oi a w K Q else K (a.put N undef) w:=uq hf hname hb args hw hN hop hargs h
theorem oO {oi:Oper}{fuel n b0:Nat}{a:Act}{w:World}(i:Nat) (N:Tmp) (b:Nat)
  (h:∀K:Act->World->Prop,Shut (∀a' w',S w'->(S w'->pR P md ops Q S ds fuel (pQ n b) a' w')->K a' w')->if Region.wanted oi (yielded ops a.tmps)=true then Oper.wp P oi a w K Q else K (a.put (some N) undef) w)
  (hi:ops[i]? =some oi:=by rfl) (hN:oi.dst=some N:=by rfl) (hc:xL md ops (pQ n b0) (pQ n b) i=true:=by exact xK HT_.out (by kernel_rfl)) (hd:i∉ds:=by decide):pR P md ops Q S ds (fuel+1) (pQ n b0) a w:=wD (pQ n b) hi hN hc hd h
theorem yw {oi:Oper}{fuel:Nat}{l:Array Bool}{a:Act}{w:World}(i:Nat) (N:Option Tmp) (l':Array Bool)
  (h:∀K:Act->World->Prop,Shut (∀a' w',S w'->(S w'->pR P md ops Q S ds fuel l' a' w')->K a' w')->if Region.wanted oi (yielded ops a.tmps)=true then Oper.wp P oi a w K Q else K (a.put N undef) w)
  (hi:ops[i]? =some oi:=by rfl) (hN:oi.dst=N:=by rfl) (hc:xL md ops l l' i=true:=by exact xK HT_.out (by kernel_rfl)) (hd:i∉ds:=by decide):pR P md ops Q S ds (fuel+1) l a w:=wD l' hi hN hc hd h
theorem qj {id:Nat}{a:Act}{w:World}{T:Bool×List (List Nat×List Nat)}{B:List Nat}(n:Nat) {S:World->Prop}(ds:List Nat) (hS:S w.drew) (hT:qx .any ops=T) (hB:qW T.2 B=true)
  (h:S w.drew->lm (qx .any ops=T)->lm (qW T.2 B=true)->pR P .any ops Q S ds n (pQ n 0) a w.drew) (hm:P.follows .mixedOrders=true:=by kernel_rfl) (hn:ops.size=n:=by rfl)
  (hl:Array.replicate n false=pQ n 0:=by kernel_rfl):(Code.region id ops true).wp P Q a w:=zt (pQ n 0) hm hn hl hS fun h1=>Di hT hB (h h1)
theorem uh {oi:Oper}{fuel:Nat}{l:Array Bool}{a:Act}{w:World}(i:Nat) (N:Option Tmp) (l':Array Bool)
  (h:∀K:Act->World->Prop,Shut (∀a' w',pR P md ops Q S ds fuel l' a' w'->K a' w')->if Region.wanted oi (yielded ops a.tmps)=true then Oper.wp P oi a w K Q else K (a.put N undef) w)
  (hi:ops[i]? =some oi:=by rfl) (hN:oi.dst=N:=by rfl) (hc:xL md ops l l' i=true:=by exact xK HT_.out (by kernel_rfl)) (hd:i∈ds:=by decide):pR P md ops Q S ds (fuel+1) l a w:=HV l' hi hN hc hd h
end
theorem qg {P:Prop} [Decidable P] {α:Type}{x:Option α}{r:α}(h:(if P then x else none)=some r):P/\x=some r:=by
 by_cases c:P
 ·rw[if_pos c]at h;exact⟨c,h⟩
 rw[if_neg c]at h;cases h
theorem A_ {P:Prop} [Decidable P] {α:Type}{x:Option α}{r:α}(h:(if P then none else x)=some r):¬P/\x=some r:=by
 by_cases c:P
 ·rw[if_pos c]at h;cases h
 rw[if_neg c]at h;exact⟨c,h⟩
theorem oz {P:Prop} [Decidable P] {α:Type}{x:Option α}{r:α}(h:(if P then x else none)=some r):decide P=true/\x=some r:=⟨decide_eq_true (qg h).1,(qg h).2⟩
theorem p8 {b:Bool}{α:Type}{x y:Option α}{r:α}(h:(if b=true then x else y)=some r):b=true/\x=some r\/b=false/\y=some r:=by
 cases b with
 |true=>exact .inl ⟨rfl,h⟩
 |false=>exact .inr ⟨rfl,h⟩
theorem pg {p q e:Prop}(hy:e) (H:q) (h:e->q->p:=by(intro hy_ H_;first|(rw[hy_];with_reducible exact H_)|(have aJ:=(Option.bind_some _ _).symm.trans H_;rw[hy_];with_reducible exact aJ)|(have aJ:=(Option.bind_some _ _).symm.trans H_;with_reducible exact aJ)|with_reducible exact H_|(rw[hy_];exact H_)|exact H_)):p:=h hy H
theorem Ox {w:World}{g t:Nat}{a b u v:Value}(H:w.heap[g]? =some (.cells #[a,b] t (0,0))):((w.setCell ⟨g,0,none⟩ u).setCell ⟨g,1,none⟩ v).heap[g]? =some (.cells #[u,v] t (0,0)):=BR (cs:= #[u,b]) (BR (cs:= #[a,b]) H 0 _ rfl) 1 _ rfl
theorem Ow {w:World}{g t:Nat}{a b v:Value}(H:w.heap[g]? =some (.cells #[a,b] t (0,0))):(w.setCell ⟨g,1,none⟩ v).heap[g]? =some (.cells #[a,v] t (0,0)):=BR (cs:= #[a,b]) H 1 _ rfl
theorem Ov {w:World}{g t:Nat}{a b u:Value}(H:w.heap[g]? =some (.cells #[a,b] t (0,0))):(w.setCell ⟨g,0,none⟩ u).heap[g]? =some (.cells #[u,b] t (0,0)):=BR (cs:= #[a,b]) H 0 _ rfl
theorem pJ {p q:Prop}(H:q) (h:q->p:=by(intro h_;repeat(first|(with_reducible first|exact h_|refine tH ?_ _|refine nZ ?_|refine qQ ?_ _)|refine u_ ?_ (lm.out (by assumption)) _|apply Ox|apply Ow|apply Ov|exact h_))):p:=h H
theorem tZ {p q r:Prop}(H:q) (N:r) (h:q->r->p:=by(intro ap_ ag_;first|exact Nat.ne_of_lt (Nat.lt_of_lt_of_le (by have:=World.block_lt_of_cell? _ _ ap_;first|rwa [add_block]at this|exact this) ag_)|(rw[add_block];exact Nat.ne_of_lt (Nat.lt_of_lt_of_le (by have:=World.block_lt_of_cell? _ _ ap_;first|rwa [add_block]at this|exact this) ag_))|(show(Addr.add _ _).block≠_;rw[add_block];exact Nat.ne_of_lt (Nat.lt_of_lt_of_le (by have:=World.block_lt_of_cell? _ _ ap_;first|rwa [add_block]at this|exact this) ag_))|(dsimp only;exact Nat.ne_of_lt (Nat.lt_of_lt_of_le (by have:=World.block_lt_of_cell? _ _ ap_;first|rwa [add_block]at this|exact this) ag_)))):p:=h H N
theorem nA {p:Prop} [Decidable p] (h:decide p=true:=by first|(with_reducible assumption)|assumption):p:=of_decide_eq_true h
theorem qI(h:p:=by first|rfl|(simp[rE,rF]<;>rfl)|(simp[*,rE,rF]<;>rfl)):p:=h
end Go.Proofs.Ytgeonpciodepgaa.P
namespace Go.Proofs.Ytgeonpciodepgaa.P
open Go.RowKit Go.Proofs.YtgeonpciodepgaaW.PrintWords Go.Proofs.YtgeonpciodepgaaW.PrintLast Go.Proofs.YtgeonpciodepgaaW.PrintWords.Kd
theorem uk {p q1 q2 q3 q4 q5 q6 q7 q8 q9 q10 q11 q12 q13 q14:Prop}(h1:q1) (h2:q2:=by exact trivial) (h3:q3:=by exact trivial) (h4:q4:=by exact trivial) (h5:q5:=by exact trivial) (h6:q6:=by exact trivial) (h7:q7:=by exact trivial) (h8:q8:=by exact trivial)
  (h9:q9:=by exact trivial) (h10:q10:=by exact trivial) (h11:q11:=by exact trivial) (h12:q12:=by exact trivial) (h13:q13:=by exact trivial) (h14:q14:=by exact trivial)
  (h:q1->q2->q3->q4->q5->q6->q7->q8->q9->q10->q11->q12->q13->q14->p:=by
   (intro a_ b_ c_ d_ e_ f_ g_ i_ j_ k_ l_ m_ n_ o_;repeat' with_reducible first|exact LeO.refl _|exact LeO.none _|refine LeO.ite ?_ ?_|refine LeO.bind ?_ (fun _=>?_)|apply a_|apply b_|apply c_|apply d_|apply e_|apply f_|apply g_|apply i_|apply j_|apply k_|apply l_|apply m_|apply n_|apply o_)):p:=h h1 h2 h3 h4 h5 h6 h7 h8 h9 h10 h11 h12 h13 h14
section
variable {P:Program}{ops:Array Oper}{Q:Exit->Act->World->Prop}{rest:List Oper}{o:Oper}{a:Act}{w:World}{f:FuncId}{fn:Func}{as_:Array Operand}{ts:Array TypeId}{args:Array Value}{v:Value}
theorem oZ {R:Ending->World->Prop}(N:Tmp) (hd:o.dst=some N) (hf:P.funcs[f]? =some fn) (T:Calls P f args w R) (h:∀e w',R e w'->∃v,e=.returned v/\wpList P ops Q rest (a.put (some N) v) w')
  (hop : o.op = .call { callee := .value (.func f), args := as_, argTypes := ts } := by with_reducible rfl) (hg : o.guard = none := by rfl) (hname : (fn.name == "runtime.NumGoroutine") = false := by kernel_rfl) (hb : fn.body.isSome = true := by rfl)
  (hargs:as_.map a.eval=args:=by exact xm):wpList P ops Q (o::rest) a w:=yn (some N) hd hg hf hname hb args hop hargs (T.mono h)
theorem rf {B:World->Prop}(N:Tmp) (hd:o.dst=some N) (hf:P.funcs[f]? =some fn) (T:Calls P f args w fun e w'=>e=.returned v/\B w') (h:∀w',B w'->wpList P ops Q rest (a.put (some N) v) w')
  (hop : o.op = .call { callee := .value (.func f), args := as_, argTypes := ts } := by with_reducible rfl) (hg : o.guard = none := by rfl) (hname : (fn.name == "runtime.NumGoroutine") = false := by kernel_rfl) (hb : fn.body.isSome = true := by rfl)
  (hargs:as_.map a.eval=args:=by exact xm):wpList P ops Q (o::rest) a w:=oZ N hd hf T (fun _ w' ⟨h1,h2⟩=>⟨v,h1,h w' h2⟩) hop hg hname hb hargs
theorem qm {R:Ending->World->Prop}{N:Option Tmp}{K:Act->World->Prop}(hf:P.funcs[f]? =some fn) (T:Calls P f args w R) (h:∀e w',R e w'->∃v,e=.returned v/\K (a.put N v) w')
  (hop : o.op = .call { callee := .value (.func f), args := as_, argTypes := ts } := by rfl) (hname : (fn.name == "runtime.NumGoroutine") = false := by kernel_rfl) (hb : fn.body.isSome = true := by rfl)
  (hw:Region.wanted o (yielded ops a.tmps)=true:=by rfl) (hN:o.dst=N:=by rfl) (hargs:as_.map a.eval=args:=by exact xm):if Region.wanted o (yielded ops a.tmps)=true then Oper.wp P o a w K Q else K (a.put N undef) w:=uq hf hname hb args hw hN hop hargs (T.mono h)
theorem tX {B:World->Prop}{N:Option Tmp}{K:Act->World->Prop}(hf:P.funcs[f]? =some fn) (T:Calls P f args w fun e w'=>e=.returned v/\B w') (h:∀w',B w'->K (a.put N v) w')
  (hop : o.op = .call { callee := .value (.func f), args := as_, argTypes := ts } := by rfl) (hname : (fn.name == "runtime.NumGoroutine") = false := by kernel_rfl) (hb : fn.body.isSome = true := by rfl)
  (hw:Region.wanted o (yielded ops a.tmps)=true:=by rfl) (hN:o.dst=N:=by rfl) (hargs:as_.map a.eval=args:=by exact xm):if Region.wanted o (yielded ops a.tmps)=true then Oper.wp P o a w K Q else K (a.put N undef) w:=qm hf T (fun _ w' ⟨h1,h2⟩=>⟨v,h1,h w' h2⟩) hop hname hb hw hN hargs
theorem oK {W:World}(cs:Array Value) (t:TypeId)
  (h:∀g,g=W.heap.size->∀w1,w1.heap[g]? =some (.cells cs t (0,0))->Below W.heap.size W w1->wpList P ops Q rest (a.put o.dst (.pointer (some ⟨g,0,none⟩))) w1)
  (hgd:o.guard=none:=by rfl)
  (hrun:(execOp a.eval o).run P W=.ok (.value (.pointer (some ⟨W.heap.size,0,none⟩))) (W.alloc (.cells cs t (0,0))):=by first|(go_simp;done)|(go_simp;rfl)):wpList P ops Q (o::rest) a W:=AU hgd hrun (h _ rfl _ (BQ W _) (rZ (Below.refl _ _) _))
end
section
variable {P:Program}{md:Region.Mode}{ops:Array Oper}{Q:Exit->Act->World->Prop}{S:World->Prop}{ds:List Nat}
theorem nR {fuel n b0:Nat}{a:Act}{w:World}{oi:Oper}{v:Value}{a':Act}(i:Nat) (N:Tmp) (b:Nat) (h:pR P md ops Q S ds fuel (pQ n b) a' w)
  (hi:ops[i]? =some oi:=by rfl) (hN:oi.dst=some N:=by rfl) (hc:takeB md ops ds (pQ n b0) (pQ n b) i=true:=by first|exact vz HT_.out HW_.out (by kernel_rfl)|kernel_rfl)
  (hQ:∀c a w,Q (.panic c) (a.put oi.dst v) w->Q (.panic c) a w:=by exact fun _ _ _ h=>h) (hy:YieldsIf P ops S oi v a:=by exact Or.inl ⟨by rfl,by(intro w' h_;(repeat(obtain⟨_,h_⟩:=h_));go_simp;with_reducible rfl)⟩) (hS:S w:=by exact hHeld)
  (ha:a.put (some N) v=a':=by first|(simp only [Act.put,List.setIfInBounds_toArray,List.set_cons_zero,List.set_cons_succ,qw,qM];rfl)|rfl):pR P md ops Q S ds (fuel+1) (pQ n b0) a w:=
 uF (pQ n b) hi hN hc hQ hy hS ha h
end
theorem sF {α:Type}{P:Program}{ops:Array Oper}{Q:Exit->Act->World->Prop}{rest:List Oper}{o:Oper}{a:Act}{W:World}(d:Kd α) {N:Tmp}(hd:o.dst=some N) (e:Nat) (xs:List α) (inner:List Value) (hrep:oH (d.M W W.heap.size (fun _=>True)) d.sz xs inner)
  (h:∀v1 w1,d.R e w1 W.heap.size (fun _=>True) v1 xs->Below W.heap.size W w1->W.grownBy w1 none->(∃b,v1.ownBlock=some b/\W.heap.size<=b)->wpList P ops Q rest (a.put o.dst v1) w1)
  (hm:xs.length<=9223372036854775807:=by simp) (hgd:o.guard=none:=by rfl)
  (hrun:(execOp a.eval o).run P W=.ok (.value (.slice (some ⟨W.heap.size,0,none⟩) xs.length xs.length)) (W.alloc (.cells inner.toArray e)):=by first|(go_simp;done)|(go_simp;rfl)):wpList P ops Q (o::rest) a W:=Bv d _ e hgd hd hrun hrep (fun _ hk=>hk) trivial (Below.refl _ _) (Nat.le_refl _) hm h
theorem p_ {p:Prop} [Decidable p] {α:Type}{x y:Option α}{r:α}(h:(if p then x else y)=some r):decide p=true/\x=some r\/decide p=false/\y=some r:=by
 by_cases c:p
 ·rw[if_pos c]at h;exact .inl ⟨decide_eq_true c,h⟩
 rw[if_neg c]at h;exact .inr ⟨decide_eq_false c,h⟩
end Go.Proofs.Ytgeonpciodepgaa.P
namespace Go.Proofs.Ytgeonpciodepgaa.P
set_option maxHeartbeats 8000000
set_option maxRecDepth 100000
open Go.RowKit Go.Proofs.YtgeonpciodepgaaW.PrintWords Go.Proofs.YtgeonpciodepgaaW.PrintLast Go.Proofs.YtgeonpciodepgaaW.PrintMore Go.Proofs.YtgeonpciodepgaaW.PrintWords.Kd Go.Proofs.YtgeonpciodepgaaW.PrintMore.Kd
attribute [local go_sem] xB xG xE xJ xD xI xC xH
def Hg:Option Int->Value
  |none=> .nilIface
  |some c=> .iface 0 (.int .i64 c)
theorem rE:Hg none=.nilIface:=rfl
theorem rF (c:Int):Hg (some c)=.iface 0 (.int .i64 c):=rfl
theorem info3:(Try.prog.info? 3).map (fun i=>(i.zero,i.size,i.bytes))=some (some (.int .i64 0),1,8):=by kernel_rfl
theorem Ht:(Try.prog.info? 4).map (fun i=>(i.zero,i.size,i.bytes))=some (some (.bool false),1,1):=by kernel_rfl
theorem info5:(Try.prog.info? 5).map (fun i=>(i.zero,i.size,i.bytes))=some (some (.int .u8 0),1,1):=by kernel_rfl
theorem zV:(Try.prog.info? 45).map (fun i=>(i.zero,i.size,i.bytes))=some (some (.slice none 0 0),1,24):=by kernel_rfl
theorem uI:(Try.prog.info? 59).map (fun i=>(i.zero,i.size,i.bytes))=some (some (.agg #[(.int .i64 0),(.int .i64 0)]),2,16):=by kernel_rfl
abbrev S59:=G.Tie
def z59:S59:=⟨(0:Int),(0:Int)⟩
def k59:Kd S59:=Kd.iso (Kd.pair (Kd.int .i64) (Kd.int .i64)) (fun x:S59=>(x.f0,x.f1))
theorem LU {w:World}{x:S59}{cs:List Value}(h:k59.K w x cs):cs=[.int .i64 x.f0,.int .i64 x.f1]:=by
  obtain⟨_,_,rfl,rfl,rfl⟩:=h;exact rfl
theorem Hu {w:World}{base:Nat}{ok:Nat->Prop}{x:S59}{cs:List Value}(h:k59.M w base ok x cs):cs=[.int .i64 x.f0,.int .i64 x.f1]:=by
  obtain⟨_,_,rfl,rfl,rfl⟩:=h;exact rfl
theorem ut (w:World) (base:Nat) (ok:Nat->Prop) (x:S59):k59.M w base ok x [.int .i64 x.f0,.int .i64 x.f1]:=⟨[.int .i64 x.f0],[.int .i64 x.f1],rfl,rfl,rfl⟩
def nk (xs:List S59) (i:Int):S59:=xs.getD i.toNat z59
theorem qJ {w:World}{A:Option Addr}{n:Nat}{xs:List S59}(h:Kd.C k59 w A n xs) (i:Int) (h0:0<=i) (h1:i<n):∃ad,A=some ad/\w.cell? (ad.add (i.toNat*2))=some (.int .i64 (nk xs i).f0)/\w.cell? ⟨(ad.add (i.toNat*2)).block,(ad.add (i.toNat*2)).off+1,none⟩=some (.int .i64 (nk xs i).f1):=by
  obtain⟨ad,c,e,_,hK,aa⟩:=Ag h z59 i h0 h1;have hc:∀j u,c[j]? =some u->w.cell? (ad.add (i.toNat*2+j))=some u:=aa;obtain rfl:=LU hK;exact⟨ad,e,hc 0 _ rfl,by rw[←Kg _ _ 1 (by omega)];exact hc 1 _ rfl⟩
def nO (xs:List (List Int)) (i:Int):(List Int):=xs.getD i.toNat ([]:List Int)
theorem tQ {w:World}{A:Option Addr}{n:Nat}{xs:List (List Int)}(h:Kd.C (Kd.slice 3 (Kd.int .i64)) w A n xs) (i:Int) (h0:0<=i) (h1:i<n):∃ad A0 c0,A=some ad/\w.cell? (ad.add i.toNat)=some (.slice A0 (nO xs i).length c0)/\(nO xs i).length<=c0/\(Kd.int .i64).C w A0 (nO xs i).length (nO xs i):=by
  obtain⟨ad,c,e,_,hK,aa⟩:=Ag h ([]:List Int) i h0 h1;have hc:∀j u,c[j]? =some u->w.cell? (ad.add (i.toNat*1+j))=some u:=aa;obtain⟨A0,c0,rfl,l0,g0⟩:=hK;exact⟨ad,A0,c0,e,by have hq:=hc 0 _ rfl;rwa [Nat.mul_one,Nat.add_zero]at hq,l0,g0⟩
structure S31 where
  f0:Int
  f1:(List S59)
end Go.Proofs.Ytgeonpciodepgaa.P
